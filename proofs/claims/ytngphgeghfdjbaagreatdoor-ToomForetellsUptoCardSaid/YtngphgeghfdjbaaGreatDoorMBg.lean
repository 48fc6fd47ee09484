/- sN of the proof (part 7): what the rows' text needs of the texts that lead to it. -/
import Derived.Test.YtngphgeghfdjbaaGreatDoorMBf
set_option linter.unusedVariables false
set_option linter.unusedSimpArgs false
set_option linter.unusedSectionVars false
set_option maxHeartbeats 4000000
noncomputable section
set_option maxRecDepth 100000
namespace Go.Sl.Ev
open Go Go.Sl
def rF:Nat:=1000000000
theorem Hb:rF=1000000000:=rfl
structure OldX (X:Nat→Prop) (ρ:Pl) (h:Tr CB) (nx:Nat) (w:World) (ρ':Pl) (h':Tr CB) (w':World):Prop where
 old:∀ t b,h'.get t=some b→Ly b<nx→h.get t=some b∧w'.heap[(ρ t).1]?=w.heap[(ρ t).1]?
 fr:∀ p,p<w.heap.size→(∀ t b,h.get t=some b→(ρ t).1≠p)→¬X p→w'.heap[p]?=w.heap[p]?
 nw:∀ t b,h'.get t=some b→w.heap.size≤(ρ' t).1∨∃ t' b',h.get t'=some b'∧(ρ t').1=(ρ' t).1
 sz:w.heap.size≤w'.heap.size
abbrev Iy:=OldX (fun _=>False)
section
variable {ρ ρ':Pl} {Φ:Imm→Prop} {w0:Bas Φ} {w w' w'':World} {h h' h'':Tr CB} {nx nx':Nat}
theorem OldX.refl {X:Nat→Prop}:OldX X ρ h nx w ρ h w:=⟨fun t b hb _=>⟨hb,rfl⟩,fun _ _ _ _=>rfl,fun t b hb=>.inr ⟨t,b,hb,rfl⟩,aE _⟩
abbrev eQ:=@OldX.refl
theorem Mem.lt (hm:Mem ρ w0 h nx w) {t:Nat} {b:CB} (ht:h.get t=some b):(ρ t).1<w.heap.size:=by
 obtain ⟨_,_,_,o,h1,_⟩:=hm.own t b ht
 exact (bM.1 h1).1
theorem Mem.klt (hm:Mem ρ w0 h nx w) {b:Nat} (hb:b∈w0.ks):b<w.heap.size:=(bM.1 (hm.kept b hb).2.1).1
theorem Dh {X:Nat→Prop} {ρ2:Pl} (hm:Mem ρ w0 h nx w) (k1:Iy ρ h nx w ρ' h' w') (k2:OldX X ρ' h' nx' w' ρ2 h'' w'') (hX:∀ p,X p→w.heap.size≤p) (hn:nx≤nx') (he:Ext nx ρ ρ'):Iy ρ h nx w ρ2 h'' w'':=by
 refine ⟨fun t b hb hs=>?_,fun p hp hu _=>?_,fun t b hb=>?_,aK k1.sz k2.sz⟩
 · obtain ⟨a1,a2⟩:=k2.old t b hb (bG hs hn)
   obtain ⟨b1,b2⟩:=k1.old t b a1 hs
   have e:=he t (hm.own t b b1).1
   rw [e] at a2
   exact ⟨b1,a2.trans b2⟩
 · refine (k2.fr p (bG hp k1.sz) (fun t b hb e=>?_) (fun hx=>iZ _ (bG hp (hX p hx)))).trans (k1.fr p hp hu id)
   rcases k1.nw t b hb with h1 | ⟨t',b',h1,h2⟩
   · omega
   exact hu t' b' h1 (h2.trans e)
 rcases k2.nw t b hb with h1 | ⟨t',b',h1,h2⟩
 · exact .inl (aK k1.sz h1)
 rw [←h2];exact k1.nw t' b' h1
theorem OldX.trans {ρ2:Pl} (hm:Mem ρ w0 h nx w) (k1:Iy ρ h nx w ρ' h' w') (k2:Iy ρ' h' nx' w' ρ2 h'' w'') (hn:nx≤nx') (he:Ext nx ρ ρ'):Iy ρ h nx w ρ2 h'' w'':=Dh hm k1 k2 (fun _ h=>h.elim) hn he
theorem Mem.new (hm:Mem ρ w0 h nx w) (hf:nx<rF) {b:CB} {o:Obj} {s:Nat} (hst:Ly b=nx) (hu:Upd (fun _=>False) w w') (hs:w'.heap.size=w.heap.size+1) (ho:w'.heap[w.heap.size]?=some o) (hb:DB nx ρ s b o) :
 ∃ ρ',Ext nx ρ ρ'∧ρ' nx=(w.heap.size,s)∧Mem ρ' w0 (h.set (some b) rF nx) (nx+1) w'∧Iy ρ h nx w ρ' (h.set (some b) rF nx) w':=by
 have hext:Ext nx ρ (fun t=>if t=nx then (w.heap.size,s) else ρ t):=fun t ht=>by simp [qI ht]
 have get:=fun j=>dG (some b) rF h nx j hf
 refine ⟨fun t=>if t=nx then (w.heap.size,s) else ρ t,hext,by simp,⟨hm.upd.trans hu,?_,?_,hm.imm,hm.nod,fun c hc=>?_⟩,?_⟩
 · intro t b' ht
   rw [get] at ht
   by_cases e:t=nx
   · subst e
     rw [aT rfl] at ht
     cases ht
     simp only [dN]
     exact ⟨by omega,by omega,hm.upd.size,o,ho,hb.up (cD _) hext⟩
   rw [aF e] at ht
   obtain ⟨h1,hs1,h2,o',h3,h4⟩:=hm.own t b' ht
   simp only [e,dO]
   refine ⟨by omega,by omega,h2,o',?_,h4.up (cD _) hext⟩
   rw [hu.same _ (hm.lt ht) id];exact h3
 · intro t t' b1 b2 h1 h2 he
   rw [get] at h1 h2
   by_cases e:t=nx <;> by_cases e':t'=nx
   · rw [e,e']
   · rw [aF e'] at h2
     have:=hm.lt h2
     simp only [e,e',dN,dO] at he
     omega
   · rw [aF e] at h1
     have:=hm.lt h1
     simp only [e,e',dN,dO] at he
     omega
   rw [aF e] at h1
   rw [aF e'] at h2
   simp only [e,e',dO] at he
   exact hm.one t t' b1 b2 h1 h2 he
 · obtain ⟨k1,k2,k3⟩:=hm.kept c hc
   have hl:=hm.klt hc
   refine ⟨k1,(hu.same _ hl id).trans k2,fun t b' ht=>?_⟩
   rw [get] at ht
   by_cases e:t=nx
   · simp only [e,dN];omega
   rw [aF e] at ht
   simp only [e,dO]
   exact k3 t b' ht
 refine ⟨fun t b' hb' hst'=>?_,fun p hp _ _=>hu.same _ hp id,fun t b' hb'=>?_,hu.size⟩
 · rw [get] at hb'
   by_cases e:t=nx
   · rw [aT e] at hb';cases hb';omega
   rw [aF e] at hb'
   exact ⟨hb',hu.same _ (hm.lt hb') id⟩
 rw [get] at hb'
 by_cases e:t=nx
 · simp only [e,dN];exact .inl (aE _)
 rw [aF e] at hb'
 simp only [e,dO];exact .inr ⟨t,b',hb',rfl⟩
theorem Mem.write (hm:Mem ρ w0 h nx w) (hf:nx≤rF) {t:Nat} {b b':CB} {o:Obj} (hst:Ly b'=nx) (ht:h.get t=some b) (hu:Upd (·=(ρ t).1) w w') (ho:w'.heap[(ρ t).1]?=some o) (hb:DB nx ρ (ρ t).2 b' o) :
 Mem ρ w0 (h.set (some b') rF t) (nx+1) w'∧Iy ρ h nx w ρ (h.set (some b') rF t) w':=by
 obtain ⟨h1,hs1,h2,_⟩:=hm.own t b ht
 have get:=fun j=>dG (some b') rF h t j qX
 refine ⟨⟨⟨hu.os.trans hm.upd.os,hu.tape.trans hm.upd.tape,hu.output.trans hm.upd.output,aK hm.upd.size hu.size,fun k hk hx=>?_⟩,?_,?_,hm.imm,hm.nod,fun c hc=>?_⟩,?_⟩
 · exact (hu.same k (bG hk hm.upd.size) qX).trans (hm.upd.same k hk hx)
 · intro t' c hc
   rw [get] at hc
   by_cases e:t'=t
   · subst e
     rw [aT rfl] at hc
     cases hc
     exact ⟨by omega,by omega,h2,o,ho,hb.up (cD _) (cK _ _)⟩
   rw [aF e] at hc
   obtain ⟨g1,gs,g2,o',g3,g4⟩:=hm.own t' c hc
   refine ⟨by omega,by omega,g2,o',?_,g4.up (cD _) (cK _ _)⟩
   rw [hu.same _ (hm.lt hc) (fun e2=>e (hm.one t' t c b hc ht e2))];exact g3
 · intro t1 t2 b1 b2 e1 e2 he
   have f:∀ t' c,(h.set (some b') rF t).get t'=some c→∃ c',h.get t'=some c':=fun t' c hc=>by
    rw [get] at hc
    by_cases e:t'=t
    · subst e;exact ⟨b,ht⟩
    rw [aF e] at hc;exact ⟨c,hc⟩
   obtain ⟨c1,g1⟩:=f t1 b1 e1
   obtain ⟨c2,g2⟩:=f t2 b2 e2
   exact hm.one t1 t2 c1 c2 g1 g2 he
 · obtain ⟨k1,k2,k3⟩:=hm.kept c hc
   refine ⟨k1,(hu.same _ (hm.klt hc) (fun e=>k3 t b ht e.symm)).trans k2,fun t' b' ht'=>?_⟩
   rw [get] at ht'
   by_cases e:t'=t
   · subst e;exact k3 _ _ ht
   rw [aF e] at ht';exact k3 _ _ ht'
 refine ⟨fun t' c hc hs'=>?_,fun p hp hup _=>hu.same _ hp (fun e=>hup t b ht e.symm),fun t' c hc=>?_,hu.size⟩
 · rw [get] at hc
   by_cases e:t'=t
   · rw [aT e] at hc;cases hc;omega
   rw [aF e] at hc
   exact ⟨hc,hu.same _ (hm.lt hc) (fun e2=>e (hm.one t' t c b hc ht e2))⟩
 rw [get] at hc
 by_cases e:t'=t
 · exact .inr ⟨t,b,ht,by rw [e]⟩
 rw [aF e] at hc;exact .inr ⟨t',c,hc,rfl⟩
theorem Mem.kill (hm:Mem ρ w0 h nx w) (hf:nx≤rF) {t:Nat} (ht:t<nx):Mem ρ w0 (h.set none rF t) nx w∧Iy ρ h nx w ρ (h.set none rF t) w:=by
 have get:=fun j=>dG (none:Option CB) rF h t j qX
 have f:∀ t' c,(h.set none rF t).get t'=some c→h.get t'=some c:=fun t' c hc=>by
  rw [get] at hc
  by_cases e:t'=t
  · rw [aT e] at hc;cases hc
  rw [aF e] at hc;exact hc
 exact ⟨⟨hm.upd,fun t' c hc=>hm.own t' c (f t' c hc),fun t1 t2 b1 b2 e1 e2 he=>hm.one t1 t2 b1 b2 (f _ _ e1) (f _ _ e2) he,hm.imm,hm.nod,fun c hc=>⟨(hm.kept c hc).1,(hm.kept c hc).2.1,fun t' b' ht'=>(hm.kept c hc).2.2 t' b' (f _ _ ht')⟩⟩,⟨fun t' c hc _=>⟨f _ _ hc,rfl⟩,fun _ _ _ _=>rfl,fun t' c hc=>.inr ⟨t',c,f _ _ hc,rfl⟩,aE _⟩⟩
theorem Mem.drop (hm:Mem ρ w0 h nx w) (hf:nx≤rF) {t:Nat} {b:CB} (ht:h.get t=some b) (hu:Upd (·=(ρ t).1) w w'):Mem ρ w0 (h.set none rF t) nx w'∧Iy ρ h nx w ρ (h.set none rF t) w':=by
 obtain ⟨h1,hs1,h2,_⟩:=hm.own t b ht
 have get:=fun j=>dG (none:Option CB) rF h t j qX
 have f:∀ t' c,(h.set none rF t).get t'=some c→t'≠t∧h.get t'=some c:=fun t' c hc=>by
  rw [get] at hc
  by_cases e:t'=t
  · rw [aT e] at hc;cases hc
  rw [aF e] at hc;exact ⟨e,hc⟩
 have ne:∀ t' c,(h.set none rF t).get t'=some c→(ρ t').1≠(ρ t).1:=fun t' c hc e=>(f t' c hc).1 (hm.one t' t c b (f t' c hc).2 ht e)
 refine ⟨⟨⟨hu.os.trans hm.upd.os,hu.tape.trans hm.upd.tape,hu.output.trans hm.upd.output,aK hm.upd.size hu.size,fun k hk hx=>?_⟩,fun t' c hc=>?_,fun t1 t2 b1 b2 e1 e2 he=>hm.one t1 t2 b1 b2 (f _ _ e1).2 (f _ _ e2).2 he,hm.imm,hm.nod,fun c hc=>?_⟩,?_⟩
 · exact (hu.same k (bG hk hm.upd.size) qX).trans (hm.upd.same k hk hx)
 · obtain ⟨g1,gs,g2,o',g3,g4⟩:=hm.own t' c (f t' c hc).2
   exact ⟨g1,gs,g2,o',(hu.same _ (hm.lt (f t' c hc).2) (ne t' c hc)).trans g3,g4⟩
 · obtain ⟨k1,k2,k3⟩:=hm.kept c hc
   exact ⟨k1,(hu.same _ (hm.klt hc) (fun e=>k3 t b ht e.symm)).trans k2,fun t' b' ht'=>k3 t' b' (f _ _ ht').2⟩
 exact ⟨fun t' c hc _=>⟨(f t' c hc).2,hu.same _ (hm.lt (f t' c hc).2) (ne t' c hc)⟩,fun p hp hup _=>hu.same _ hp (fun e=>hup t b ht e.symm),fun t' c hc=>.inr ⟨t',c,(f _ _ hc).2,rfl⟩,hu.size⟩
theorem Mem.rename (hm:Mem ρ w0 h nx w) (hf:nx<rF) {t:Nat} {b b':CB} {o:Obj} (hst:Ly b'=nx) (ht:h.get t=some b) (hu:Upd (·=(ρ t).1) w w') (ho:w'.heap[(ρ t).1]?=some o) (hb:DB nx ρ (ρ t).2 b' o) :
 ∃ ρ',Ext nx ρ ρ'∧ρ' nx=ρ t∧Mem ρ' w0 ((h.set none rF t).set (some b') rF nx) (nx+1) w'∧Iy ρ h nx w ρ' ((h.set none rF t).set (some b') rF nx) w':=by
 have htn:=(hm.own t b ht).1
 have h0:=(hm.own t b ht).2.2.1
 have hext:Ext nx ρ (fun u=>if u=nx then ρ t else ρ u):=fun u hu=>by simp [qI hu]
 have g1:=fun j=>dG (none:Option CB) rF h t j qX
 have get:=fun j=>dG (some b') rF (h.set none rF t) nx j hf
 have f:∀ u c,((h.set none rF t).set (some b') rF nx).get u=some c→(u=nx∧c=b')∨(u≠nx∧u≠t∧h.get u=some c):=fun u c hc=>by
  rw [get] at hc
  by_cases e:u=nx
  · rw [aT e] at hc;cases hc;exact .inl ⟨e,rfl⟩
  rw [aF e,g1] at hc
  by_cases e2:u=t
  · rw [aT e2] at hc;cases hc
  rw [aF e2] at hc;exact .inr ⟨e,e2,hc⟩
 refine ⟨_,hext,by simp,⟨⟨hu.os.trans hm.upd.os,hu.tape.trans hm.upd.tape,hu.output.trans hm.upd.output,aK hm.upd.size hu.size,fun k hk hx=>?_⟩,?_,?_,hm.imm,hm.nod,fun c hc=>?_⟩,?_⟩
 · exact (hu.same k (bG hk hm.upd.size) qX).trans (hm.upd.same k hk hx)
 · intro u c hc
   rcases f u c hc with ⟨rfl,rfl⟩ | ⟨e1,e2,h1⟩
   · simp only [dN]
     exact ⟨by omega,by omega,h0,o,ho,hb.up (cD _) hext⟩
   obtain ⟨k1,ks,k2,o',k3,k4⟩:=hm.own u c h1
   simp only [e1,dO]
   refine ⟨by omega,by omega,k2,o',?_,k4.up (cD _) hext⟩
   rw [hu.same _ (hm.lt h1) (fun e3=>e2 (hm.one u t c b h1 ht e3))];exact k3
 · intro u u' c c' hc hc' he
   rcases f u c hc with ⟨rfl,rfl⟩ | ⟨e1,e2,h1⟩ <;> rcases f u' c' hc' with ⟨rfl,rfl⟩ | ⟨e1',e2',h1'⟩
   · rfl
   · simp only [dN,e1',dO] at he
     exact absurd (hm.one t u' b c' ht h1' he) (fun e=>e2' e.symm)
   · simp only [dN,e1,dO] at he
     exact absurd (hm.one u t c b h1 ht he) e2
   simp only [e1,e1',dO] at he
   exact hm.one u u' c c' h1 h1' he
 · obtain ⟨k1,k2,k3⟩:=hm.kept c hc
   refine ⟨k1,(hu.same _ (hm.klt hc) (fun e=>k3 t b ht e.symm)).trans k2,fun t' c' ht'=>?_⟩
   rcases f t' c' ht' with ⟨rfl,rfl⟩ | ⟨e1,e2,h1⟩
   · simp only [dN];exact k3 _ _ ht
   simp only [e1,dO];exact k3 _ _ h1
 refine ⟨fun u c hc hs=>?_,fun p hp hup _=>hu.same _ hp (fun e=>hup t b ht e.symm),fun u c hc=>?_,hu.size⟩
 · rcases f u c hc with ⟨rfl,rfl⟩ | ⟨e1,e2,h1⟩
   · omega
   exact ⟨h1,hu.same _ (hm.lt h1) (fun e3=>e2 (hm.one u t c b h1 ht e3))⟩
 rcases f u c hc with ⟨rfl,rfl⟩ | ⟨e1,e2,h1⟩
 · simp only [dN];exact .inr ⟨t,b,ht,rfl⟩
 simp only [e1,dO];exact .inr ⟨u,c,h1,rfl⟩
end
section
variable {Φ:Imm→Prop} {ρ ρ':Pl} {w0:Bas Φ} {w w':World} {E E':Tr CV} {h h':Tr CB} {nx nx' n:Nat} {a a':Act}
theorem Mem.base {ks:List Nat} {W:World} {G:Imm} {ok:Φ G} {s s':Nat} (hm:Mem ρ ⟨W,ks,G,ok,s⟩ h nx w):Mem ρ ⟨W,ks,G,ok,s'⟩ h nx w:=⟨hm.upd,hm.own,hm.one,hm.imm,hm.nod,hm.kept⟩
theorem Mem.less {ks os:List Nat} {W:World} {G:Imm} {ok:Φ G} {s:Nat} (hm:Mem ρ ⟨W,os++ks,G,ok,s⟩ h nx w):Mem ρ ⟨W,ks,G,ok,s⟩ h nx w:=
 ⟨hm.upd,hm.own,hm.one,hm.imm,(nQ.1 hm.nod).2.1,fun b hb=>hm.kept b (gU _ hb)⟩
theorem Rel.slots (hR:Rel ρ w0 n E h nx a w):Slots ρ E nx n a:=by obtain ⟨os,hR⟩:=hR;exact hR.slots
theorem Rel.mem (hR:Rel ρ w0 n E h nx a w):Mem ρ w0 h nx w:=by obtain ⟨os,hR⟩:=hR;exact hR.mem.less
theorem Rel.put (hR:Rel ρ w0 n E h nx a w) {d:Option Nat} {v:Value} (hs:Slots ρ E' nx n (a.put d v)):Rel ρ w0 n E' h nx (a.put d v) w:=by
 obtain ⟨os,hR⟩:=hR
 exact ⟨os,hs,(show (a.put d v).defers=a.defers by cases d <;> rfl).trans hR.defers,hR.mem,hR.mks,hR.ss⟩
theorem Mem.grow (hm:Mem ρ w0 h nx w) (hu:Upd (fun _=>False) w w'):Mem ρ w0 h nx w'∧Iy ρ h nx w ρ h w':=by
 refine ⟨⟨hm.upd.trans hu,fun t b ht=>?_,hm.one,hm.imm,hm.nod,fun b hb=>?_⟩,⟨fun t b hb _=>⟨hb,hu.same _ (hm.lt hb) id⟩,fun p hp _ _=>hu.same _ hp id,fun t b hb=>.inr ⟨t,b,hb,rfl⟩,hu.size⟩⟩
 · obtain ⟨h1,h2,h3,o,h4,h5⟩:=hm.own t b ht
   exact ⟨h1,h2,h3,o,(hu.same _ (hm.lt ht) id).trans h4,h5⟩
 obtain ⟨k1,k2,k3⟩:=hm.kept b hb
 exact ⟨k1,(hu.same _ (hm.klt hb) id).trans k2,k3⟩
theorem Mem.keep {ks:List Nat} {W:World} {G:Imm} {ok:Φ G} {s:Nat} (hm:Mem ρ ⟨W,ks,G,ok,s⟩ h nx w):Mem ρ ⟨W,w.heap.size :: ks,G,ok,s⟩ h nx (w.alloc (.deferred (some [])))∧Iy ρ h nx w ρ h (w.alloc (.deferred (some []))):=by
 obtain ⟨g1,g2⟩:=hm.grow (w':=w.alloc (.deferred (some []))) ((jF _ w).alloc _)
 have hn:w.heap.size ∉ ks:=fun hb=>iZ _ (hm.klt hb)
 refine ⟨⟨g1.upd,g1.own,g1.one,g1.imm,iW.2 ⟨hn,hm.nod⟩,fun b hb=>?_⟩,g2⟩
 rcases cH.1 hb with rfl | hb
 · refine ⟨hm.upd.size,rY w _,fun t c ht=>?_⟩
   have:=hm.lt ht
   omega
 exact g1.kept b hb
theorem Mem.shut {b:Nat} {ks:List Nat} {W:World} {G:Imm} {ok:Φ G} {s:Nat} (hm:Mem ρ ⟨W,b :: ks,G,ok,s⟩ h nx w):Mem ρ ⟨W,ks,G,ok,s⟩ h nx (w.putObj b (.deferred none))∧OldX (·=b) ρ h nx w ρ h (w.putObj b (.deferred none)):=by
 obtain ⟨k1,k2,k3⟩:=hm.kept b (bC ..)
 have hu:=tB w b (.deferred none)
 have hnd:=iW.1 hm.nod
 refine ⟨⟨⟨hu.os.trans hm.upd.os,hu.tape.trans hm.upd.tape,hu.output.trans hm.upd.output,aK hm.upd.size hu.size,fun k hk hx=>?_⟩,fun t c ht=>?_,hm.one,hm.imm,hnd.2,fun c hc=>?_⟩,⟨fun t c hc _=>⟨hc,hu.same _ (hm.lt hc) (k3 t c hc)⟩,fun p hp _ hx=>hu.same _ hp hx,fun t c hc=>.inr ⟨t,c,hc,rfl⟩,hu.size⟩⟩
 · exact (hu.same k (bG hk hm.upd.size) (fun e=>by subst e;exact absurd k1 (by show ¬W.heap.size≤k;exact Nat.not_le.2 hk))).trans (hm.upd.same k hk hx)
 · obtain ⟨h1,h2,h3,o,h4,h5⟩:=hm.own t c ht
   exact ⟨h1,h2,h3,o,(hu.same _ (hm.lt ht) (k3 t c ht)).trans h4,h5⟩
 obtain ⟨q1,q2,q3⟩:=hm.kept c (aV _ hc)
 exact ⟨q1,(hu.same _ (hm.klt (aV _ hc)) (fun e=>hnd.1 (by rw [←e];exact hc))).trans q2,q3⟩
end
inductive Ro where
 | bad
 | val (v:CV) (h:Tr CB) (nx:Nat)
 | unit (h:Tr CB) (nx:Nat)
def Wd {Φ:Imm→Prop} (P:Program) (op:Op) (ρ:Pl) (w0:Bas Φ) (h:Tr CB) (nx:Nat) (a:Act) (w:World):Ro→Prop
 | .bad=>True
 | .val c h' nx'=>nx≤nx'∧∃ v w' ρ',Ext nx ρ ρ'∧Kn nx' ρ' c v∧Mem ρ' w0 h' nx' w'∧nx'≤rF∧Iy ρ h nx w ρ' h' w'∧∀ (d:Option Tmp) (ty:TypeId) (pos:String) (after:Array Edge) (g:Option (Nat×Bool)),(execOp a.eval ⟨d,op,ty,pos,after,g⟩).run P w=.ok (.value v) w'
 | .unit h' nx'=>nx≤nx'∧∃ w' ρ',Ext nx ρ ρ'∧Mem ρ' w0 h' nx' w'∧nx'≤rF∧Iy ρ h nx w ρ' h' w'∧∀ (ty:TypeId) (pos:String) (after:Array Edge) (g:Option (Nat×Bool)),(execOp a.eval ⟨none,op,ty,pos,after,g⟩).run P w=.ok .skip w'
section
variable {P:Program} {w:World}
theorem Be {t tx ty e:TypeId} {i:TypeInfo} (ht:P.underlying t=some (.slice e)) (hi:P.info? e=some i) {b off sLen sCap:Nat} {cur:Array Value} {bt:TypeId} (hb:w.heap[b]?=some (.cells cur bt (0,0))) {x:Value} {n:Nat} {news:List Value} (hs:Go.Src P i.size tx x n news w)
 (hroom:sLen+n≤sCap) (hfit:off+sLen*i.size+news.length≤cur.size) :
 (Builtin.append_ #[t,tx] ty #[.slice (some ⟨b,off,none⟩) sLen sCap,x]).run P w=.ok (.slice (some ⟨b,off,none⟩) (sLen+n) sCap) (w.setRow b (cur.toList.take (off+sLen*i.size)++news++cur.toList.drop (off+sLen*i.size+news.length)).toArray):=by
 have hst:=nK P b (off+sLen*i.size) bt news 0 cur w hb (by simpa using hfit) hs.one
 simp only [gJ] at hst
 rcases hs.kind with ⟨e',hk⟩ | hk <;> simp [Builtin.append_,aO ht,aO hk,sizeOf,typeInfo,hi,hs.len,hroom,hs.cells,Addr.add_lit,hst]
theorem AY {t tx ty e:TypeId} {i:TypeInfo} (ht:P.underlying t=some (.slice e)) (hi:P.info? e=some i) {b off dLen dCap:Nat} {cur:Array Value} {bt:TypeId} (hb:w.heap[b]?=some (.cells cur bt (0,0))) {src:Addr} {sLen sCap k:Nat} {news:List Value}
 (hk:Nat.min sLen dLen=k) (hl:news.length=k*i.size) (hn:∀ j v,news[j]?=some v→w.cell? (src.add j)=some v) (h1:∀ v∈news,v.oneCell'=true) (hfit:off+news.length≤cur.size) :
 (Builtin.copy_ #[t,tx] ty #[.slice (some ⟨b,off,none⟩) dLen dCap,.slice (some src) sLen sCap]).run P w=.ok (.int .i64 (k:Int)) (w.setRow b (cur.toList.take off++news++cur.toList.drop (off+news.length)).toArray):=by
 have hst:=nK P b off bt news 0 cur w hb (by simpa using hfit) h1
 simp only [gJ] at hst
 have hld:=kK (P:=P) w src news hn
 rw [hl] at hld
 simp [Builtin.copy_,aO ht,Builtin.lenOf,Builtin.firstCells,sizeOf,typeInfo,hi,hk,hld,hst,goInt]
theorem Wi {t tx ty e:TypeId} {i:TypeInfo} (ht:P.underlying t=some (.slice e)) (hi:P.info? e=some i) {d a:Option Addr} {dLen dCap sLen sCap:Nat} (hk:Nat.min sLen dLen=0) :
 (Builtin.copy_ #[t,tx] ty #[.slice d dLen dCap,.slice a sLen sCap]).run P w=.ok (.int .i64 0) w:=by
 have hl:∀ (x:Addr),(loadCells x 0).run P w=.ok #[] w:=fun x=>by simpa using kK (P:=P) w x [] rV
 cases d <;> cases a <;> simp [Builtin.copy_,aO ht,Builtin.lenOf,Builtin.firstCells,sizeOf,typeInfo,hi,hk,storeCells,hl,goInt]
theorem Ee {zs:List Value} (h0:0<zs.length) (n:Nat):madeCells zs.toArray (n*zs.length)=(List.replicate n zs).flatten.toArray:=by
 apply qA
 apply eW
 intro q
 have hlen:(List.replicate n zs).flatten.length=n*zs.length:=rV
 by_cases hq:q<n*zs.length
 · have h6:q % zs.length<zs.length:=lN _ h0
   have h7:zs.toArray[q % zs.toArray.size]! = zs[q % zs.length]'h6:=by
    rw [qD zs.toArray _ (by simpa using h6)]
    simp
   simp only [madeCells,oD,Array.toList_range,cG,gH hq,dP,h7]
   symm
   have key:∀ (n q:Nat),q<n*zs.length→(List.replicate n zs).flatten[q]?=some (zs[q % zs.length]'(lN _ h0)):=by
    intro n
    induction n with
    | zero=>intro q h;simp at h
    | succ n ih =>
      intro q h
      rw [pU,List.flatten_cons]
      by_cases hz:q<zs.length
      · rw [bE hz,aD hz]
        congr 1
        simp only [gP hz]
      have h2:zs.length≤q:=qX
      rw [cM h2,ih (q - zs.length) (by rw [Nat.succ_mul] at h;omega)]
      congr 1
      have h3:(q - zs.length) % zs.length=q % zs.length:=by rw [←Nat.mod_eq_sub_mod h2]
      simp only [h3]
   exact key n q hq
 rw [cJ (by simp [madeCells];omega),cJ (by show (List.replicate n zs).flatten.length≤q;omega)]
end
def AZ (P:Program) (T:Nat):Option (Nat×Nat×Nat×CV):=match P.underlying T with
 | some (.slice E)=>match P.info? E with
   | some i=>match GR P E with
     | some z=>bif Nat.beq (rU z) i.size && Nat.ble 1 i.size then some (E,i.size,i.bytes,z) else none
     | none=>none
   | none=>none
 | _=>none
theorem Cm {P:Program} {T E sz by':Nat} {z:CV} (h:AZ P T=some (E,sz,by',z)) (nx:Nat) (ρ:Pl) :
 P.underlying T=some (.slice E)∧∃ i v,P.info? E=some i∧i.zero=some v∧i.size=sz∧i.bytes=by'∧KL nx ρ z v.cells.toList∧v.cells.toList.length=sz∧0<sz:=by
 unfold AZ at h
 split at h
 · rename_i E' hu
   split at h
   · rename_i i hi
     split at h
     · rename_i z' hz
       rcases rA h with ⟨h1,h⟩ | ⟨_,h⟩
       · cases h
         simp only [aA] at h1
         obtain ⟨i',v,hi',hv,kz⟩:=Gu hz nx ρ
         rw [hi] at hi'
         cases hi'
         have:=aB h1.1
         rw [rX kz] at this
         exact ⟨hu,i,v,hi,hv,rfl,rfl,kz,this,aU h1.2⟩
       cases h
     cases h
   cases h
 cases h
def IM (P:Program) (E:Tr CV) (h:Tr CB) (sz:Nat) (tx:Nat) (x:Operand):Option (Nat×CV):=match sH E x with
 | some .nils=>match Jy P tx with | some _=>some (0,.nil) | none=>none
 | some (.sl t o n sz' _)=>bif Nat.beq sz sz' then (match Jy P tx with
   | some _=>(match h.get t with
     | some (.cells l _ _ _)=>bif Nat.beq (rU (sB l o (Nat.mul n sz))) (Nat.mul n sz) && Au (sB l o (Nat.mul n sz)) then some (n,sB l o (Nat.mul n sz)) else none
     | _=>none)
   | none=>none) else none
 | some (.str s)=>bif Nat.beq sz 1 then (match P.underlying tx with | some .string=>some (rU s,s) | _=>none) else none
 | _=>none
def OB (P:Program) (E:Tr CV) (h:Tr CB) (nx:Nat) (T tx:Nat) (s x:Operand):Ro:=match AZ P T with
 | some (e,sz,by',_)=>match IM P E h sz tx x with
   | some (m,news)=>match sH E s with
     | some .nils=>bif Nat.beq m 0 then .bad else
      bif Nat.ble (Nat.mul m by') 140737488355328 && (Nat.ble m 4611686018427387904 && Nat.ble (Nat.succ nx) rF) then .val (.sl nx 0 m sz none) (h.set (some (.cells (It news) e true nx)) rF nx) (Nat.succ nx) else .bad
     | some (.sl t o n sz' c)=>bif not (Nat.beq sz sz') then .bad else bif Nat.beq m 0 then .val (.sl t o n sz c) h nx else
       (match h.get t with
       | some (.cells l bt op _)=>bif not (Nat.beq bt e) then .bad else
         (match c with
         | some c=>bif Nat.ble (Nat.add n m) c then
          (bif Nat.ble (Nat.add o (Nat.mul (Nat.add n m) sz)) l.n && Nat.ble (Nat.succ nx) rF then .val (.sl t o (Nat.add n m) sz (some c)) (h.set (some (.cells (Is (Nat.add o (Nat.mul n sz)) news l) bt op nx)) rF t) (Nat.succ nx) else .bad)
           else
            (bif Nat.ble (Nat.mul (Nat.add n m) by') 140737488355328 && (Nat.ble (Nat.add n m) 4611686018427387904 && (Nat.ble (Nat.succ nx) rF && Nat.beq (rU (sB l o (Nat.mul n sz))) (Nat.mul n sz))) then
             .val (.sl nx 0 (Nat.add n m) sz none) (h.set (some (.cells (It (xA (sB l o (Nat.mul n sz)) news)) e true nx)) rF nx) (Nat.succ nx) else .bad)
         | none=>bif Nat.ble (Nat.add o (Nat.mul (Nat.add n m) sz)) l.n && Nat.ble (Nat.succ nx) rF then .val (.sl t o (Nat.add n m) sz none) (h.set (some (.cells (Is (Nat.add o (Nat.mul n sz)) news l) bt op nx)) rF t) (Nat.succ nx)
           else
            bif (Nat.beq o 0 && Nat.beq (Nat.mul n sz) l.n) && (Nat.ble (Nat.mul (Nat.add n m) by') 140737488355328 && (Nat.ble (Nat.add n m) 4611686018427387904 && Nat.ble (Nat.succ nx) rF)) then
             .val (.sl nx 0 (Nat.add n m) sz none) ((h.set none rF t).set (some (.cells (IA l news) e true nx)) rF nx) (Nat.succ nx) else .bad)
       | _=>.bad)
     | _=>.bad
   | none=>.bad
 | none=>.bad
def wv0 (P:Program) (E:Tr CV) (h:Tr CB) (nx:Nat) (T:TypeId):Ro:=match GR P T with
 | some z=>bif Nat.ble (Nat.succ nx) rF then .val (.ptr nx 0) (h.set (some (.cells (It z) T false nx)) rF nx) (Nat.succ nx) else .bad
 | none=>.bad
def wv1 (P:Program) (E:Tr CV) (h:Tr CB) (nx:Nat) (T:TypeId) (x:Operand):Ro:=match sH E x with
 | some c=>match wV c with
   | some l=>bif Nat.ble (Nat.succ nx) rF then .val (.ptr nx 0) (h.set (some (.cells (It l) T false nx)) rF nx) (Nat.succ nx) else .bad
   | none=>.bad
 | none=>.bad
def wv2 (P:Program) (E:Tr CV) (h:Tr CB) (nx:Nat) (T:TypeId) (x:Operand) (y:Operand):Ro:=match sH E x with
 | some (.ptr t o)=>match sH E y with
   | some c=>match wV c with
     | some m=>match h.get t with
       | some (.cells l bt op _)=>match Xc P T with
         | some k=>bif Nat.beq (rU m) k && (Au m && (Nat.ble (Nat.add o k) l.n && Nat.ble (Nat.succ nx) rF)) then .unit (h.set (some (.cells (Is o m l) bt op nx)) rF t) (Nat.succ nx) else .bad
         | none=>.bad
       | _=>.bad
     | none=>.bad
   | none=>.bad
 | _=>.bad
def wv3 (P:Program) (E:Tr CV) (h:Tr CB) (nx:Nat) (T:TypeId) (n:Nat) (parts:List (Nat×Operand)):Ro:=match AZ P T with
 | some (e,sz,_,z)=>bif Nat.ble 1 n && (Nat.ble (Nat.mul n sz) 16777216 && Nat.ble (Nat.succ nx) rF) then
  (match Ba E (sZ n sz) (Nat.mul n sz) parts (Ra z n) with
  | some l=>.val (.sl nx 0 n sz (some n)) (h.set (some (.cells (It l) e false nx)) rF nx) (Nat.succ nx)
  | none=>.bad) else .bad
 | none=>.bad
def wv4 (P:Program) (E:Tr CV) (h:Tr CB) (nx:Nat) (T:TypeId) (x:Operand) (y:Operand):Ro:=match AZ P T with
 | some (e,sz,by',z)=>match sH E x with
   | some (.int _ n)=>match sH E y with
     | some (.int _ c)=>bif tS 0 n && (tS n c && (Nat.ble (Nat.mul by' c.toNat) 281474976710656 && (Nat.ble c.toNat 4611686018427387904 && Nat.ble (Nat.succ nx) rF))) then
      .val (.sl nx 0 n.toNat sz (some c.toNat)) (h.set (some (.cells (It (Ra z c.toNat)) e false nx)) rF nx) (Nat.succ nx) else .bad
     | _=>.bad
   | _=>.bad
 | none=>.bad
def wv6 (P:Program) (E:Tr CV) (h:Tr CB) (nx:Nat) (d:Operand) (x:Operand) (T:TypeId):Ro:=match AZ P T with
 | some (_,sz,_,_)=>match sH E d with
   | some (.sl t o n sz' _)=>match sH E x with
     | some (.sl t2 o2 n2 sz2 _)=>bif Nat.beq sz sz' && Nat.beq sz sz2 then
      (match h.get t with
      | some (.cells l bt op _)=>(match h.get t2 with
        | some (.cells l2 _ _ _) =>
          bif Nat.beq (rU (sB l2 o2 (Nat.mul (Nat.min n2 n) sz))) (Nat.mul (Nat.min n2 n) sz) && (Au (sB l2 o2 (Nat.mul (Nat.min n2 n) sz)) && (Nat.ble (Nat.add o (Nat.mul (Nat.min n2 n) sz)) l.n && Nat.ble (Nat.succ nx) rF)) then
           .val (.int .i64 (Nat.min n2 n)) (h.set (some (.cells (Is o (sB l2 o2 (Nat.mul (Nat.min n2 n) sz)) l) bt op nx)) rF t) (Nat.succ nx) else .bad
        | _=>.bad)
      | _=>.bad) else .bad
     | some .nils=>.val (.int .i64 0) h nx
     | _=>.bad
   | _=>.bad
 | none=>.bad
def wv (P:Program) (E:Tr CV) (h:Tr CB) (nx:Nat):Op→Ro
 | .alloc T=>wv0 P E h nx T
 | .box T x=>wv1 P E h nx T x
 | .store T x y=>wv2 P E h nx T x y
 | .buildSlice T n ⟨parts⟩=>wv3 P E h nx T n parts
 | .makeSlice T x y=>wv4 P E h nx T x y
 | .call ⟨.builtin .append,⟨[s,x]⟩,⟨[T,tx]⟩⟩=>OB P E h nx T tx s x
 | .call ⟨.builtin .copy,⟨[d,x]⟩,⟨[T,_]⟩⟩=>wv6 P E h nx d x T
 | _=>.bad
section
variable {P:Program} {nx n:Nat} {ρ:Pl} {Φ:Imm→Prop} {w0:Bas Φ} {w:World} {E:Tr CV} {h:Tr CB} {a:Act}
theorem sQ {x:Operand} {v:Value} (hx:(eA a).ev x=some v):a.eval x=v:=(lookN a default).eval hx
theorem Wd.new {op:Op} {c:CV} {b:CB} {o:Obj} {s:Nat} (hm:Mem ρ w0 h nx w) (hf:Nat.ble (Nat.succ nx) rF=true) (hst:Ly b=nx) {w':World} {v:Value} (hu:Upd (fun _=>False) w w') (hsz:w'.heap.size=w.heap.size+1) (ho:w'.heap[w.heap.size]?=some o) (hb:DB nx ρ s b o)
 (hk:∀ ρ',ρ' nx=(w.heap.size,s)→DV ρ' c v) (hbd:Bd (nx+1) c) (hr:∀ (d:Option Tmp) (ty:TypeId) (pos:String) (after:Array Edge) (g:Option (Nat×Bool)),(execOp a.eval ⟨d,op,ty,pos,after,g⟩).run P w=.ok (.value v) w') :
 Wd P op ρ w0 h nx a w (.val c (h.set (some b) rF nx) (Nat.succ nx)):=by
 have hf':=aU hf
 obtain ⟨ρ',h1,h2,h3,h4⟩:=hm.new (w':=w') hf' hst hu hsz ho hb
 exact ⟨cD _,v,w',ρ',h1,⟨hbd,hk ρ' h2⟩,h3,hf',h4,hr⟩
abbrev nU:=@Wd.new
theorem sP (w:World) (o:Obj):Upd (fun _=>False) w (w.alloc o):=(jF _ w).alloc o
theorem sR (w:World) (o:Obj):(w.alloc o).heap.size=w.heap.size+1:=by show (w.heap.push o).size=_;simp
theorem tY {l:CV} {vs:List Value} (hk:KL nx ρ l vs) (ty:Nat) {st:Nat}:DB nx ρ vs.length (.cells (It l) ty false st) (.cells vs.toArray ty (0,0)):=⟨vs,[],Mb hk,by simp,by simp,fun _=>rfl⟩
theorem Rj {t p:Nat} {l:Rw} {m:CV} {bt:Nat} {op:Bool} {st:Nat} {news:List Value} (hm:Mem ρ w0 h nx w) (hfit:nx≤rF) (ht:h.get t=some (.cells l bt op st)) (hn:KL nx ρ m news) (hp:p+news.length≤l.n) :
 ∃ cur:Array Value,w.heap[(ρ t).1]?=some (.cells cur bt (0,0))∧p+news.length≤cur.size∧cur.size=(ρ t).2∧∀ w',Upd (·=(ρ t).1) w w'→w'.heap[(ρ t).1]?=some (.cells (cur.toList.take p++news++cur.toList.drop (p+news.length)).toArray bt (0,0))→
  Mem ρ w0 (h.set (some (.cells (Is p m l) bt op nx)) rF t) (nx+1) w'∧Iy ρ h nx w ρ (h.set (some (.cells (Is p m l) bt op nx)) rF t) w':=by
 obtain ⟨h1,hs1,h2,o,h3,vs,junk,k1,rfl,k3,k4⟩:=hm.own t _ ht
 rw [Ax k1] at hp
 refine ⟨_,h3,by simp;omega,by simpa using k3,fun w' hu ho=>hm.write hfit rfl ht hu ho ?_⟩
 refine ⟨vs.take p++news++vs.drop (p+news.length),junk,?_,?_,?_,k4⟩
 · exact FD k1 hn hp
 · simp only [eB (show p≤vs.length by omega),dF hp,cV]
 simp only [aQ,bJ,cU];omega
theorem IN {m l:CV} {p k:Nat} (h:p+rU m≤rU l):rU (xA (yI p l) (xA m (yH (p+rU m) l)))=rU l:=by
 have t:∀ (k:Nat) (x:CV),rU (yI k x)=min k (rU x):=by
  intro k
  induction k with
  | zero=>intro x;show 0=_;omega
  | succ k ih=>intro x;cases x with
    | cons a b=>show Nat.succ (rU (yI k b))=min (k+1) (Nat.succ (rU b));rw [ih];omega
    | _=>show 0=min (k+1) 0;omega
 have d:∀ (k:Nat) (x:CV),rU (yH k x)=rU x - k:=by
  intro k
  induction k with
  | zero=>intro x;rfl
  | succ k ih=>intro x;cases x with
    | cons a b=>show rU (yH k b)=Nat.succ (rU b) - (k+1);rw [ih];omega
    | _=>show 0=0 - (k+1);omega
 have ap:∀ x y:CV,rU (xA x y)=rU x+rU y:=by
  intro x y
  induction x with
  | cons a b _ ih=>show Nat.succ (rU (xA b y))=Nat.succ (rU b)+rU y;rw [ih];omega
  | _=>show rU y=0+rU y;omega
 rw [ap,ap,t,d];omega
theorem Kb {pl:List (Nat×Nat)} {N:Nat}:∀ {parts:List (Nat×Operand)} {l r:CV},Ba E pl N parts l=some r→N≤rU l→rU r=rU l:=by
 intro parts
 induction parts with
 | nil=>intro l r h _;cases h;rfl
 | cons p parts ih =>
   intro l r h hN
   have h':(match zT pl p.1 with
    | some (off,size)=>(match sH E p.2 with
      | some c=>(match wV c with
        | some m=>bif Nat.beq (rU m) size && Nat.ble (off+size) N then Ba E pl N parts (xA (yI off l) (xA m (yH (off+size) l))) else none
        | none=>none)
      | none=>none)
    | none=>none)=some r:=h
   split at h'
   · rename_i off size hp0
     split at h'
     · split at h'
       · rename_i m hm0
         rcases rA h' with ⟨h1,h2⟩ | ⟨_,h2⟩
         · simp only [aA] at h1
           have e1:=aB h1.1
           have e2:=aU h1.2
           subst e1
           have hp:=IN (k:=0) (m:=m) (l:=l) (p:=off) qX
           rw [ih h2 (by rw [hp];exact hN),hp]
         cases h2
       cases h'
     cases h'
   cases h'
theorem BA {T:TypeId} {r:Ro} (hs:Slots ρ E nx n a) (hm:Mem ρ w0 h nx w) (hr:wv P E h nx (.alloc T)=r):Wd P (.alloc T) ρ w0 h nx a w r:=by
 subst hr
 show Wd _ _ _ _ _ _ _ _ (match GR P T with | some z=>bif Nat.ble (Nat.succ nx) rF then .val (.ptr nx 0) (h.set (some (.cells (It z) T false nx)) rF nx) (Nat.succ nx) else .bad | none=>.bad)
 split
 · rename_i z hz
   cases hf:Nat.ble (Nat.succ nx) rF with
   | false=>trivial
   | true =>
     obtain ⟨i,v,hi,hv,kz⟩:=Gu hz nx ρ
     refine nU (s:=v.cells.toList.length) (o:=.cells v.cells.toList.toArray T (0,0)) (w':=w.alloc (.cells v.cells.toList.toArray T (0,0))) (v:=.pointer (some ⟨w.heap.size,0,none⟩)) hm hf rfl (sP _ _) (sR _ _) (rY _ _) (tY kz T) (fun ρ' hρ=>?_) (bU nx) fun d ty pos after g=>?_
     · show _=Value.pointer (some ⟨(ρ' nx).1,0,none⟩)
       rw [hρ]
     simp [execOp,Instr.alloc,newVar,newRow,zeroValue,typeInfo,hi,hv]
 trivial
theorem IP {T:TypeId} {x:Operand} {r:Ro} (hs:Slots ρ E nx n a) (hm:Mem ρ w0 h nx w) (hr:wv P E h nx (.box T x)=r):Wd P (.box T x) ρ w0 h nx a w r:=by
 subst hr
 show Wd _ _ _ _ _ _ _ _ (match sH E x with
  | some c=>match wV c with
    | some l=>bif Nat.ble (Nat.succ nx) rF then .val (.ptr nx 0) (h.set (some (.cells (It l) T false nx)) rF nx) (Nat.succ nx) else .bad
    | none=>.bad
  | none=>.bad)
 split
 · rename_i c hc
   split
   · rename_i l hl
     cases hf:Nat.ble (Nat.succ nx) rF with
     | false=>trivial
     | true =>
       obtain ⟨v,e1,k1⟩:=rC hs hc
       have kz:=xB k1 hl
       refine nU (s:=v.cells.toList.length) (o:=.cells v.cells.toList.toArray T (0,0)) (w':=w.alloc (.cells v.cells.toList.toArray T (0,0))) (v:=.pointer (some ⟨w.heap.size,0,none⟩)) hm hf rfl (sP _ _) (sR _ _) (rY _ _) (tY kz T) (fun ρ' hρ=>?_) (bU nx) fun d ty pos after g=>?_
       · show _=Value.pointer (some ⟨(ρ' nx).1,0,none⟩)
         rw [hρ]
       simp [execOp,Instr.box,newVar,newRow,sQ e1]
   trivial
 trivial
theorem BB {T:TypeId} {x y:Operand} {r:Ro} (hs:Slots ρ E nx n a) (hm:Mem ρ w0 h nx w) (hfit:nx≤rF) (hr:wv P E h nx (.store T x y)=r):Wd P (.store T x y) ρ w0 h nx a w r:=by
 subst hr
 show Wd _ _ _ _ _ _ _ _ (match sH E x with
  | some (.ptr t o)=>match sH E y with
    | some c=>match wV c with
      | some m=>match h.get t with
        | some (.cells l bt op _)=>match Xc P T with
          | some k=>bif Nat.beq (rU m) k && (Au m && (Nat.ble (Nat.add o k) l.n && Nat.ble (Nat.succ nx) rF)) then .unit (h.set (some (.cells (Is o m l) bt op nx)) rF t) (Nat.succ nx) else .bad
          | none=>.bad
        | _=>.bad
      | none=>.bad
    | none=>.bad
  | _=>.bad)
 split
 · rename_i t o hx
   split
   · rename_i c hc
     split
     · rename_i m hmc
       split
       · rename_i l bt op st ht
         split
         · rename_i k hk
           cases hb:Nat.beq (rU m) k && (Au m && (Nat.ble (Nat.add o k) l.n && Nat.ble (Nat.succ nx) rF)) with
           | false=>trivial
           | true =>
             simp only [aA] at hb
             obtain ⟨v,e1,k1⟩:=rC hs hx
             have e2:=kO.1 k1.2
             subst e2
             obtain ⟨u,e3,k3⟩:=rC hs hc
             have km:=xB k3 hmc
             have hlen:u.cells.toList.length=k:=by rw [←rX km];exact aB hb.1
             have hle:o+u.cells.toList.length≤l.n:=by rw [hlen];exact aU hb.2.2.1
             obtain ⟨cur,g1,g2,g3,g4⟩:=Rj hm hfit ht km hle
             have g1':w.heap[(ρ t).1]?=some (.cells cur.toList.toArray bt (0,0)):=by rw [g1]
             have hrun:=wM (P:=P) (T:=T) (off:=o) (cs:=cur.toList) (vs:=u.cells.toList) (v:=u) (by rw [hlen];exact zN hk) rV (Gp km hb.2.1) g1' (by simpa using g2)
             have g5:=g4 (w.setRow (ρ t).1 (cur.toList.take o++u.cells.toList++cur.toList.drop (o+u.cells.toList.length)).toArray) (tA w (ρ t).1 _) Xe
             refine ⟨cD _,w.setRow (ρ t).1 (cur.toList.take o++u.cells.toList++cur.toList.drop (o+u.cells.toList.length)).toArray,ρ,cK _ _,g5.1,aU hb.2.2.2,g5.2,fun ty pos after g=>?_⟩
             simp [execOp,sQ e1,sQ e3,hrun]
         trivial
       trivial
     trivial
   trivial
 trivial
theorem Iz {T N:Nat} {parts:List (Nat×Operand)} {r:Ro} (hs:Slots ρ E nx n a) (hm:Mem ρ w0 h nx w) (hr:wv P E h nx (.buildSlice T N ⟨parts⟩)=r):Wd P (.buildSlice T N ⟨parts⟩) ρ w0 h nx a w r:=by
 subst hr
 show Wd _ _ _ _ _ _ _ _ (match AZ P T with
  | some (e,sz,_,z)=>bif Nat.ble 1 N && (Nat.ble (Nat.mul N sz) 16777216 && Nat.ble (Nat.succ nx) rF) then
   (match Ba E (sZ N sz) (Nat.mul N sz) parts (Ra z N) with
   | some l=>.val (.sl nx 0 N sz (some N)) (h.set (some (.cells (It l) e false nx)) rF nx) (Nat.succ nx)
   | none=>.bad) else .bad
  | none=>.bad)
 split
 · rename_i e sz by' z hz
   cases hb:Nat.ble 1 N && (Nat.ble (Nat.mul N sz) 16777216 && Nat.ble (Nat.succ nx) rF) with
   | false=>trivial
   | true =>
     simp only [eY]
     split
     · rename_i l hl
       simp only [aA] at hb
       obtain ⟨hu,i,zv,hi,hzv,hsz,hby,kz,hzl,h0⟩:=Cm hz nx ρ
       have kr:=Dx kz N
       obtain ⟨vs,e1,o1,k1⟩:=Bb hs kr hl
       have hN:=aU hb.1
       have hNs:N*sz≤16777216:=aU hb.2.1
       have hpos:0<N*sz:=Nat.mul_pos hN h0
       have hlen:(List.replicate N zv.cells.toList).flatten.length=N*sz:=by simp [←hzl]
       have hf:=zY (fun i=>some (i*sz,sz)) (sZ N sz) (fun i x h=>by
        simp only [sZ,cG,gI] at h
        obtain ⟨j,hj,rfl⟩:=h
        obtain ⟨hlt,hj⟩:=aJ.1 hj
        simp at hj;subst hj;rfl) vs (List.replicate N zv.cells.toList).flatten (N*sz) hlen o1
       have hmade:((Array.range (N*i.size)).map (zv.cells[· % zv.cells.size]!))=(List.replicate N zv.cells.toList).flatten.toArray:=by
        have:=Ee (zs:=zv.cells.toList) qX N
        rw [hzl] at this
        simpa [madeCells,hsz] using this
       have hrun:=run_buildSlice (P:=P) w T e N vs.toArray (vL (sZ N sz) (List.replicate N zv.cells.toList).flatten vs).toArray i zv hu hi hzv Mv Mv (by rw [hmade,hsz];exact hf)
       have hmm:(parts.toArray.map fun (i,x)=>(i,a.eval x))=vs.toArray:=by rw [←(lookN a w).parts e1];simp
       have hlenF:(vL (sZ N sz) (List.replicate N zv.cells.toList).flatten vs).length=N*sz:=by
        rw [←rX k1,Kb hl (by rw [rX kr,hlen];exact aE _),rX kr,hlen]
       refine nU (s:=(vL (sZ N sz) (List.replicate N zv.cells.toList).flatten vs).length) (o:=.cells (vL (sZ N sz) (List.replicate N zv.cells.toList).flatten vs).toArray e (0,0)) (v:=.slice (some ⟨w.heap.size,0,none⟩) N N) hm hb.2.2 rfl (sP _ _) (sR _ _) (rY _ _) (tY k1 e) (fun ρ' hρ=>?_) (bU nx) fun d ty pos after g=>?_
       · refine iK.2 ⟨by rw [hρ],by rw [hρ,hlenF];omega,aE _,?_⟩
         have:=oB N h0
         simp only [maxLen];omega
       simp only [execOp,hmm,aY,hrun,aG,bB]
     trivial
 trivial
end
section
variable {P:Program} {nx n:Nat} {ρ:Pl} {Φ:Imm→Prop} {w0:Bas Φ} {w:World} {E:Tr CV} {h:Tr CB} {a:Act}
theorem Mf {T:TypeId} {x y:Operand} {r:Ro} (hs:Slots ρ E nx n a) (hm:Mem ρ w0 h nx w) (hr:wv P E h nx (.makeSlice T x y)=r):Wd P (.makeSlice T x y) ρ w0 h nx a w r:=by
 subst hr
 show Wd _ _ _ _ _ _ _ _ (match AZ P T with
  | some (e,sz,by',z)=>match sH E x with
    | some (.int _ n)=>match sH E y with
      | some (.int _ c)=>bif tS 0 n && (tS n c && (Nat.ble (Nat.mul by' c.toNat) 281474976710656 && (Nat.ble c.toNat 4611686018427387904 && Nat.ble (Nat.succ nx) rF))) then
       .val (.sl nx 0 n.toNat sz (some c.toNat)) (h.set (some (.cells (It (Ra z c.toNat)) e false nx)) rF nx) (Nat.succ nx) else .bad
      | _=>.bad
    | _=>.bad
  | none=>.bad)
 split
 · rename_i e sz by' z hz
   split
   · rename_i k N hx
     split
     · rename_i k' C hy
       cases hb:tS 0 N && (tS N C && (Nat.ble (Nat.mul by' C.toNat) 281474976710656 && (Nat.ble C.toNat 4611686018427387904 && Nat.ble (Nat.succ nx) rF))) with
       | false=>trivial
       | true =>
         simp only [aA,sM,aS] at hb
         obtain ⟨hb1,hb2,hb3,hb4,hb5⟩:=hb
         have hb3:by'*C.toNat≤281474976710656:=aU hb3
         have hb4:=aU hb4
         obtain ⟨hu,i,zv,hi,hzv,hsz,hby,kz,hzl,h0⟩:=Cm hz nx ρ
         obtain ⟨v1,e1,k1⟩:=rC hs hx
         obtain ⟨v2,e2,k2⟩:=rC hs hy
         rw [fC.1 k1.2] at e1
         rw [fC.1 k2.2] at e2
         have hbc:(i.bytes:Int)*C≤281474976710656:=by
          have:((by'*C.toNat:Nat):Int)=(i.bytes:Int)*C:=by rw [cF,cN qX,hby]
          omega
         have hrun:=run_make (P:=P) w T e i zv hu hi hzv k k' N C hb1 hb2 hbc qX
         have hmade:madeCells zv.cells (C.toNat*i.size)=(List.replicate C.toNat zv.cells.toList).flatten.toArray:=by
          have:=Ee (zs:=zv.cells.toList) qX C.toNat
          rw [hzl] at this
          rw [hsz,←this]
         rw [hmade] at hrun
         have hlen:(List.replicate C.toNat zv.cells.toList).flatten.length=C.toNat*sz:=by simp [←hzl]
         refine nU (s:=C.toNat*sz) (o:=.cells (List.replicate C.toNat zv.cells.toList).flatten.toArray e (0,0)) (v:=.slice (some ⟨w.heap.size,0,none⟩) N.toNat C.toNat) hm hb5 rfl (sP _ _) (sR _ _) (rY _ _) (by rw [←hlen];exact tY (Dx kz C.toNat) e) (fun ρ' hρ=>?_) (bU nx) fun d ty pos after g=>?_
         · refine iK.2 ⟨by rw [hρ],by rw [hρ];show 0+C.toNat*sz≤C.toNat*sz;omega,by omega,?_⟩
           simp only [maxLen];omega
         simp only [execOp,sQ e1,sQ e2,aY,hrun,aG,bB]
     trivial
   trivial
 trivial
theorem Ef {t:Nat} {vs:List Value} {ty:TypeId} (hb:w.heap[t]?=some (.cells vs.toArray ty (0,0))) {o:Nat} {m:Nat} {news:List Value} (hn:news=(vs.drop o).take m):∀ j v,news[j]?=some v→w.cell? ((⟨t,o,none⟩:Addr).add j)=some v:=fun j v hj=>by
 rw [add_lit,cell_of_block hb]
 subst hn
 rw [gR] at hj
 split at hj
 · rw [fF] at hj;exact hj
 cases hj
theorem FP {sz tx:Nat} {x:Operand} {m:Nat} {l:CV} (hs:Slots ρ E nx n a) (hm:Mem ρ w0 h nx w) (hq:IM P E h sz tx x=some (m,l)):∃ xv news,(eA a).ev x=some xv∧KL nx ρ l news∧news.length=m*sz∧Go.Src P sz tx xv m news w:=by
 unfold IM at hq
 split at hq
 · rename_i hx
   split at hq
   · rename_i q hT
     obtain ⟨e',sz'⟩:=q
     cases hq
     obtain ⟨v,e1,k1⟩:=rC hs hx
     have e2:=lF.1 k1.2
     subst e2
     exact ⟨_,[],e1,lT,by simp,Go.Src.ofNil w (tJ hT).1 0⟩
   cases hq
 · rename_i t o N sz' cc hx
   rcases rA hq with ⟨h1,hr1⟩ | ⟨_,hr1⟩
   · have:=aB h1
     subst this
     split at hr1
     · rename_i q hT
       obtain ⟨e',sz'⟩:=q
       split at hr1
       · rename_i lb bt op st ht
         rcases rA hr1 with ⟨h2,hr2⟩ | ⟨_,hr2⟩
         · cases hr2
           simp only [aA] at h2
           obtain ⟨v,e1,k1⟩:=rC hs hx
           obtain ⟨c',rfl⟩:=yK k1
           obtain ⟨_,_,_,ob,g3,vs,junk,kl,rfl,_,_⟩:=hm.own t _ ht
           have kk:=uZ (k:=m*sz) kl (aB h2.1)
           have hlen:((vs.drop o).take (m*sz)).length=m*sz:=by rw [←rX kk];exact aB h2.1
           have hone:=Gp kk h2.2
           have hdrop:((vs++junk).drop o).take (m*sz)=(vs.drop o).take (m*sz):=by
            rw [bJ,cU] at hlen
            by_cases h0:m*sz=0
            · rw [h0];simp
            rw [dF qX,eB Sa]
           exact ⟨_,(vs.drop o).take (m*sz),e1,kk,hlen,Go.Src.ofSlice w (tJ hT).1 _ m c' _ hlen (Ef g3 hdrop.symm) (fun u hu=>dW.1 hone u hu)⟩
         cases hr2
       cases hr1
     cases hr1
   cases hr1
 · rename_i s hx
   rcases rA hq with ⟨h1,hr1⟩ | ⟨_,hr1⟩
   · have:=aB h1
     subst this
     split at hr1
     · rename_i hT
       cases hr1
       obtain ⟨v,e1,k1⟩:=rC hs hx
       obtain ⟨bs,rfl,k2⟩:=Bc k1
       have hlen:=rX k2
       have hsz:(ByteArray.mk bs.toArray).size=rU l:=by
        rw [hlen,bZ];show bs.toArray.size=_;simp
       have hbc:byteCells (ByteArray.mk bs.toArray)=bs.map fun b=>Value.int .u8 b.toNat:=by unfold byteCells;simp
       refine ⟨_,_,e1,k2,by rw [←hlen];omega,?_⟩
       have:=Go.Src.ofString w hT (ByteArray.mk bs.toArray)
       rw [hsz,hbc] at this
       exact this
     cases hr1
   cases hr1
 cases hq
end
section
variable {P:Program} {nx n:Nat} {ρ:Pl} {Φ:Imm→Prop} {w0:Bas Φ} {w:World} {E:Tr CV} {h:Tr CB} {a:Act}
theorem xC {s x:Operand} {T tx:TypeId} {v1 v2 v:Value} {w':World} (e1:(eA a).ev s=some v1) (e2:(eA a).ev x=some v2) (hr:∀ ty,(Builtin.append_ #[T,tx] ty #[v1,v2]).run P w=.ok v w') (d:Option Tmp) (ty:TypeId) (pos:String) (after:Array Edge) (g:Option (Nat×Bool)) :
 (execOp a.eval ⟨d,.call ⟨.builtin .append,⟨[s,x]⟩,⟨[T,tx]⟩⟩,ty,pos,after,g⟩).run P w=.ok (.value v) w':=by
 simp only [execOp,resolve,invoke,builtin,aY,bB,aG,lO,bK,iQ,sQ e1,sQ e2,hr]
theorem Kc {s x:Operand} {T tx:TypeId} {v1 v2 v:Value} {w':World} (e1:(eA a).ev s=some v1) (e2:(eA a).ev x=some v2) (hr:∀ ty,(Builtin.copy_ #[T,tx] ty #[v1,v2]).run P w=.ok v w') (d:Option Tmp) (ty:TypeId) (pos:String) (after:Array Edge) (g:Option (Nat×Bool)) :
 (execOp a.eval ⟨d,.call ⟨.builtin .copy,⟨[s,x]⟩,⟨[T,tx]⟩⟩,ty,pos,after,g⟩).run P w=.ok (.value v) w':=by
 simp only [execOp,resolve,invoke,builtin,aY,bB,aG,lO,bK,iQ,sQ e1,sQ e2,hr]
theorem Hc {T tx e:TypeId} {i:TypeInfo} {zv:Value} {sz m N C:Nat} {base:Option Addr} {xv:Value} {olds news:List Value} (hu:P.underlying T=some (.slice e)) (hi:P.info? e=some i) (hz:i.zero=some zv) (hsz:i.size=sz) (hzl:zv.cells.toList.length=sz) (h0:0<sz)
 (hold:(Builtin.firstCells i.size N (.slice base N C)).run P w.drew=.ok olds.toArray w.drew) (ho:olds.length=N*sz) (hs:Go.Src P sz tx xv m news w) (hC:C<N+m) (h1:(N+m)*i.bytes≤140737488355328) (h2:N+m≤4611686018427387904) :
 ∃ cap junk,(∀ ty,(Builtin.append_ #[T,tx] ty #[.slice base N C,xv]).run P w=.ok (.slice (some ⟨w.heap.size,0,none⟩) (N+m) cap) (w.drew.alloc (.cells (olds++news++junk).toArray e)))∧(olds++news).length+junk.length=cap*sz∧N+m≤cap∧cap≤maxLen:=by
 have hge:=grownCap_ge w (N+m) C e
 have hml:N+m≤maxLen:=by simp only [maxLen];omega
 have hle:=pY w (N+m) C e hml
 refine ⟨grownCap w (N+m) C e,(Builtin.zeroCells zv.cells (grownCap w (N+m) C e - (N+m))).toList,fun ty=>?_,?_,hge,hle⟩
 · rw [←hsz] at hs
   have hr:=run_append_grow_src (P:=P) w T tx ty e i zv hu hi hz base N C olds hold xv m news hs hC qX (growslice_fits hC h1)
   rw [hr]
   congr 3
   apply qA
   simp
 have hn:=hs.newsLen
 have e1:zv.cells.size=sz:=by rw [←hzl];simp
 have hz1:(Builtin.zeroCells zv.cells (grownCap w (N+m) C e - (N+m))).toList.length=(grownCap w (N+m) C e - (N+m))*sz:=by rw [kE,size_zeroCells,e1]
 rw [aQ,hz1,ho,hn,←dI,←dI]
 congr 1;omega
theorem wF (w:World) (o:Obj):Upd (fun _=>False) w (w.drew.alloc o):=(jF _ w).drew.alloc o
theorem vK (w:World) (o:Obj):(w.drew.alloc o).heap.size=w.heap.size+1:=by show (w.heap.push o).size=_;simp
theorem wG (w:World) (o:Obj):(w.drew.alloc o).heap[w.heap.size]?=some o:=by
 rw [show w.heap.size=w.drew.heap.size from rfl,rY]
theorem Mg {l:Rw} {vs junk:List Value} (hk:RL nx ρ l vs) (ty:Nat) {st:Nat}:DB nx ρ (vs.length+junk.length) (.cells l ty true st) (.cells (vs++junk).toArray ty (0,0)):=⟨vs,junk,hk,rfl,rfl,fun h=>by cases h⟩
theorem rE {α:Type} {b:Bool} {x y:α} (M:α→Prop) (h1:b=true→M x) (h2:b=false→M y):M (bif b then x else y):=by cases b;exact h2 rfl;exact h1 rfl
theorem rG {a b:Nat} (h:Nat.ble a b=true):a≤b:=aU h
theorem IQ {a b:Nat} (h:Nat.ble a b=false):b<a:=by
 rcases aR b a with h1 | h1
 · exact h1
 rw [Nat.ble_eq_true_of_le h1] at h;cases h
theorem Rk {a b:Nat} (h:Nat.beq a b=false):a≠b:=fun e=>by subst e;simp at h
theorem Wd.kill {op:Op} {h' h2:Tr CB} {v:CV} {nx':Nat} (hm:Mem ρ w0 h nx w) (ho:Iy ρ h nx w ρ h2 w) (hw:Wd P op ρ w0 h2 nx a w (.val v h' nx')):Wd P op ρ w0 h nx a w (.val v h' nx'):=by
 obtain ⟨h1,v',w',ρ',e1,e2,e3,e4,e5,e6⟩:=hw
 exact ⟨h1,v',w',ρ',e1,e2,e3,e4,ho.trans hm e5 (aE _) (cK _ _),e6⟩
theorem IR {T tx:Nat} {s x:Operand} (hs:Slots ρ E nx n a) (hm:Mem ρ w0 h nx w) (hfit:nx≤rF):Wd P (.call ⟨.builtin .append,⟨[s,x]⟩,⟨[T,tx]⟩⟩) ρ w0 h nx a w (OB P E h nx T tx s x):=by
 unfold OB
 split
 · rename_i e sz by' z hz
   obtain ⟨hu,i,zv,hi,hzv,hsz,hby,kz,hzl,h0⟩:=Cm hz nx ρ
   split
   · rename_i m news hsrc
     obtain ⟨xv,nw,ex,kn,hnl,hS⟩:=FP hs hm hsrc
     split
     · -- from nil
       rename_i hsv
       obtain ⟨v,e1,k1⟩:=rC hs hsv
       have e2:=lF.1 k1.2
       subst e2
       refine rE (Wd _ _ _ _ _ _ _ _) (fun _=>trivial) fun hm0=>rE (Wd _ _ _ _ _ _ _ _) (fun hb=>?_) fun _=>trivial
       have hm0:=Rk hm0
       simp only [aA] at hb
       have hb1:m*by'≤140737488355328:=rG hb.1
       obtain ⟨cap,junk,hr,hlen,hc1,hc2⟩:=Hc (base:=none) (N:=0) (C:=0) (olds:=[]) hu hi hzv hsz hzl h0 (run_firstCells_none ..) rV hS qX (by rw [hby,bO];exact hb1) (by rw [bO];exact rG hb.2.1)
       rw [bO] at hr hc1
       simp only [fD] at hr hlen
       refine nU (s:=nw.length+junk.length) hm hb.2.2 rfl (wF w _) (vK w _) (wG w _) (Mg (Mb kn) e) (fun ρ' hρ=>?_) (bU nx) (xC e1 ex hr)
       exact lE.2 ⟨cap,by rw [hρ],by rw [hρ,hlen];show 0+cap*sz=cap*sz;omega,hc1,hc2⟩
     · -- a slice
       rename_i t o N sz' c hsv
       refine rE (Wd _ _ _ _ _ _ _ _) (fun _=>trivial) fun hne=>?_
       have hsq:sz=sz':=by
        cases hb:Nat.beq sz sz' with
        | true=>exact aB hb
        | false=>rw [hb] at hne;cases hne
       subst hsq
       obtain ⟨v,e1,k1⟩:=rC hs hsv
       obtain ⟨C,hC⟩:=yK k1
       subst hC
       have hNC:N≤C:=by
        cases c with
        | some c'=>obtain ⟨q1,_,q3,_⟩:=iK.1 k1.2;cases q1;exact q3
        | none=>obtain ⟨c',q1,_,q3,_⟩:=lE.1 k1.2;cases q1;exact q3
       refine rE (Wd _ _ _ _ _ _ _ _) (fun hm0=>?_) fun hm0=>?_
       · -- nothing to append
         have hm0:=aB hm0
         subst hm0
         have hnw:nw=[]:=cA (by rw [hnl,mQ])
         subst hnw
         refine ⟨aE _,_,w,ρ,cK _ _,k1,hm,hfit,eQ,xC e1 ex fun ty=>?_⟩
         rw [←hsz] at hS
         rcases hS.kind with ⟨e',hk⟩ | hk <;> simp [Builtin.append_,aO hu,aO hk,sizeOf,typeInfo,hi,hS.len,hNC,hS.cells,storeCells]
       have hm0:=Rk hm0
       split
       · rename_i l bt op st ht
         refine rE (Wd _ _ _ _ _ _ _ _) (fun _=>trivial) fun hbt=>?_
         have hbt:bt=e:=by
          cases hb:Nat.beq bt e with
          | true=>exact aB hb
          | false=>rw [hb] at hbt;cases hbt
         subst hbt
         have inplace:∀ c',N+m≤C→o+(N+m)*sz≤l.n→nx+1≤rF→Kn nx ρ (.sl t o (N+m) sz c') (.slice (some ⟨(ρ t).1,o,none⟩) (N+m) C)→Wd P (.call ⟨.builtin .append,⟨[s,x]⟩,⟨[T,tx]⟩⟩) ρ w0 h nx a w (.val (.sl t o (Nat.add N m) sz c') (h.set (some (.cells (Is (Nat.add o (Nat.mul N sz)) news l) bt op nx)) rF t) (Nat.succ nx)):=fun c' hr1 hr2 hf1 hk=>by
          have hp:o+N*sz+nw.length≤l.n:=by rw [hnl,nW,←dI];exact hr2
          obtain ⟨cur,g1,g2,g3,g4⟩:=Rj hm hfit ht kn hp
          have hrun:=fun ty=>Be (P:=P) (tx:=tx) (ty:=ty) hu hi g1 (x:=xv) (by rw [hsz];exact hS) hr1 (by rw [hsz];exact g2)
          rw [hsz] at hrun
          have g5:=g4 _ (tA w (ρ t).1 _) Xe
          exact ⟨cD _,_,_,ρ,cK _ _,hk.up (cD _) (cK _ _),g5.1,hf1,g5.2,xC e1 ex hrun⟩
         split
         · -- room known
           rename_i c'
           obtain ⟨q1,q2,q3,q4⟩:=iK.1 k1.2
           cases q1
           refine rE (Wd _ _ _ _ _ _ _ _) (fun hroom=>?_) fun hroom=>?_
           · have hroom:N+m≤C:=rG hroom
             refine rE (Wd _ _ _ _ _ _ _ _) (fun hfitl=>?_) fun _=>trivial
             simp only [aA] at hfitl
             exact inplace (some C) hroom (rG hfitl.1) (rG hfitl.2) ⟨k1.1,iK.2 ⟨rfl,q2,hroom,q4⟩⟩
           have hroom:C<N+m:=IQ hroom
           refine rE (Wd _ _ _ _ _ _ _ _) (fun hb=>?_) fun _=>trivial
           simp only [aA] at hb
           obtain ⟨hb1,hb2,hb3,hb4⟩:=hb
           have hb1:(N+m)*by'≤140737488355328:=rG hb1
           obtain ⟨_,_,_,ob,p3,vs,junk0,kl,rfl,_,_⟩:=hm.own t _ ht
           have kk:=uZ (k:=N*sz) kl (aB hb4)
           have hlen:((vs.drop o).take (N*sz)).length=N*sz:=by rw [←rX kk];exact aB hb4
           have hdrop:((vs++junk0).drop o).take (N*sz)=(vs.drop o).take (N*sz):=by
            rw [bJ,cU] at hlen
            by_cases h0:N*sz=0
            · rw [h0];simp
            rw [dF qX,eB Sa]
           have hold:(Builtin.firstCells i.size N (.slice (some ⟨(ρ t).1,o,none⟩) N C)).run P w.drew=.ok ((vs.drop o).take (N*sz)).toArray w.drew:=
            run_firstCells_some w.drew i.size N _ N C _ (by rw [hsz];exact hlen) (fun j v hj=>by
             have:=Ef p3 hdrop.symm j v hj
             simpa using this)
           obtain ⟨cap,junk,hr,hl2,hc1,hc2⟩:=Hc hu hi hzv hsz hzl h0 hold hlen hS hroom (by rw [hby];exact hb1) (rG hb2)
           refine nU (s:=((vs.drop o).take (N*sz)++nw).length+junk.length) hm hb3 rfl (wF w _) (vK w _) (wG w _) (Mg (Mb (yQ kk kn)) bt) (fun ρ' hρ=>?_) (bU nx) (xC e1 ex hr)
           exact lE.2 ⟨cap,by rw [hρ];rfl,by rw [hρ,hl2];show 0+cap*sz=cap*sz;omega,hc1,hc2⟩
         -- room unknown
         obtain ⟨C',q1,q2,q3,q4⟩:=lE.1 k1.2
         cases q1
         obtain ⟨p1,ps,p2,ob,p3,vs,junk0,kl,rfl,p5,p6⟩:=hm.own t _ ht
         have hvl:=Ax kl
         refine rE (Wd _ _ _ _ _ _ _ _) (fun hfitl=>?_) fun hfitl=>?_
         · simp only [aA] at hfitl
           have hff:=rG hfitl.2
           have hfitl:o+(N+m)*sz≤l.n:=rG hfitl.1
           have hroom:N+m≤C:=by
            have:(N+m)*sz≤C*sz:=qX
            exact Nat.le_of_mul_le_mul_right this h0
           exact inplace none hroom hfitl hff ⟨k1.1,lE.2 ⟨C,rfl,q2,hroom,q4⟩⟩
         refine rE (Wd _ _ _ _ _ _ _ _) (fun hb=>?_) fun _=>trivial
         simp only [aA] at hb
         obtain ⟨⟨hb1,hb2⟩,hb3,hb4,hb5⟩:=hb
         have ho:=aB hb1
         subst ho
         have hNl:N*sz=l.n:=aB hb2
         have hb3:(N+m)*by'≤140737488355328:=rG hb3
         have hf5:nx+1≤rF:=rG hb5
         by_cases hroom:N+m≤C
         · -- in its place
           have hfit2:0+N*i.size+nw.length≤((vs++junk0).toArray).size:=by
            have:(N+m)*sz≤C*sz:=fJ _ hroom
            rw [dI] at this
            rw [hsz,hnl,nP,aQ];omega
           have hrun:=fun ty=>Be (P:=P) (tx:=tx) (ty:=ty) hu hi p3 (x:=xv) (by rw [hsz];exact hS) hroom hfit2
           obtain ⟨ρ',r1,r2,r3,r4⟩:=hm.rename (b':=.cells (IA l news) bt true nx) (w':=w.setRow (ρ t).1 ((vs++junk0).toArray.toList.take (0+N*i.size)++nw++(vs++junk0).toArray.toList.drop (0+N*i.size+nw.length)).toArray) hf5 rfl ht (tA w (ρ t).1 _) (by rw [mC w (ρ t).1 _ _ bt _ p3]) (by
            refine ⟨vs++nw,junk0.drop nw.length,Tb kl kn,?_,?_,fun hh=>by cases hh⟩
            · have e5:0+N*i.size=vs.length:=by rw [hsz,bO,hNl,hvl]
              rw [e5]
              simp only [List.take_left,mU]
            rw [aQ,cU]
            have:(N+m)*sz≤C*sz:=fJ _ hroom
            rw [dI] at this
            omega)
           refine ⟨cD _,_,_,ρ',r1,⟨bU nx,lE.2 ⟨C,?_,?_,hroom,q4⟩⟩,r3,hf5,r4,xC e1 ex hrun⟩
           · rw [r2];rfl
           rw [r2];exact q2
         have hroom:C<N+m:=qX
         have hold:(Builtin.firstCells i.size N (.slice (some ⟨(ρ t).1,0,none⟩) N C)).run P w.drew=.ok vs.toArray w.drew:=
          run_firstCells_some w.drew i.size N _ N C _ (by rw [hsz,←hvl];exact hNl.symm) (fun j v hj=>by
           have:=Ef p3 (o:=0) (m:=vs.length) (news:=vs) rV j v hj
           simpa using this)
         obtain ⟨cap,junk,hr,hl2,hc1,hc2⟩:=Hc hu hi hzv hsz hzl h0 hold (by rw [←hvl];exact hNl.symm) hS hroom (by rw [hby];exact hb3) (rG hb4)
         have hm2:=hm.kill hfit p1
         refine Wd.kill (h2:=h.set none rF t) hm hm2.2 ?_
         refine nU (s:=(vs++nw).length+junk.length) hm2.1 hb5 rfl (wF w _) (vK w _) (wG w _) (Mg (Tb kl kn) bt) (fun ρ' hρ=>?_) (bU nx) (xC e1 ex hr)
         exact lE.2 ⟨cap,by rw [hρ];rfl,by rw [hρ,hl2];show 0+cap*sz=cap*sz;omega,hc1,hc2⟩
       trivial
     trivial
   trivial
 trivial
end
section
variable {P:Program} {nx n:Nat} {ρ:Pl} {Φ:Imm→Prop} {w0:Bas Φ} {w:World} {E:Tr CV} {h:Tr CB} {a:Act}
theorem FQ {T tx:Nat} {d x:Operand} (hs:Slots ρ E nx n a) (hm:Mem ρ w0 h nx w) (hfit:nx≤rF):Wd P (.call ⟨.builtin .copy,⟨[d,x]⟩,⟨[T,tx]⟩⟩) ρ w0 h nx a w (wv P E h nx (.call ⟨.builtin .copy,⟨[d,x]⟩,⟨[T,tx]⟩⟩)):=by
 show Wd _ _ _ _ _ _ _ _ (match AZ P T with
  | some (_,sz,_,_)=>match sH E d with
    | some (.sl t o n sz' _)=>match sH E x with
      | some (.sl t2 o2 n2 sz2 _)=>bif Nat.beq sz sz' && Nat.beq sz sz2 then
       (match h.get t with
       | some (.cells l bt op _)=>(match h.get t2 with
         | some (.cells l2 _ _ _) =>
           bif Nat.beq (rU (sB l2 o2 (Nat.mul (Nat.min n2 n) sz))) (Nat.mul (Nat.min n2 n) sz) && (Au (sB l2 o2 (Nat.mul (Nat.min n2 n) sz)) && (Nat.ble (Nat.add o (Nat.mul (Nat.min n2 n) sz)) l.n && Nat.ble (Nat.succ nx) rF)) then
            .val (.int .i64 (Nat.min n2 n)) (h.set (some (.cells (Is o (sB l2 o2 (Nat.mul (Nat.min n2 n) sz)) l) bt op nx)) rF t) (Nat.succ nx) else .bad
         | _=>.bad)
       | _=>.bad) else .bad
      | some .nils=>.val (.int .i64 0) h nx
      | _=>.bad
    | _=>.bad
  | none=>.bad)
 split
 · rename_i e sz by' z hz
   obtain ⟨hu,i,zv,hi,hzv,hsz,hby,kz,hzl,h0⟩:=Cm hz nx ρ
   split
   · rename_i t o N sz' c hd
     obtain ⟨v,e1,k1⟩:=rC hs hd
     obtain ⟨C,rfl⟩:=yK k1
     split
     · rename_i t2 o2 n2 sz2 c2 hx
       obtain ⟨v2,e2,k2⟩:=rC hs hx
       obtain ⟨C2,rfl⟩:=yK k2
       refine rE (Wd _ _ _ _ _ _ _ _) (fun hb=>?_) fun _=>trivial
       simp only [aA] at hb
       have q1:=aB hb.1
       have q2:=aB hb.2
       subst q1 q2
       split
       · rename_i l bt op st ht
         split
         · rename_i l2 bt2 op2 st2 ht2
           refine rE (Wd _ _ _ _ _ _ _ _) (fun hb=>?_) fun _=>trivial
           simp only [aA] at hb
           obtain ⟨hb1,hb2,hb3,hb4⟩:=hb
           obtain ⟨k,hk⟩:∃ k,k=Nat.min n2 N:=⟨_,rfl⟩
           rw [←hk] at hb1 hb2 hb3 ⊢
           obtain ⟨_,_,_,ob,p3,vs,junk0,kl,rfl,_,_⟩:=hm.own t2 _ ht2
           have kk:=uZ (k:=k*sz) kl (aB hb1)
           have hlen:((vs.drop o2).take (k*sz)).length=k*sz:=by rw [←rX kk];exact aB hb1
           have hdrop:((vs++junk0).drop o2).take (k*sz)=(vs.drop o2).take (k*sz):=by
            rw [bJ,cU] at hlen
            by_cases h0:k*sz=0
            · rw [h0];simp
            rw [dF qX,eB Sa]
           have hp:o+((vs.drop o2).take (k*sz)).length≤l.n:=by rw [hlen];exact rG hb3
           obtain ⟨cur,g1,g2,g3,g4⟩:=Rj hm hfit ht kk hp
           have hone:=Gp kk hb2
           have hrun:=fun ty=>AY (P:=P) (tx:=tx) (ty:=ty) (dCap:=C) (sCap:=C2) hu hi g1 hk.symm (by rw [hsz];exact hlen) (Ef p3 hdrop.symm) (fun v hv=>dW.1 hone v hv) g2
           have g5:=g4 _ (tA w (ρ t).1 _) Xe
           exact ⟨cD _,_,_,ρ,cK _ _,vA,g5.1,rG hb4,g5.2,Kc e1 e2 hrun⟩
         trivial
       trivial
     · rename_i hx
       obtain ⟨v2,e2,k2⟩:=rC hs hx
       have q2:=lF.1 k2.2
       subst q2
       exact ⟨aE _,_,w,ρ,cK _ _,vA,hm,hfit,eQ,Kc e1 e2 fun ty=>Wi hu hi (Nat.zero_min _)⟩
     trivial
   trivial
 trivial
theorem MG {op:Op} (hs:Slots ρ E nx n a) (hm:Mem ρ w0 h nx w) (hfit:nx≤rF):Wd P op ρ w0 h nx a w (wv P E h nx op):=by
 obtain ⟨r,hr⟩:∃ r,wv P E h nx op=r:=⟨_,rfl⟩
 have hr':=hr
 unfold wv at hr
 split at hr
 · rw [hr'];exact BA hs hm hr'
 · rw [hr'];exact IP hs hm hr'
 · rw [hr'];exact BB hs hm hfit hr'
 · rw [hr'];exact Iz hs hm hr'
 · rw [hr'];exact Mf hs hm hr'
 · exact IR hs hm hfit
 · exact FQ hs hm hfit
 rw [hr',←hr];trivial
end
def bnd (o:Oper):List Nat:=(o.after.toList.filter (Region.binds .any)).map (·.on)
def Bf {α:Type} (p:α→Bool) (l:List α):Bool:=List.rec true (fun x _ ih=>p x && ih) l
def Wj {α:Type} (p:α→Bool) (l:List α):Bool:=List.rec false (fun x _ ih=>p x || ih) l
theorem tE {α:Type} {p:α→Bool}:∀ {l:List α},Bf p l=true↔∀ x∈l,p x=true:=by
 intro l
 induction l with
 | nil=>exact ⟨fun _ x h=>vU,fun _=>rfl⟩
 | cons a l ih =>
   show (p a && Bf p l)=true↔_
   rw [aA,ih]
   exact ⟨fun h x hx=>by rcases cH.1 hx with rfl | hx;exact h.1;exact h.2 x hx,fun h=>⟨h a bC,fun x hx=>h x (aV _ hx)⟩⟩
theorem Hd {α:Type} {p:α→Bool}:∀ {l:List α},Wj p l=true↔∃ x∈l,p x=true:=by
 intro l
 induction l with
 | nil=>exact ⟨fun h=>vU,fun ⟨x,h,_⟩=>vU⟩
 | cons a l ih =>
   show (p a || Wj p l)=true↔_
   rw [kI,ih]
   exact ⟨fun h=>by rcases h with h | ⟨x,h1,h2⟩;exact ⟨a,bC,h⟩;exact ⟨x,aV _ h1,h2⟩,fun ⟨x,h1,h2⟩=>by rcases cH.1 h1 with rfl | h1;exact .inl h2;exact .inr ⟨x,h1,h2⟩⟩
def Wk (m i:Nat) (o:Oper):Bool:=not (Nat.testBit m i) && Bf (Nat.testBit m) (bnd o)
def He (o:Oper) (i:Nat):Bool:=Wj (Nat.beq i) (bnd o)
def Wm (p:Nat→Oper→Bool) (l:List Oper):Nat→Bool:=List.rec (fun _=>true) (fun o _ ih j=>p j o && ih (Nat.succ j)) l
def Di (p:Nat→Oper→Bool) (l:List Oper):Nat→Option Nat:=List.rec (fun _=>none) (fun o _ ih j=>bif p j o then some j else ih (Nat.succ j)) l
theorem Mh {p:Nat→Oper→Bool}:∀ {l:List Oper} {j:Nat},Wm p l j=true→∀ k o,l[k]?=some o→p (j+k) o=true:=by
 intro l
 induction l with
 | nil=>intro j _ k o h;simp at h
 | cons x l ih =>
   intro j h k o hk
   have h':(p j x && Wm p l (j+1))=true:=h
   rw [aA] at h'
   cases k with
   | zero=>simp at hk;subst hk;exact h'.1
   | succ k =>
     have:=ih h'.2 k o (by simpa using hk)
     rw [show j+(k+1)=j+1+k by omega];exact this
theorem BC {p:Nat→Oper→Bool}:∀ {l:List Oper} {j i:Nat},Di p l j=some i→∃ k o,i=j+k∧l[k]?=some o∧p i o=true:=by
 intro l
 induction l with
 | nil=>intro j i h;cases h
 | cons x l ih =>
   intro j i h
   have h':(bif p j x then some j else Di p l (j+1))=some i:=h
   rcases rA h' with ⟨h1,h2⟩ | ⟨_,h2⟩
   · cases h2;exact ⟨0,x,rfl,rfl,h1⟩
   obtain ⟨k,o,e,h3,h4⟩:=ih h2
   exact ⟨k+1,o,by omega,by simpa using h3,h4⟩
def xM:Op→Bool
 | .move _ | .assign _ | .pick .. | .unOp .. | .binOp .. | .convert .. | .extract .. | .nilCheck _ | .fieldAddr .. | .field .. | .load .. | .makeFunc .. | .indexAddr .. | .index .. | .slice .. | .build .. | .lookup ..=>true
 | .call ⟨.builtin .len,_,_⟩ | .call ⟨.builtin .cap,_,_⟩ | .call ⟨.builtin .min,_,_⟩ | .call ⟨.builtin .max,_,_⟩=>true
 | _=>false
def frB (all:Array Oper) (m i:Nat) (oi:Oper) (l:List Oper):Bool:=Wm (fun j oj=>Nat.beq j i || (Nat.testBit m j || (He oj i || oi.apart all oj))) l 0
def Cn (m i:Nat):Nat:=m ||| (1 <<< i)
inductive Pk where
 | look
 | only
 | race (R:List Nat)
 | make (R:List Nat)
def BD:Op→Bool
 | .alloc _ | .box .. | .makeSlice .. | .buildSlice .. | .makeMap _ none=>true
 | _=>false
def isT (d:Nat):Operand→Bool | .tmp t=>Nat.beq t d | _=>false
def Hf (o:Oper):Bool:=BD o.op && (match o.guard with | none=>(match o.dst with | some d=>not (Wj (isT d) o.op.operands.toList) | none=>false) | some _=>false)
def FR (R:List Nat) (i:Nat):Bool:=Wj (Nat.beq i) R
def Hg (l:List Oper) (i:Nat) (p:Oper→Bool):Bool:=match zT l i with | some o=>p o | none=>false
def MH (R:List Nat) (m:Nat):Nat:=List.rec m (fun j _ ih=>Cn ih j) R
def xP (l:List Oper) (m:Nat):List Nat:=List.rec (motive:=fun _=>Nat→List Nat) (fun _=>[]) (fun o _ ih j=>bif Wk m j o then j :: ih (Nat.succ j) else ih (Nat.succ j)) l 0
def Kd (l:List Oper) (m:Nat) (Rc:List Nat) (i:Nat) (o:Oper) (R:List Nat):Bool:=
 (Wk m i o && Bf (fun k=>Nat.beq k i || FR R k) Rc) && ((not (FR R i) && Bf (fun j=>Hg l j fun oj=>(Hf oj && not (Nat.testBit m j)) && (oj.apart l.toArray o && Bf (fun k=>Nat.beq k j || Hg l k fun ok=>oj.apart l.toArray ok) R)) R) &&
  Wm (fun j oj=>Nat.beq j i || not (Wk (MH R m) j oj)) l 0)
def Hh (R Rc:List Nat):Bool:=match R,Rc with | [],[]=>true | _,_=>false
theorem Hj {R Rc:List Nat} (h:Hh R Rc=true):R=[]∧Rc=[]:=by
 cases R <;> cases Rc <;> first | exact ⟨rfl,rfl⟩ | cases h
def Hk (l:List Oper) (f:Nat):Nat→List Nat→Option (List (Nat×Pk)):=
 Nat.rec (fun m Rc=>bif Wm (fun j o=>not (Wk m j o)) l 0 then (bif Hh [] Rc then some [] else none) else none)
  (fun _ ih m Rc=>match Di (fun i o=>xM o.op && (Wk m i o && frB l.toArray m i o l)) l 0 with
   | some i=>(match ih (Cn m i) Rc with | some p=>some ((i,.look) :: p) | none=>none)
   | none=>(match Di (fun i o=>Wk m i o && not (Hf o)) l 0 with
     | some i=>bif Hg l i (fun o=>Kd l m Rc i o ((xP l m).filter fun j=>not (Nat.beq j i))) then
      (bif Hh ((xP l m).filter fun j=>not (Nat.beq j i)) Rc then (match ih (Cn m i) [] with | some p=>some ((i,.only) :: p) | none=>none) else
      bif Hg l i (fun o=>not (BD o.op) && (match o.guard with | none=>true | some _=>false)) then (match ih (Cn m i) ((xP l m).filter fun j=>not (Nat.beq j i)) with | some p=>some ((i,.race ((xP l m).filter fun j=>not (Nat.beq j i))) :: p) | none=>none) else none) else none
     | none=>(match Di (Wk m) l 0 with
       | some i=>bif Hg l i (fun o=>Hf o && Kd l m Rc i o ((xP l m).filter fun j=>not (Nat.beq j i))) then
        (bif Hh ((xP l m).filter fun j=>not (Nat.beq j i)) Rc then (match ih (Cn m i) [] with | some p=>some ((i,.only) :: p) | none=>none) else
        (match ih (Cn m i) ((xP l m).filter fun j=>not (Nat.beq j i)) with | some p=>some ((i,.make ((xP l m).filter fun j=>not (Nat.beq j i))) :: p) | none=>none)) else none
       | none=>none))) f
def Hl (l:List Oper):Option (List (Nat×Pk)):=bif Region.noSelect l.toArray && l.all sA then Hk l l.length 0 [] else none
def LM (l:List Oper) (L:Array Bool) (m:Nat):Prop:=L.size=l.length∧∀ i,L.getD i false=Nat.testBit m i
theorem LM.in {l:List Oper} {L:Array Bool} {m:Nat} (h:LM l L m) {i:Nat} (hi:i<l.length):L.getD i true=Nat.testBit m i:=by
 rw [←h.2 i]
 have:i<L.size:=by rw [h.1];exact hi
 simp [this]
theorem LM.set {l:List Oper} {L:Array Bool} {m i:Nat} (h:LM l L m) (hi:i<l.length):LM l (L.setIfInBounds i true) (Cn m i):=by
 refine ⟨by simp [h.1],fun j=>?_⟩
 unfold Cn
 rw [Nat.testBit_or,←h.2 j]
 have hsz:i<L.size:=by rw [h.1];exact hi
 by_cases e:i=j
 · subst e
   have:(1 <<< i).testBit i=true:=by rw [Nat.testBit_shiftLeft];simp
   rw [this,Bool.or_true]
   simp [hsz]
 have:(1 <<< i).testBit j=false:=by rw [Nat.one_shiftLeft,Nat.testBit_two_pow_of_ne e]
 rw [this,Bool.or_false]
 rw [eG,eG,fQ e]
theorem LM.start (l:List Oper):LM l (Array.replicate l.length false) 0:=by
 refine ⟨by simp,fun i=>?_⟩
 rw [Nat.zero_testBit,eG,Array.getElem?_replicate]
 split <;> rfl
theorem Eg {l:List Oper} {L:Array Bool} {m j:Nat} {o:Oper} (h:LM l L m) (hj:l[j]?=some o):Wk m j o=true↔j∈Region.ready .any l.toArray L:=by
 have hlt:j<l.length:=(aJ.1 hj).1
 rw [dQ]
 unfold Wk
 rw [aA,cW,tE,h.in hlt]
 have hj':l.toArray[j]?=some o:=by simpa using hj
 refine ⟨fun ⟨h1,h2⟩=>⟨h1,o,hj',fun e he hb=>?_⟩,fun ⟨h1,o',ho',h2⟩=>⟨h1,fun x hx=>?_⟩⟩
 · rw [h.2];exact h2 e.on (dD.2 ⟨e,fP.2 ⟨jQ.2 he,hb⟩,rfl⟩)
 rw [hj'] at ho';cases ho'
 obtain ⟨e,he,rfl⟩:=dD.1 hx
 obtain ⟨he1,he2⟩:=fP.1 he
 rw [←h.2];exact h2 e (jQ.1 he1) he2
theorem Hm {o:Oper} {i:Nat}:He o i=true↔∃ e∈o.after,Region.binds .any e=true∧e.on=i:=by
 unfold He
 rw [Hd]
 refine ⟨fun ⟨x,hx,hb⟩=>?_,fun ⟨e,he,hb,hi⟩=>⟨i,dD.2 ⟨e,fP.2 ⟨jQ.2 he,hb⟩,hi⟩,by simp⟩⟩
 have:=aB hb
 subst this
 obtain ⟨e,he,rfl⟩:=dD.1 hx
 obtain ⟨he1,he2⟩:=fP.1 he
 exact ⟨e,jQ.1 he1,he2,rfl⟩
def Hn (R:List Nat) (L:Array Bool):Array Bool:=R.foldr (fun j L=>L.setIfInBounds j true) L
structure RaceOk (l:List Oper) (L:Array Bool) (Rc:List Nat) (i:Nat) (R:List Nat):Prop where
 rd:i∈Region.ready .any l.toArray L
 sub:∀ k∈Rc,k=i∨k∈R
 ni:i ∉ R
 mks:∀ j∈R,∃ oj,l[j]?=some oj∧Hf oj=true∧L.getD j true=false∧(∀ o,l[i]?=some o→oj.apart l.toArray o=true)∧∀ k∈R,k≠j→∀ ok,l[k]?=some ok→oj.apart l.toArray ok=true
 only:∀ j,j∈Region.ready .any l.toArray (Hn R L)→j=i
def PlanOk (l:List Oper):Array Bool→List Nat→List (Nat×Pk)→Prop
 | L,Rc,[]=>Region.ready .any l.toArray L=[]∧Rc=[]
 | L,Rc,(i,.look) :: p=>(∃ o,l[i]?=some o∧xM o.op=true∧i∈Region.ready .any l.toArray L∧∀ j oj,l.toArray[j]?=some oj→j≠i→L.getD j true=false→(∀ e∈oj.after,Region.binds .any e=true→e.on≠i)→o.apart l.toArray oj=true)∧PlanOk l (L.setIfInBounds i true) Rc p
 | L,Rc,(i,.only) :: p=>Rc=[]∧(∃ o,l[i]?=some o∧i∈Region.ready .any l.toArray L∧∀ j∈Region.ready .any l.toArray L,j=i)∧PlanOk l (L.setIfInBounds i true) [] p
 | L,Rc,(i,.race R) :: p=>RaceOk l L Rc i R∧(∃ o,l[i]?=some o∧o.guard=none∧BD o.op=false)∧PlanOk l (L.setIfInBounds i true) R p
 | L,Rc,(i,.make R) :: p=>RaceOk l L Rc i R∧(∃ o,l[i]?=some o∧Hf o=true)∧PlanOk l (L.setIfInBounds i true) R p
theorem xL {l:List Oper} {i:Nat} {p:Oper→Bool} (h:Hg l i p=true):∃ o,l[i]?=some o∧p o=true:=by
 unfold Hg at h
 split at h
 · rename_i o ho;exact ⟨o,by rw [←uJ];exact ho,h⟩
 cases h
theorem Ot {R:List Nat} {i:Nat}:FR R i=true↔i∈R:=by
 unfold FR
 rw [Hd]
 exact ⟨fun ⟨x,h1,h2⟩=>by rw [aB h2];exact h1,fun h=>⟨i,h,by simp⟩⟩
theorem Tg {l:List Oper}:∀ {R:List Nat} {L:Array Bool} {m:Nat},LM l L m→(∀ j∈R,j<l.length)→LM l (Hn R L) (MH R m)
 | [],_,_,h,_=>h
 | j :: R,_,_,h,hr=>(Tg h fun k hk=>hr k (aV _ hk)).set (hr j (bC ..))
theorem Ou {l:List Oper} {m:Nat} {L:Array Bool} {Rc R:List Nat} {i:Nat} {o:Oper} (hL:LM l L m) (ho:l[i]?=some o) (h:Kd l m Rc i o R=true):RaceOk l L Rc i R:=by
 unfold Kd at h
 simp only [aA] at h
 obtain ⟨⟨h1,h2⟩,⟨h3,h4⟩,h5⟩:=h
 have hmk:∀ j∈R,∃ oj,l[j]?=some oj∧Hf oj=true∧Nat.testBit m j=false∧oj.apart l.toArray o=true∧∀ k∈R,k≠j→∀ ok,l[k]?=some ok→oj.apart l.toArray ok=true:=fun j hj=>by
  have:=tE.1 h4 j hj
  obtain ⟨oj,e1,e2⟩:=xL this
  simp only [aA,cW] at e2
  obtain ⟨⟨e3,e4⟩,e5,e6⟩:=e2
  refine ⟨oj,e1,e3,e4,e5,fun k hk hne ok hok=>?_⟩
  have:=tE.1 e6 k hk
  simp only [kI] at this
  rcases this with h | h
  · exact absurd (aB h) hne
  obtain ⟨ok',e7,e8⟩:=xL h
  rw [hok] at e7;cases e7;exact e8
 have hlt:∀ j∈R,j<l.length:=fun j hj=>by obtain ⟨oj,e1,_⟩:=hmk j hj;exact (aJ.1 e1).1
 refine ⟨(Eg hL ho).1 h1,fun k hk=>?_,fun hi=>?_,fun j hj=>?_,fun j hj=>?_⟩
 · have:=tE.1 h2 k hk
   simp only [kI] at this
   exact this.imp aB Ot.1
 · rw [Ot.2 hi] at h3;cases h3
 · obtain ⟨oj,e1,e2,e3,e4,e5⟩:=hmk j hj
   exact ⟨oj,e1,e2,by rw [hL.in (hlt j hj)];exact e3,fun o' ho'=>by rw [ho] at ho';cases ho';exact e4,e5⟩
 obtain ⟨_,oj,hoj,_⟩:=dQ.1 hj
 have hoj':l[j]?=some oj:=by simpa using hoj
 have:=Mh h5 j oj hoj'
 rw [bO,(Eg (Tg hL hlt) hoj').2 hj] at this
 simp only [Bool.not_true,Bool.or_false] at this
 exact aB this
theorem BE {l:List Oper}:∀ {f m:Nat} {L:Array Bool} {Rc:List Nat} {p:List (Nat×Pk)},LM l L m→Hk l f m Rc=some p→PlanOk l L Rc p∧p.length=f:=by
 intro f
 induction f with
 | zero =>
   intro m L Rc p hL h
   have h':(bif Wm (fun j o=>not (Wk m j o)) l 0 then (bif Hh [] Rc then some [] else none) else none)=some p:=h
   rcases rA h' with ⟨h1,h2⟩ | ⟨_,h2⟩
   · rcases rA h2 with ⟨h3,h2⟩ | ⟨_,h2⟩
     · obtain ⟨_,rfl⟩:=Hj h3
       cases h2
       refine ⟨⟨fR.2 fun j hj=>?_,rfl⟩,rfl⟩
       obtain ⟨_,o,ho,_⟩:=dQ.1 hj
       have ho':l[j]?=some o:=by simpa using ho
       have:=Mh h1 j o ho'
       rw [bO] at this
       rw [(Eg hL ho').2 hj] at this
       cases this
     cases h2
   · cases h2
 | succ f ih =>
   intro m L Rc p hL h
   have h':(match Di (fun i o=>xM o.op && (Wk m i o && frB l.toArray m i o l)) l 0 with
    | some i=>(match Hk l f (Cn m i) Rc with | some p=>some ((i,.look) :: p) | none=>none)
    | none=>(match Di (fun i o=>Wk m i o && not (Hf o)) l 0 with
      | some i=>bif Hg l i (fun o=>Kd l m Rc i o ((xP l m).filter fun j=>not (Nat.beq j i))) then
       (bif Hh ((xP l m).filter fun j=>not (Nat.beq j i)) Rc then (match Hk l f (Cn m i) [] with | some p=>some ((i,.only) :: p) | none=>none) else
       bif Hg l i (fun o=>not (BD o.op) && (match o.guard with | none=>true | some _=>false)) then (match Hk l f (Cn m i) ((xP l m).filter fun j=>not (Nat.beq j i)) with | some p=>some ((i,.race ((xP l m).filter fun j=>not (Nat.beq j i))) :: p) | none=>none) else none) else none
      | none=>(match Di (Wk m) l 0 with
        | some i=>bif Hg l i (fun o=>Hf o && Kd l m Rc i o ((xP l m).filter fun j=>not (Nat.beq j i))) then
         (bif Hh ((xP l m).filter fun j=>not (Nat.beq j i)) Rc then (match Hk l f (Cn m i) [] with | some p=>some ((i,.only) :: p) | none=>none) else
         (match Hk l f (Cn m i) ((xP l m).filter fun j=>not (Nat.beq j i)) with | some p=>some ((i,.make ((xP l m).filter fun j=>not (Nat.beq j i))) :: p) | none=>none)) else none
        | none=>none)))=some p:=h
   have lt:∀ {i:Nat} {o:Oper},l[i]?=some o→i<l.length:=fun h=>(aJ.1 h).1
   have one:∀ {i:Nat} {o:Oper},l[i]?=some o→RaceOk l L [] i []→(∃ o,l[i]?=some o∧i∈Region.ready .any l.toArray L∧∀ j∈Region.ready .any l.toArray L,j=i):=fun ho hr=>⟨_,ho,hr.rd,hr.only⟩
   split at h'
   · rename_i i hi
     obtain ⟨k,o,rfl,ho,hp⟩:=BC hi
     rw [bO] at *
     simp only [aA] at hp
     split at h'
     · rename_i q hq
       cases h'
       obtain ⟨e1,e2⟩:=ih (hL.set (lt ho)) hq
       refine ⟨⟨⟨o,ho,hp.1,(Eg hL ho).1 hp.2.1,fun j oj hj hne hun hno=>?_⟩,e1⟩,by rw [bH,e2]⟩
       have hj':l[j]?=some oj:=by simpa using hj
       have:=Mh hp.2.2 j oj hj'
       rw [bO] at this
       simp only [kI] at this
       rcases this with h1 | h1 | h1 | h1
       · exact absurd (aB h1) hne
       · rw [hL.in (lt hj')] at hun;rw [hun] at h1;cases h1
       · obtain ⟨e,he,hb,hi⟩:=Hm.1 h1
         exact absurd hi (hno e he hb)
       exact h1
     cases h'
   split at h'
   · rename_i i hi
     rcases rA h' with ⟨h1,h2⟩ | ⟨_,h2⟩
     · obtain ⟨o,ho,hr⟩:=xL h1
       generalize ((xP l m).filter fun j=>not (Nat.beq j i))=R at hr h2
       have hro:=Ou hL ho hr
       rcases rA h2 with ⟨h3,h2⟩ | ⟨_,h2⟩
       · obtain ⟨rfl,rfl⟩:=Hj h3
         split at h2
         · rename_i q hq
           cases h2
           obtain ⟨e1,e2⟩:=ih (hL.set (lt ho)) hq
           exact ⟨⟨rfl,one ho hro,e1⟩,by rw [bH,e2]⟩
         cases h2
       rcases rA h2 with ⟨h3,h4⟩ | ⟨_,h4⟩
       · obtain ⟨o',ho',hg⟩:=xL h3
         split at h4
         · rename_i q hq
           cases h4
           obtain ⟨e1,e2⟩:=ih (hL.set (lt ho)) hq
           rw [aA,cW] at hg
           refine ⟨⟨hro,⟨o',ho',?_,hg.1⟩,e1⟩,by rw [bH,e2]⟩
           cases hgd:o'.guard with
           | none=>rfl
           | some g=>rw [hgd] at hg;cases hg.2
         cases h4
       cases h4
     cases h2
   split at h'
   · rename_i i hi
     rcases rA h' with ⟨h1,h2⟩ | ⟨_,h2⟩
     · obtain ⟨o,ho,hr⟩:=xL h1
       rw [aA] at hr
       obtain ⟨hmk,hr⟩:=hr
       generalize ((xP l m).filter fun j=>not (Nat.beq j i))=R at hr h2
       have hro:=Ou hL ho hr
       rcases rA h2 with ⟨h3,h2⟩ | ⟨_,h2⟩
       · obtain ⟨rfl,rfl⟩:=Hj h3
         split at h2
         · rename_i q hq
           cases h2
           obtain ⟨e1,e2⟩:=ih (hL.set (lt ho)) hq
           exact ⟨⟨rfl,one ho hro,e1⟩,by rw [bH,e2]⟩
         cases h2
       split at h2
       · rename_i q hq
         cases h2
         obtain ⟨e1,e2⟩:=ih (hL.set (lt ho)) hq
         exact ⟨⟨hro,⟨o,ho,hmk⟩,e1⟩,by rw [bH,e2]⟩
       cases h2
     cases h2
   cases h'
theorem BF {l:List Oper} {p:List (Nat×Pk)} (h:Hl l=some p):Region.noSelect l.toArray=true∧l.all sA=true∧PlanOk l (Array.replicate l.length false) [] p∧p.length=l.length:=by
 unfold Hl at h
 rcases rA h with ⟨h1,h2⟩ | ⟨_,h2⟩
 · rw [aA] at h1
   obtain ⟨e1,e2⟩:=BE (LM.start l) h2
   exact ⟨h1.1,h1.2,e1,e2⟩
 cases h2
def Wn {α:Type} (f:α→α) (l:List α):Nat→List α:=List.rec (fun _=>[]) (fun x xs ih n=>Nat.rec (f x :: xs) (fun n _=>x :: ih n) n) l
theorem Th {α:Type} (f:α→α):∀ (l:List α) (n:Nat),Wn f l n=l.modify n f
 | [],n=>by simp [Wn]
 | x :: l,0=>rfl
 | x :: l,n+1=>by show x :: Wn f l n=_;rw [Th f l n];rfl
def RM (P:Program) (E:Tr CV) (h:Tr CB) (nx:Nat) (T:TypeId):Ro:=bif Nat.ble (Nat.succ nx) rF then
 (bif II P T then .val (.mp nx) (h.set (some (.mapI [] nx)) rF nx) (Nat.succ nx) else
  bif IJ P T then .val (.mp nx) (h.set (some (.mapK [] nx)) rF nx) (Nat.succ nx) else .bad) else .bad
def mv1 (P:Program) (E:Tr CV) (h:Tr CB) (nx:Nat) (T:TypeId) (x:Operand) (i:Operand) (c:Bool):Ro:=match sH E x with
 | some (.mp t)=>match sH E i with
   | some k=>match h.get t with
     | some (.mapI l _)=>match We k with | some n=>(bif II P T then .val (JK c (Ix Cj n l)) h nx else .bad) | none=>.bad
     | some (.mapK l _)=>match Wf k with | some n=>(bif IJ P T then .val (JK c (Ix JJ n l)) h nx else .bad) | none=>.bad
     | _=>.bad
   | none=>.bad
 | _=>.bad
def mv2 (P:Program) (E:Tr CV) (h:Tr CB) (nx:Nat) (T:TypeId) (x:Operand) (i:Operand) (y:Operand):Ro:=match sH E x with
 | some (.mp t)=>match sH E i with
   | some k=>match sH E y with
     | some (.int .i64 v)=>bif Nat.ble (Nat.succ nx) rF then (match h.get t with
       | some (.mapI l _)=>match We k with | some n=>(bif II P T then .unit (h.set (some (.mapI (AV Cj n v l) nx)) rF t) (Nat.succ nx) else .bad) | none=>.bad
       | some (.mapK l _)=>match Wf k with | some n=>(bif IJ P T then .unit (h.set (some (.mapK (AV JJ n v l) nx)) rF t) (Nat.succ nx) else .bad) | none=>.bad
       | _=>.bad) else .bad
     | _=>.bad
   | none=>.bad
 | _=>.bad
def mv3 (P:Program) (E:Tr CV) (h:Tr CB) (nx:Nat) (T:TypeId) (x:Operand) (i:Operand):Ro:=match sH E x with
 | some (.mp t)=>match sH E i with
   | some k=>bif Nat.ble (Nat.succ nx) rF then (match h.get t with
     | some (.mapK l _)=>match Wf k with
       | some n=>(bif IJ P T then (match Ix JJ n l with
         | none=>.val (.tup (.cons (.int .i64 0) (.cons (.int .i64 l.length) .nil))) (h.set (some (.mapK (l++[(n,0)]) nx)) rF t) (Nat.succ nx)
         | some _=>.bad) else .bad)
       | none=>.bad
     | some (.mapI l _)=>match We k with
       | some n=>(bif II P T then (match Ix Cj n l with
         | none=>.val (.tup (.cons (.int .i64 0) (.cons (.int .i64 l.length) .nil))) (h.set (some (.mapI (l++[(n,0)]) nx)) rF t) (Nat.succ nx)
         | some _=>.bad) else .bad)
       | none=>.bad
     | _=>.bad) else .bad
   | none=>.bad
 | _=>.bad
def mv4 (P:Program) (E:Tr CV) (h:Tr CB) (nx:Nat) (T:TypeId) (x:Operand) (s:Operand) (y:Operand):Ro:=match sH E x with
 | some (.mp t)=>match sH E s with
   | some (.int .i64 m)=>match sH E y with
     | some (.int .i64 v)=>bif Nat.ble (Nat.succ nx) rF && tS 0 m then (match h.get t with
       | some (.mapK l _)=>bif Nat.ble (Nat.succ m.toNat) l.length then .unit (h.set (some (.mapK (Wn (fun p=>(p.1,v)) l m.toNat) nx)) rF t) (Nat.succ nx) else .bad
       | some (.mapI l _)=>bif Nat.ble (Nat.succ m.toNat) l.length then .unit (h.set (some (.mapI (Wn (fun p=>(p.1,v)) l m.toNat) nx)) rF t) (Nat.succ nx) else .bad
       | _=>.bad) else .bad
     | _=>.bad
   | _=>.bad
 | _=>.bad
def mv5 (P:Program) (E:Tr CV) (h:Tr CB) (nx:Nat) (T:TypeId) (n:Nat) (parts:List (Nat×Operand)):Ro:=bif Nat.beq n 0 && Nat.ble (Nat.succ nx) rF then (match parts with
 | []=>match Jy P T with
   | some (e,sz)=>.val (.sl nx 0 0 sz (some 0)) (h.set (some (.cells (It .nil) e false nx)) rF nx) (Nat.succ nx)
   | none=>.bad
 | _=>.bad) else .bad
def mv6 (P:Program) (E:Tr CV) (h:Tr CB) (nx:Nat) (s:TypeId) (t:TypeId) (x:Operand):Ro:=match sH E x with
 | some (.sl b o n sz c)=>match P.underlying t with
   | some (.slice e)=>match P.underlying e with
     | some (.int .u8)=>bif Nat.beq s t && Nat.ble (Nat.succ nx) rF then (match h.get b with
       | some (.cells l ty false _)=>.val (.sl b o n sz c) (h.set (some (.ro l ty nx)) rF b) (Nat.succ nx)
       | _=>.bad) else .bad
     | _=>.bad
   | _=>.bad
 | _=>.bad
def mv7 (P:Program) (E:Tr CV) (h:Tr CB) (nx:Nat) (T:TypeId) (x:Operand):Ro:=match sH E x with
 | some (.ptr t o)=>match h.get t with
   | some (.ro l _ _)=>bif sY P T then (match Vx l o with | some c=>.val c h nx | none=>.bad) else .bad
   | _=>.bad
 | _=>.bad
def mv8 (P:Program) (E:Tr CV) (h:Tr CB) (nx:Nat) (T:TypeId) (x:Operand) (i:Operand):Ro:=match sH E x with
 | some (.str s)=>match P.underlying T with
   | some .string=>match sH E i with
     | some (.int _ m)=>bif tS 0 m then (match Ci s m.toNat with | some c=>.val c h nx | none=>.bad) else .bad
     | _=>.bad
   | _=>.bad
 | _=>.bad
def mv9 (P:Program) (E:Tr CV) (h:Tr CB) (nx:Nat) (T:TypeId) (x:Operand) (lo hi:Option Operand):Ro:=match sH E x with
 | some (.ptr t o)=>match lo with
   | none=>match hi with
     | none=>match LV P T with
       | some (n,_,sz)=>match h.get t with
         | some (.cells l _ _ _)=>bif Nat.ble (Nat.add o (Nat.mul n sz)) l.n && Nat.ble n 4611686018427387904 then .val (.sl t o n sz (some n)) h nx else .bad
         | _=>.bad
       | none=>.bad
     | some _=>.bad
   | some _=>.bad
 | some (.str s)=>match P.underlying T with
   | some .string=>match IK E lo with
     | some l=>match hiC E (rU s) hi with
       | some hh=>bif tS 0 l && (tS l hh && tS hh (rU s)) then .val (.str (yI (hh.toNat - l.toNat) (yH l.toNat s))) h nx else .bad
       | none=>.bad
     | none=>.bad
   | _=>.bad
 | _=>.bad
def MI:CV→Bool
 | .int .u8 n=>tS 0 n && not (tS 256 n)
 | _=>false
def BG (l:CV):Bool:=lrec true (fun a _ ih=>MI a && ih) l
def MJ (P:Program) (E:Tr CV) (h:Tr CB) (nx:Nat) (s:TypeId) (x:Operand):Ro:=match P.underlying s with
 | some (.slice e)=>match P.underlying e with
   | some (.int .u8)=>match sH E x with
     | some .nils=>.val (.str .nil) h nx
     | some (.sl b o n sz _)=>match h.get b with
       | some (.cells l _ _ _)=>bif Nat.beq (rU (sB l o n)) n && BG (sB l o n) then .val (.str (sB l o n)) h nx else .bad
       | _=>.bad
     | _=>.bad
   | _=>.bad
 | _=>.bad
def MK (P:Program) (E:Tr CV) (h:Tr CB) (nx:Nat) (s:TypeId) (x:Operand):Ro:=match P.underlying s with
 | some (.pointer u)=>match Xc P u with
   | some k=>bif Nat.beq k 0 then .bad else (match sH E x with
     | some (.ptr t o)=>match h.get t with
       | some (.cells l _ _ _)=>bif Nat.ble (Nat.succ o) l.n then .val (.ptr t o) h nx else .bad
       | _=>.bad
     | _=>.bad)
   | none=>.bad
 | _=>.bad
def ML (P:Program) (E:Tr CV) (h:Tr CB) (nx:Nat) (s u:TypeId) (x:Operand):Ro:=match P.underlying s with
 | some .unsafePointer=>match P.info? u with
   | some _=>match sH E x with
     | some (.ptr t o)=>match h.get t with
       | some (.cells l ty false _)=>bif liesAt P P.depth ty (l.n / P.cellsOf ty) o u 1 then .val (.ptr t o) h nx else .bad
       | _=>.bad
     | _=>.bad
   | none=>.bad
 | _=>.bad
def mvC (P:Program) (E:Tr CV) (h:Tr CB) (nx:Nat) (s t:TypeId) (x:Operand):Ro:=match P.underlying t with
 | some .string=>MJ P E h nx s x
 | some .unsafePointer=>MK P E h nx s x
 | some (.pointer u)=>ML P E h nx s u x
 | _=>mv6 P E h nx s t x
def MM (E:Tr CV) (h:Tr CB) (nx:Nat) (x:Operand):Ro:=match sH E x with
 | some (.sl t o n _ (some c))=>bif Nat.beq c 0 then .bad else .val (.ptr t o) h nx
 | some (.sl t o n _ none)=>bif Nat.beq n 0 then .bad else .val (.ptr t o) h nx
 | some .nils=>.val .nilp h nx
 | _=>.bad
def MN (P:Program) (E:Tr CV) (h:Tr CB) (nx:Nat) (x y:Operand) (pt it:TypeId):Ro:=match sH E y with
 | some (.int .i64 m)=>match sH E x with
   | some .nilp=>bif Cj m 0 then .val (.str .nil) h nx else .bad
   | some (.ptr t o)=>match P.underlying pt with
     | some (.pointer e)=>match h.get t with
       | some (.cells l ty _ _)=>bif (Nat.beq o 0 && (Nat.beq ty e && Nat.beq (P.cellsOf e) 1)) && ((tS 1 m && tS m 9223372036854775807) && (Nat.beq (rU (sB l 0 m.toNat)) m.toNat && (BG (sB l 0 m.toNat) && Nat.ble nx rF))) then .val (.str (sB l 0 m.toNat)) (h.set none rF t) nx else .bad
       | _=>.bad
     | _=>.bad
   | _=>.bad
 | _=>.bad
def Ke (P:Program) (g:Nat):Bool:=match zT P.funcs.toList g with
 | some fn => fn.name == "internal/abi.NoEscape" && (fn.origin == "" && fn.body.isNone)
 | none=>false
def MO (P:Program):Operand→Bool
 | .func g=>Ke P g
 | _=>false
theorem BH {fn : Func} (hn : fn.name = "internal/abi.NoEscape") (ho : fn.origin = "") : Extern.findNext fn = none ∧ Extern.find fn = some Extern.AbiNoEscape.same := by
 have h1 : Extern.allNextRows.lookup "internal/abi.NoEscape" = none := by kernel_rfl
 have h2 : Extern.allNextRows.lookup "" = none := by kernel_rfl
 refine ⟨?_,?_⟩
 · unfold Extern.findNext
   simp only [hn,ho,h1,h2];rfl
 unfold Extern.find
 simp only [hn]
 have h3 : Extern.allGenericRows.lookup "internal/abi.NoEscape" = none := by kernel_rfl
 have h4 : Extern.allTypedRows.lookup "internal/abi.NoEscape" = none := by kernel_rfl
 simp only [h3,h4]
 rfl
theorem BI {P : Program} {g : Nat} (h : Ke P g = true) : ∃ fn, P.funcs[g]? = some fn ∧ (fn.name == "runtime.NumGoroutine") = false ∧ fn.body.isNone = true ∧ Extern.findNext fn = none ∧ Extern.find fn = some Extern.AbiNoEscape.same := by
 unfold Ke at h
 split at h
 · rename_i fn hfn
   simp only [aA,beq_iff_eq] at h
   rw [uJ,lJ] at hfn
   obtain ⟨k1,k2⟩:=BH h.1 h.2.1
   exact ⟨fn,hfn,by rw [h.1];decide,h.2.2,k1,k2⟩
 cases h
def MP (P:Program) (E:Tr CV) (h:Tr CB) (nx:Nat) (g:Nat) (x:Operand):Ro:=bif Ke P g then (match sH E x with | some c=>.val c h nx | none=>.bad) else .bad
def MQ (P:Program) (E:Tr CV) (h:Tr CB) (nx:Nat) (T:TypeId) (x:Operand):Ro:=match sH E x with
 | some (.str s)=>match P.underlying T with
   | some .string=>bif Nat.ble (Nat.succ nx) rF then .val (.ptr nx 0) (h.set (some (.it s 0 nx)) rF nx) (Nat.succ nx) else .bad
   | _=>.bad
 | _=>.bad
def MR (E:Tr CV) (h:Tr CB) (nx:Nat) (x:Operand):Ro:=match sH E x with
 | some (.ptr t o)=>bif Nat.beq o 0 then (match h.get t with
   | some (.it l pos _)=>match Ci l pos with
     | some (.int .u8 n)=>bif tS 0 n && (not (tS 128 n) && Nat.ble (Nat.succ nx) rF) then .val (.tup (.cons (.bool true) (.cons (.int .i64 pos) (.cons (.int .i32 n) .nil)))) (h.set (some (.it l (Nat.succ pos) nx)) rF t) (Nat.succ nx) else .bad
     | none=>bif Nat.ble (rU l) pos then .val (.tup (.cons (.bool false) .nil)) h nx else .bad
     | _=>.bad
   | _=>.bad) else .bad
 | _=>.bad
def mv (P:Program) (E:Tr CV) (h:Tr CB) (nx:Nat):Op→Ro
 | .makeMap T none=>RM P E h nx T
 | .lookup T x i c=>mv1 P E h nx T x i c
 | .mapUpdate T x i y=>mv2 P E h nx T x i y
 | .mapEntry T x i=>mv3 P E h nx T x i
 | .entryStore T x s y=>mv4 P E h nx T x s y
 | .buildSlice T n ⟨parts⟩=>mv5 P E h nx T n parts
 | .convert s t x=>mvC P E h nx s t x
 | .load T x=>mv7 P E h nx T x
 | .index T x i=>mv8 P E h nx T x i
 | .slice T x lo hi none=>mv9 P E h nx T x lo hi
 | .call ⟨.builtin .unsafeSliceData,⟨[x]⟩,_⟩=>MM E h nx x
 | .call ⟨.builtin .unsafeString,⟨[x,y]⟩,⟨[pt,it]⟩⟩=>MN P E h nx x y pt it
 | .call ⟨.value (.func g),⟨[x]⟩,_⟩=>MP P E h nx g x
 | .range T x=>MQ P E h nx T x
 | .next x true=>MR E h nx x
 | _=>.bad
section
variable {P:Program} {nx n:Nat} {ρ:Pl} {Φ:Imm→Prop} {w0:Bas Φ} {w:World} {E:Tr CV} {h:Tr CB} {a:Act}
theorem Mi {κ:Type} [DecidableEq κ] [OneVal κ] {t:Nat} {b b':CB} {l:List (κ×Int)} (hm:Mem ρ w0 h nx w) (hfit:nx≤rF) (ht:h.get t=some b) (hst:Ly b'=nx) (hb:DB nx ρ (ρ t).2 b' (sC l)) :
 Mem ρ w0 (h.set (some b') rF t) (nx+1) { w with heap:=w.heap.setIfInBounds (ρ t).1 (sC l) }∧Iy ρ h nx w ρ (h.set (some b') rF t) { w with heap:=w.heap.setIfInBounds (ρ t).1 (sC l) }:=
 hm.write hfit hst ht DJ (by simp [hm.lt ht]) hb
variable {κ:Type} [DecidableEq κ] [OneVal κ] {T kt:TypeId}
theorem Ja {r:Nat} {xs:List (κ×Int)} {k:κ} {v:Int} (hT:MapT P T kt κ) (hb:w.heap[r]?=some (sC xs)):(Instr.mapUpdate T (.map (some r)) (OneVal.val k) (.int .i64 v)).run P w =
 .ok () { w with heap:=w.heap.setIfInBounds r (sC (Ii xs k v)) }:=by
 obtain ⟨⟨et,hu,hz⟩,hk⟩:=hT
 simp only [Instr.mapUpdate,aY,aO hu,aG,kZ (P:=P) hb,bB,hk.check,hk.look]
 cases hm:uF xs k with
 | none =>
   rw [(Bt xs k).1 hm,Uh xs k v hm]
   simp only [Option.bind_none,kY (P:=P) _ hb,aG]
   congr 3
   simp [sC,xX,rN]
 | some u =>
   obtain ⟨i,h1,h2,h3⟩:=Jj xs k hm
   rw [h1,h3]
   have hg:(rN 0 xs)[i]?=some { key:=OneVal.val k,val:=.int .i64 u,born:=0+i }:=by rw [uB,h2];rfl
   simp only [gO,dP,lH,hg,iH,aY,hk.stays,aG,kY (P:=P) _ hb]
   congr 3
   simp only [sC,aI,Cy xs i k u v h2]
   congr 1
   apply qA
   simp only [Array.toList_modify]
   apply eW
   intro j
   simp only [pA,uB]
   by_cases hij:i=j
   · subst hij;simp [h2]
   simp [hij]
theorem Mj {r:Nat} {xs:List (κ×Int)} {k:κ} (hT:MapT P T kt κ) (hb:w.heap[r]?=some (sC xs)) (hk0:uF xs k=none):(Instr.mapEntry T (.map (some r)) (OneVal.val k)).run P w =
 .ok (.tuple #[.int .i64 0,.int .i64 xs.length]) { w with heap:=w.heap.setIfInBounds r (sC (xs++[(k,0)])) }:=by
 obtain ⟨⟨et,hu,hz⟩,hk⟩:=hT
 simp only [Instr.mapEntry,aY,aO hu,aG,kZ (P:=P) hb,bB,hk.check,hk.look]
 rw [(Bt xs k).1 hk0]
 simp only [Option.bind_none,aY,hz,aG,kY (P:=P) _ hb,bB,goInt]
 congr 3
 simp [sC,xX,rN]
theorem Hq {r i:Nat} {xs:List (κ×Int)} {v:Int} (hb:w.heap[r]?=some (sC xs)) (hi:i<xs.length):(Instr.entryStore T (.map (some r)) (.int .i64 i) (.int .i64 v)).run P w =
 .ok () { w with heap:=w.heap.setIfInBounds r (sC (xs.modify i fun p=>(p.1,v))) }:=by
 obtain ⟨k,u,hku⟩:∃ k u,xs[i]?=some (k,u):=⟨_,_,aD hi⟩
 have hfind:(rN 0 xs).toArray.findIdx? (fun e=>(e.born:Int) == (i:Int))=some i:=by
  rw [List.findIdx?_toArray,qB]
  have hl:(rN 0 xs).length=xs.length:=Eu xs 0
  refine ⟨by omega,?_,?_⟩
  · have:=uB xs 0 i
    rw [aD (show i<(rN 0 xs).length by omega),hku] at this
    simp at this
    simp [this]
  intro j hj
  have:=uB xs 0 j
  rw [aD (show j<(rN 0 xs).length by omega),aD (show j<xs.length by omega)] at this
  simp at this
  simp [this];omega
 simp only [Instr.entryStore,aY,kZ (P:=P) hb,aG,asInt,asIntOf,bB]
 rw [hfind]
 simp only [kY (P:=P) _ hb,aG,bB]
 congr 3
 have h3:=Cy xs i k u v hku 0
 have h4:xs.modify i (fun p=>(p.1,v))=xs.set i (k,v):=by
  apply eW
  intro j
  rw [pA,fO]
  by_cases hij:i=j
  · subst hij;obtain ⟨_,hg⟩:=aJ.1 hku;simp [hi,hg]
  simp [hij]
 rw [h4]
 simp only [sC,h3,aI]
 simp
theorem Tj {κ:Type} [DecidableEq κ] [OneVal κ] {eq:κ→κ→Bool} (he:∀ a b,eq a b=decide (a=b)) {T kt t:Nat} {x i:Operand} {c:Bool} {l:List (κ×Int)} {b:CB} {k:κ} {kc:CV} (hT:MapT P T kt κ) (hs:Slots ρ E nx n a) (hm:Mem ρ w0 h nx w) (hfit:nx≤rF)
 (hx:sH E x=some (.mp t)) (hi:sH E i=some kc) (hk:∀ v,Kn nx ρ kc v→v=OneVal.val k) (ht:h.get t=some b) (hb:∀ o,DB nx ρ (ρ t).2 b o→o=sC l):Wd P (.lookup T x i c) ρ w0 h nx a w (.val (JK c (Ix eq k l)) h nx):=by
 obtain ⟨v1,e1,k1⟩:=rC hs hx
 obtain ⟨v2,e2,k2⟩:=rC hs hi
 have:=Gv k1
 subst this
 have:=hk _ k2
 subst this
 obtain ⟨_,_,_,o,h3,h4⟩:=hm.own t _ ht
 have:=hb o h4
 subst this
 rw [Ea he]
 refine ⟨aE _,_,w,ρ,cK _ _,AW,hm,hfit,eQ,fun d ty pos after g=>?_⟩
 simp only [execOp,sQ e1,sQ e2,aY,zO hT h3 c,aG,bB]
theorem BJ {κ:Type} [DecidableEq κ] [OneVal κ] {eq:κ→κ→Bool} (he:∀ a b,eq a b=decide (a=b)) {T kt t:Nat} {x i y:Operand} {l:List (κ×Int)} {b b':CB} {k:κ} {kc:CV} {v:Int} (hT:MapT P T kt κ) (hs:Slots ρ E nx n a) (hm:Mem ρ w0 h nx w) (hfit:Nat.ble (Nat.succ nx) rF=true)
 (hx:sH E x=some (.mp t)) (hi:sH E i=some kc) (hy:sH E y=some (.int .i64 v)) (hk:∀ v,Kn nx ρ kc v→v=OneVal.val k) (ht:h.get t=some b) (hb:∀ o,DB nx ρ (ρ t).2 b o→o=sC l) (hst:Ly b'=nx) (hb':DB nx ρ (ρ t).2 b' (sC (AV eq k v l))) :
 Wd P (.mapUpdate T x i y) ρ w0 h nx a w (.unit (h.set (some b') rF t) (Nat.succ nx)):=by
 obtain ⟨v1,e1,k1⟩:=rC hs hx
 obtain ⟨v2,e2,k2⟩:=rC hs hi
 obtain ⟨v3,e3,k3⟩:=rC hs hy
 have:=Gv k1
 subst this
 have:=hk _ k2
 subst this
 have:=fC.1 k3.2
 subst this
 obtain ⟨_,_,_,o,h3,h4⟩:=hm.own t _ ht
 have:=hb o h4
 subst this
 have hf:=rG hfit
 obtain ⟨g1,g2⟩:=Mi hm qX ht hst hb'
 refine ⟨cD _,_,ρ,cK _ _,g1,hf,g2,fun ty pos after g=>?_⟩
 rw [FL he]
 simp only [execOp,sQ e1,sQ e2,sQ e3,aY,Ja hT h3,aG,bB]
theorem BK {κ:Type} [DecidableEq κ] [OneVal κ] {eq:κ→κ→Bool} (he:∀ a b,eq a b=decide (a=b)) {T kt t:Nat} {x i:Operand} {l:List (κ×Int)} {b b':CB} {k:κ} {kc:CV} (hT:MapT P T kt κ) (hs:Slots ρ E nx n a) (hm:Mem ρ w0 h nx w) (hfit:Nat.ble (Nat.succ nx) rF=true)
 (hx:sH E x=some (.mp t)) (hi:sH E i=some kc) (h0:Ix eq k l=none) (hk:∀ v,Kn nx ρ kc v→v=OneVal.val k) (ht:h.get t=some b) (hb:∀ o,DB nx ρ (ρ t).2 b o→o=sC l) (hst:Ly b'=nx) (hb':DB nx ρ (ρ t).2 b' (sC (l++[(k,0)]))) :
 Wd P (.mapEntry T x i) ρ w0 h nx a w (.val (.tup (.cons (.int .i64 0) (.cons (.int .i64 l.length) .nil))) (h.set (some b') rF t) (Nat.succ nx)):=by
 obtain ⟨v1,e1,k1⟩:=rC hs hx
 obtain ⟨v2,e2,k2⟩:=rC hs hi
 have:=Gv k1
 subst this
 have:=hk _ k2
 subst this
 obtain ⟨_,_,_,o,h3,h4⟩:=hm.own t _ ht
 have:=hb o h4
 subst this
 have hf:=rG hfit
 rw [Ea he] at h0
 obtain ⟨g1,g2⟩:=Mi hm qX ht hst hb'
 refine ⟨cD _,.tuple #[.int .i64 0,.int .i64 l.length],_,ρ,cK _ _,⟨⟨trivial,trivial,trivial⟩,oL.2 ⟨_,jD.2 ⟨_,_,rfl,rfl,jD.2 ⟨_,_,rfl,rfl,rfl⟩⟩,rfl⟩⟩,g1,hf,g2,fun d ty pos after g=>?_⟩
 simp only [execOp,sQ e1,sQ e2,aY,Mj hT h3 h0,aG,bB]
theorem BL {κ:Type} [DecidableEq κ] [OneVal κ] {T t:Nat} {x s y:Operand} {l:List (κ×Int)} {b b':CB} {m v:Int} (hs:Slots ρ E nx n a) (hm:Mem ρ w0 h nx w) (hfit:Nat.ble (Nat.succ nx) rF=true)
 (hx:sH E x=some (.mp t)) (hi:sH E s=some (.int .i64 m)) (hy:sH E y=some (.int .i64 v)) (h0:0≤m) (hl:Nat.ble (Nat.succ m.toNat) l.length=true) (ht:h.get t=some b) (hb:∀ o,DB nx ρ (ρ t).2 b o→o=sC l) (hst:Ly b'=nx) (hb':DB nx ρ (ρ t).2 b' (sC (Wn (fun p=>(p.1,v)) l m.toNat))) :
 Wd P (.entryStore T x s y) ρ w0 h nx a w (.unit (h.set (some b') rF t) (Nat.succ nx)):=by
 obtain ⟨v1,e1,k1⟩:=rC hs hx
 obtain ⟨v2,e2,k2⟩:=rC hs hi
 obtain ⟨v3,e3,k3⟩:=rC hs hy
 have:=Gv k1
 subst this
 have:=fC.1 k2.2
 subst this
 have:=fC.1 k3.2
 subst this
 obtain ⟨_,_,_,o,h3,h4⟩:=hm.own t _ ht
 have:=hb o h4
 subst this
 have hf:=rG hfit
 obtain ⟨g1,g2⟩:=Mi hm qX ht hst hb'
 refine ⟨cD _,_,ρ,cK _ _,g1,hf,g2,fun ty pos after g=>?_⟩
 rw [Th]
 have hr:=Hq (P:=P) (T:=T) (w:=w) (v:=v) h3 (rG hl)
 rw [cN h0] at hr
 simp only [execOp,sQ e1,sQ e2,sQ e3,aY,hr,aG,bB]
theorem GV {ρ':Pl} {s:Nat} (h:ρ' nx=(w.heap.size,s)):DV ρ' (.mp nx) (.map (some w.heap.size)):=by rw [DV.mp,h]
theorem run_mark {t e:TypeId} {b o n c:Nat} {cs:Array Value} {ty:TypeId} (ht:P.underlying t=some (.slice e)) (he:P.underlying e=some (.int .u8)) (hb:w.heap[b]?=some (.cells cs ty (0,0))) :
 (convert t t (.slice (some ⟨b,o,none⟩) n c)).run P w=.ok (.slice (some ⟨b,o,none⟩) n c) (w.freeze ⟨b,cs.size,none⟩ 1):=by
 have hsh:w.shape? b=some (ty,cs.size):=by unfold World.shape?;rw [hb]
 simp [convert,aO ht,aO he,markStringish,hsh]
theorem freeze_upd {b k:Nat}:Upd (·=b) w (w.freeze ⟨b,k,none⟩ 1):=⟨rfl,rfl,rfl,by simp [World.freeze],fun j _ hj=>by
 have hj':b≠j:=fun e=>hj e.symm
 simp [World.freeze,jB,hj']⟩
theorem Ov {b k:Nat} (hk:k≠0):Upd (·=b) w (w.freeze ⟨b,0,none⟩ k):=by
 have e:∃ f,w.freeze ⟨b,0,none⟩ k={ w with heap:=w.heap.modify b f }:=⟨_,by unfold World.freeze;simp only [hk,dO];rfl⟩
 obtain ⟨f,e⟩:=e
 rw [e]
 exact ⟨rfl,rfl,rfl,by simp,fun j _ hj=>by
  have hj':b≠j:=fun e=>hj e.symm
  simp [jB,hj']⟩
theorem freeze_at {b k:Nat} {cs:Array Value} {ty:TypeId} (hb:w.heap[b]?=some (.cells cs ty (0,0))):(w.freeze ⟨b,k,none⟩ 1).heap[b]?=some (.cells cs ty (k,k+1)):=by
 simp [World.freeze,jB,hb]
theorem IS {a b:ByteArray} (h:a.data=b.data):a=b:=by cases a;cases b;exact congrArg _ h
theorem Rl (l:List UInt8) (i j:Nat):(ByteArray.mk l.toArray).extract i j=⟨((l.drop i).take (j - i)).toArray⟩:=by
 apply IS
 rw [ByteArray.data_extract]
 simp [List.extract_eq_take_drop]
theorem Ow {P:Program} {e:Env} {H:Hp} {G:Imm} {ty T:TypeId} {x:Operand} {lo hi:Option Operand} {s:ByteArray} {l h:Nat} (hT:P.underlying T=some .string) (hx:e.ev x=some (.string s))
 (hl:ID e 0 lo l) (hh:ID e s.size hi h) (hlh:l≤h) (hhs:h≤s.size):Qy P (.slice T x lo hi none) ty e H G (.string (s.extract l h)):=fun ac w _ _ _ _ hk=>by
 have e1:(h:Int)≤s.size:=qX
 have e2:(l:Int)≤h:=qX
 cases lo with
 | none =>
   have hl:l=0:=hl
   subst hl
   cases hi with
   | none=>have hh:h=s.size:=hh;subst hh;simp [execOp,Instr.sliceAt,Instr.slice,hk.eval hx,aO hT,Instr.sliceBounds,Instr.sliceBound,asIntOf]
   | some y =>
     obtain ⟨k,hy⟩:=hh
     simp [execOp,Instr.sliceAt,Instr.slice,hk.eval hx,hk.eval hy,aO hT,Instr.sliceBounds,Instr.sliceBound,asIntOf,e1,hhs]
 | some z =>
   obtain ⟨kz,hz⟩:=hl
   cases hi with
   | none =>
     have hh:h=s.size:=hh
     subst hh
     simp [execOp,Instr.sliceAt,Instr.slice,hk.eval hx,hk.eval hz,aO hT,Instr.sliceBounds,Instr.sliceBound,asIntOf,e2,hlh]
   | some y =>
     obtain ⟨k,hy⟩:=hh
     simp [execOp,Instr.sliceAt,Instr.slice,hk.eval hx,hk.eval hz,hk.eval hy,aO hT,Instr.sliceBounds,Instr.sliceBound,asIntOf,e1,e2,hlh,hhs]
theorem Tk {l:CV} {vs:List Value} (hk:KL nx ρ l vs):BG l=true→∃ bs:List UInt8,vs=bs.map fun b=>Value.int .u8 b.toNat:=by
 refine jZ (motive:=fun l vs=>BG l=true→∃ bs:List UInt8,vs=bs.map fun b=>Value.int .u8 b.toNat) (fun _=>⟨[],rfl⟩) ?_ hk
 intro a b v vs hv _ ih h
 have h':(MI a && BG b)=true:=h
 rw [aA] at h'
 obtain ⟨bs,rfl⟩:=ih h'.2
 cases a <;> first | (exact absurd (show false=true from h'.1) rI) | skip
 rename_i k n
 cases k <;> first | (exact absurd (show false=true from h'.1) rI) | skip
 have h2:(tS 0 n && not (tS 256 n))=true:=h'.1
 simp only [aA,cW,sM,aS,dE] at h2
 refine ⟨UInt8.ofNat n.toNat :: bs,?_⟩
 rw [bK,fC.1 hv.2]
 have h3:((UInt8.ofNat n.toNat).toNat:Int)=n:=by
  rw [UInt8.toNat_ofNat']
  have:n.toNat % 2 ^ 8=n.toNat:=gP qX
  omega
 rw [h3]
theorem BM:∀ (bs:List UInt8),((bs.map fun b=>(b.toNat:Int)).foldl (fun r n=>ByteArray.push r (UInt8.ofNat n.toNat)) ByteArray.empty)=⟨bs.toArray⟩:=by
 have key:∀ (bs:List UInt8) (s:List UInt8),((bs.map fun b=>(b.toNat:Int)).foldl (fun r n=>ByteArray.push r (UInt8.ofNat n.toNat)) ⟨s.toArray⟩)=⟨(s++bs).toArray⟩:=by
  intro bs
  induction bs with
  | nil=>intro s;simp
  | cons b bs ih =>
    intro s
    rw [bK,List.foldl_cons]
    have e:ByteArray.push ⟨s.toArray⟩ (UInt8.ofNat ((b.toNat:Int)).toNat)=⟨(s++[b]).toArray⟩:=by
     simp [ByteArray.push]
    rw [e,ih,cV];rfl
 intro bs
 exact key bs []
theorem MS {op:Op} (hs:Slots ρ E nx n a) (hm:Mem ρ w0 h nx w) (hfit:nx≤rF):Wd P op ρ w0 h nx a w (mv P E h nx op):=by
 unfold mv RM mv1 mv2 mv3 mv4 mv5 mvC mv6 MJ MK ML mv7 mv8 mv9 MM MN MP MQ MR
 split
 · rename_i T
   refine rE (Wd _ _ _ _ _ _ _ _) (fun hb=>?_) fun _=>trivial
   have hr:∀ (d:Option Tmp) (ty:TypeId) (pos:String) (after:Array Edge) (g:Option (Nat×Bool)),(execOp a.eval ⟨d,.makeMap T none,ty,pos,after,g⟩).run P w=.ok (.value (.map (some w.heap.size))) (w.alloc (sC ([]:List (Int×Int)))):=fun d ty pos after g=>by
    simp only [execOp,iV,aY,wX,aG,bB];rfl
   refine rE (Wd _ _ _ _ _ _ _ _) (fun _=>?_) fun _=>?_
   · exact nU (s:=0) hm hb rfl (sP w _) (sR w _) (rY w _) rfl (fun ρ' h=>GV h) (bU _) hr
   refine rE (Wd _ _ _ _ _ _ _ _) (fun _=>?_) fun _=>trivial
   exact nU (s:=0) hm hb rfl (sP w _) (sR w _) (rY w _) rfl (fun ρ' h=>GV h) (bU _) hr
 · rename_i T x i c
   split
   · rename_i t hx
     split
     · rename_i k hi
       split
       · rename_i l st ht
         split
         · rename_i m hk
           refine rE (Wd _ _ _ _ _ _ _ _) (fun hT=>?_) fun _=>trivial
           obtain ⟨kt,hT⟩:=Md hT
           exact Tj tW hT hs hm hfit hx hi (fun v hv=>Eb hk hv) ht fun o ho=>ho
         trivial
       · rename_i l st ht
         split
         · rename_i m hk
           refine rE (Wd _ _ _ _ _ _ _ _) (fun hT=>?_) fun _=>trivial
           obtain ⟨kt,hT⟩:=Me hT
           exact Tj Mc hT hs hm hfit hx hi (fun v hv=>Ec hk hv) ht fun o ho=>ho
         trivial
       trivial
     trivial
   trivial
 · rename_i T x i y
   split
   · rename_i t hx
     split
     · rename_i k hi
       split
       · rename_i v hy
         refine rE (Wd _ _ _ _ _ _ _ _) (fun hb=>?_) fun _=>trivial
         split
         · rename_i l st ht
           split
           · rename_i m hk
             refine rE (Wd _ _ _ _ _ _ _ _) (fun hT=>?_) fun _=>trivial
             obtain ⟨kt,hT⟩:=Md hT
             exact BJ tW hT hs hm hb hx hi hy (fun v hv=>Eb hk hv) ht (fun o ho=>ho) rfl rfl
           trivial
         · rename_i l st ht
           split
           · rename_i m hk
             refine rE (Wd _ _ _ _ _ _ _ _) (fun hT=>?_) fun _=>trivial
             obtain ⟨kt,hT⟩:=Me hT
             exact BJ Mc hT hs hm hb hx hi hy (fun v hv=>Ec hk hv) ht (fun o ho=>ho) rfl rfl
           trivial
         trivial
       trivial
     trivial
   trivial
 · rename_i T x i
   split
   · rename_i t hx
     split
     · rename_i k hi
       refine rE (Wd _ _ _ _ _ _ _ _) (fun hb=>?_) fun _=>trivial
       split
       · rename_i l st ht
         split
         · rename_i m hk
           refine rE (Wd _ _ _ _ _ _ _ _) (fun hT=>?_) fun _=>trivial
           obtain ⟨kt,hT⟩:=Me hT
           split
           · rename_i h0
             exact BK Mc hT hs hm hb hx hi h0 (fun v hv=>Ec hk hv) ht (fun o ho=>ho) rfl rfl
           trivial
         trivial
       · rename_i l st ht
         split
         · rename_i m hk
           refine rE (Wd _ _ _ _ _ _ _ _) (fun hT=>?_) fun _=>trivial
           obtain ⟨kt,hT⟩:=Md hT
           split
           · rename_i h0
             exact BK tW hT hs hm hb hx hi h0 (fun v hv=>Eb hk hv) ht (fun o ho=>ho) rfl rfl
           trivial
         trivial
       trivial
     trivial
   trivial
 · rename_i T x s y
   split
   · rename_i t hx
     split
     · rename_i m hi
       split
       · rename_i v hy
         refine rE (Wd _ _ _ _ _ _ _ _) (fun hb=>?_) fun _=>trivial
         rw [aA,sM,aS] at hb
         split
         · rename_i l st ht
           refine rE (Wd _ _ _ _ _ _ _ _) (fun hl=>?_) fun _=>trivial
           exact BL hs hm hb.1 hx hi hy hb.2 hl ht (fun o ho=>ho) rfl rfl
         · rename_i l st ht
           refine rE (Wd _ _ _ _ _ _ _ _) (fun hl=>?_) fun _=>trivial
           exact BL hs hm hb.1 hx hi hy hb.2 hl ht (fun o ho=>ho) rfl rfl
         trivial
       trivial
     trivial
   trivial
 · rename_i T N parts
   refine rE (Wd _ _ _ _ _ _ _ _) (fun hb=>?_) fun _=>trivial
   rw [aA] at hb
   have:=aB hb.1
   subst this
   split
   · split
     · rename_i e sz hT
       have hT':=tJ hT
       refine nU (s:=0) hm hb.2 rfl (sP w _) (sR w _) (rY w _) (v:=.slice (some ⟨w.heap.size,0,none⟩) 0 0) (tY lT e) (fun ρ' h=>iK.2 ⟨by rw [h],by omega,by omega,by omega⟩) (bU _) fun d ty pos after g=>?_
       simp [execOp,Instr.buildSlice,aO hT'.1,run_sizeOf w hT'.2,Instr.fill,newRow,show Array.range 0=#[] from lX rV]
     trivial
   trivial
 · rename_i s t x
   split
   · rename_i ht
     split
     · rename_i e hs1
       split
       · rename_i he
         have hrun:=fun (a':Option Addr) (l c:Nat)=>run_convert_bytes_string (P:=P) w s t e a' l c hs1 he ht
         split
         · rename_i hx
           obtain ⟨v,e1,k1⟩:=rC hs hx
           have e2:=lF.1 k1.2
           subst e2
           refine ⟨aE _,.string ByteArray.empty,w,ρ,cK _ _,⟨trivial,[],[],rfl,rfl,rfl⟩,hm,hfit,eQ,fun d ty pos after g=>?_⟩
           simp only [execOp,sQ e1,aY,hrun,Conv.bytesToString,bB,aG]
         · rename_i b o N sz c hx
           split
           · rename_i l ty op st hbk
             refine rE (Wd _ _ _ _ _ _ _ _) (fun hb=>?_) fun _=>trivial
             rw [aA] at hb
             obtain ⟨v,e1,k1⟩:=rC hs hx
             obtain ⟨C,hv⟩:=yK k1
             subst hv
             obtain ⟨_,_,_,ob,h3,vs,junk,kl,rfl,hlen,hj⟩:=hm.own b _ hbk
             have hl:=aB hb.1
             have kk:=uZ kl hl
             obtain ⟨bs,hbs⟩:=Tk kk hb.2
             have hln:((vs.drop o).take N).length=N:=by rw [←rX kk];exact hl
             have hld:(loadCells ⟨(ρ b).1,o,none⟩ N).run P w=.ok ((bs.map fun b=>(b.toNat:Int)).map (Value.int .u8)).toArray w:=by
              have:=kK (P:=P) w ⟨(ρ b).1,o,none⟩ ((vs.drop o).take N) (fun j v hj=>by
               rw [add_lit,cell_of_block h3]
               rw [gR] at hj
               split at hj
               · rw [fF] at hj
                 rw [bE (aJ.1 hj).1];exact hj
               cases hj)
              rw [hln] at this
              rw [this,hbs,List.map_map];rfl
             refine ⟨aE _,.string ⟨bs.toArray⟩,w,ρ,cK _ _,⟨kk.1,(vs.drop o).take N,bs,kk.2,hbs,rfl⟩,hm,hfit,eQ,fun d ty pos after g=>?_⟩
             simp only [execOp,sQ e1,aY,hrun,run_bytesToString w _ _ _ _ hld,aG,bB]
             rw [BM]
           trivial
         trivial
       trivial
     trivial
   · rename_i hd
     split
     · rename_i u hs1
       split
       · rename_i k hk
         refine rE (Wd _ _ _ _ _ _ _ _) (fun _=>trivial) fun h0=>?_
         split
         · rename_i tb o hx
           split
           · rename_i l ty op st hbk
             refine rE (Wd _ _ _ _ _ _ _ _) (fun hb=>?_) fun _=>trivial
             have hb:=rG hb
             obtain ⟨v,e1,k1⟩:=rC hs hx
             have e3:=kO.1 k1.2
             subst e3
             obtain ⟨_,_,_,ob,h3,vs,junk,kl,rfl,hlen,hj⟩:=hm.own tb _ hbk
             have hl:=Ax kl
             have hsh:w.shape? (ρ tb).1=some (ty,(vs++junk).toArray.size):=by unfold World.shape?;rw [h3]
             obtain ⟨j,hj1,hj2⟩:=gI.1 (zN hk)
             have hj0:j.size≠0:=by rw [hj2];exact fun e=>by subst e;simp at h0
             refine ⟨aE _,_,w,ρ,cK _ _,k1,hm,hfit,eQ,fun d ty' pos after g=>?_⟩
             simp only [execOp,sQ e1,aY,Lib.run_to_unsafe w ⟨(ρ tb).1,o,none⟩ hs1 hd hj1 hj0 hsh (by simp;omega),aG,bB]
           trivial
         trivial
       trivial
     trivial
   · rename_i u hd
     split
     · rename_i hs1
       split
       · rename_i j hj1
         split
         · rename_i tb o hx
           split
           · rename_i l ty st hbk
             refine rE (Wd _ _ _ _ _ _ _ _) (fun hb=>?_) fun _=>trivial
             obtain ⟨v,e1,k1⟩:=rC hs hx
             have e3:=kO.1 k1.2
             subst e3
             obtain ⟨_,_,_,ob,h3,vs,junk,kl,rfl,hlen,hj⟩:=hm.own tb _ hbk
             have hj0:=hj rfl
             subst hj0
             have hl:=Ax kl
             have hsh:w.shape? (ρ tb).1=some (ty,l.n):=by unfold World.shape?;rw [h3];simp [hl]
             refine ⟨aE _,_,w,ρ,cK _ _,k1,hm,hfit,eQ,fun d ty' pos after g=>?_⟩
             simp only [execOp,sQ e1,aY,Lib.run_from_unsafe w ⟨(ρ tb).1,o,none⟩ hs1 hd hj1 hsh hb,aG,bB]
           trivial
         trivial
       trivial
     trivial
   split
   · rename_i b o N sz c hx
     split
     · rename_i e ht
       split
       · rename_i he
         refine rE (Wd _ _ _ _ _ _ _ _) (fun hb=>?_) fun _=>trivial
         rw [aA] at hb
         have:=aB hb.1
         subst this
         have hf:=rG hb.2
         split
         · rename_i l ty st hbk
           obtain ⟨v,e1,k1⟩:=rC hs hx
           obtain ⟨_,_,_,ob,h3,vs,junk,kl,rfl,hlen,hj⟩:=hm.own b _ hbk
           have hj0:=hj rfl
           subst hj0
           rw [eN] at h3
           obtain ⟨C,hv⟩:=yK k1
           subst hv
           obtain ⟨m2,o2⟩:=hm.write (b':=.ro l ty nx) qX rfl hbk freeze_upd (freeze_at (k:=vs.toArray.size) h3) ⟨vs,_,kl,rfl⟩
           refine ⟨cD _,_,_,ρ,cK _ _,⟨k1.1.mono (cD _) _,k1.2⟩,m2,hf,o2,fun d ty pos after g=>?_⟩
           simp only [execOp,sQ e1,aY,run_mark ht he h3,aG,bB]
         trivial
       trivial
     trivial
   trivial
 · rename_i T x
   split
   · rename_i t o hx
     split
     · rename_i l ty st ht
       refine rE (Wd _ _ _ _ _ _ _ _) (fun h1=>?_) fun _=>trivial
       split
       · rename_i c hc
         obtain ⟨v,e1,k1⟩:=rC hs hx
         have e3:=kO.1 k1.2
         subst e3
         obtain ⟨_,_,_,ob,h3,vs,fz,kl,rfl⟩:=hm.own t _ ht
         obtain ⟨u,e2,k3⟩:=Tc kl hc
         refine ⟨aE _,u,w,ρ,cK _ _,k3,hm,hfit,eQ,fun d ty pos after g=>?_⟩
         have hc:w.cell? ⟨(ρ t).1,o,none⟩=some u:=by rw [cell_of_block h3];simpa using e2
         simp [execOp,sQ e1,uG h1 hc]
       trivial
     trivial
   trivial
 · rename_i T x i
   split
   · rename_i s hx
     split
     · rename_i hT
       split
       · rename_i k m hi
         refine rE (Wd _ _ _ _ _ _ _ _) (fun h1=>?_) fun _=>trivial
         rw [sM,aS] at h1
         split
         · rename_i c hc
           obtain ⟨v,e1,k1⟩:=rC hs hx
           obtain ⟨bs,rfl,k2⟩:=Bc k1
           obtain ⟨v2,e2,k3⟩:=rC hs hi
           have e3:=fC.1 k3.2
           subst e3
           obtain ⟨u,e4,k4⟩:=yP k2 hc
           refine ⟨aE _,u,w,ρ,cK _ _,k4,hm,hfit,eQ,fun d ty pos after g=>?_⟩
           have e5:∃ b,bs[m.toNat]?=some b∧u=.int .u8 b.toNat:=by
            rw [cG] at e4
            cases hb:bs[m.toNat]? with
            | none=>rw [hb] at e4;cases e4
            | some b=>rw [hb] at e4;cases e4;exact ⟨b,rfl,rfl⟩
           obtain ⟨b,e6,rfl⟩:=e5
           have e7:(ByteArray.mk bs.toArray)[m.toNat]?=some b:=by
            obtain ⟨hl,hg⟩:=aJ.1 e6
            have hs':m.toNat<(ByteArray.mk bs.toArray).size:=by show m.toNat<bs.toArray.size;simpa using hl
            rw [getElem?_pos (ByteArray.mk bs.toArray) m.toNat hs']
            congr 1
           simp [execOp,sQ e1,sQ e2,Instr.index,asIntOf,aO hT,h1,e7]
         trivial
       trivial
     trivial
   trivial
 · rename_i T x lo hi
   split
   · rename_i t o hx
     split
     · split
       · split
         · rename_i N E' sz hT
           obtain ⟨hu,hs'⟩:=Ck hT
           split
           · rename_i l ty op st ht
             refine rE (Wd _ _ _ _ _ _ _ _) (fun h1=>?_) fun _=>trivial
             rw [aA] at h1
             have h2:o+N*sz≤l.n:=rG h1.1
             have h3:=rG h1.2
             obtain ⟨v,e1,k1⟩:=rC hs hx
             have e3:=kO.1 k1.2
             subst e3
             obtain ⟨_,_,_,ob,_,vs,junk,kl,_,hsz,_⟩:=hm.own t _ ht
             have hl:=Ax kl
             refine ⟨aE _,_,w,ρ,cK _ _,⟨k1.1,iK.2 ⟨rfl,by omega,aE _,by simp only [maxLen];omega⟩⟩,hm,hfit,eQ,fun d ty pos after g=>?_⟩
             have hr:=run_sizeOf (P:=P) w hs'
             simp [execOp,Instr.sliceAt,sQ e1,aO hu,Instr.sureAddr,Instr.sliceBounds,hr,add_lit]
           trivial
         trivial
       trivial
     trivial
   · rename_i s hx
     split
     · rename_i hT
       split
       · rename_i l hl
         split
         · rename_i hh hhi
           refine rE (Wd _ _ _ _ _ _ _ _) (fun h1=>?_) fun _=>trivial
           simp only [aA,sM,aS] at h1
           obtain ⟨h1,h2,h3⟩:=h1
           obtain ⟨v,e1,k1⟩:=rC hs hx
           obtain ⟨bs,rfl,k2⟩:=Bc k1
           have e2:=rX k2
           rw [bZ] at e2
           have hsz:(ByteArray.mk bs.toArray).size=bs.length:=by show bs.toArray.size=_;simp
           have hhi':=Gz hs hhi qX
           rw [e2,←hsz] at hhi'
           have hq:=fun ty=>Ow (P:=P) (H:=[]) (G:=fun _=>none) (ty:=ty) hT e1 (Gw hs hl h1) hhi' qX qX
           refine ⟨aE _,.string ((ByteArray.mk bs.toArray).extract l.toNat hh.toNat),w,ρ,cK _ _,?_,hm,hfit,eQ,fun d ty pos after g=>hq ty a w d pos after g (lookN a w)⟩
           have k3:=Aw (hh.toNat - l.toNat) (Av l.toNat k2)
           rw [Rl]
           refine ⟨k3.1,_,(bs.drop l.toNat).take (hh.toNat - l.toNat),k3.2,by simp [List.map_take,List.map_drop],rfl⟩
         trivial
       trivial
     trivial
   trivial
 · rename_i x ts
   split
   · rename_i tb o N sz c hx
     refine rE (Wd _ _ _ _ _ _ _ _) (fun _=>trivial) fun h0=>?_
     obtain ⟨v,e1,k1⟩:=rC hs hx
     obtain ⟨e2,_⟩:=iK.1 k1.2
     subst e2
     have hc:c≠0:=fun e=>by subst e;simp at h0
     refine ⟨aE _,.pointer (some ⟨(ρ tb).1,o,none⟩),w,ρ,cK _ _,⟨k1.1,rfl⟩,hm,hfit,eQ,fun d ty pos after g=>?_⟩
     simp [execOp,resolve,invoke,builtin,sQ e1,Lib.run_unsafeSliceData_row _ _ _ _ _ _ hc]
   · rename_i tb o N sz hx
     refine rE (Wd _ _ _ _ _ _ _ _) (fun _=>trivial) fun h0=>?_
     obtain ⟨v,e1,k1⟩:=rC hs hx
     obtain ⟨C,e2,_,e3,_⟩:=lE.1 k1.2
     subst e2
     have hN:N≠0:=fun e=>by subst e;simp at h0
     have hc:C≠0:=qX
     refine ⟨aE _,.pointer (some ⟨(ρ tb).1,o,none⟩),w,ρ,cK _ _,⟨k1.1,rfl⟩,hm,hfit,eQ,fun d ty pos after g=>?_⟩
     simp [execOp,resolve,invoke,builtin,sQ e1,Lib.run_unsafeSliceData_row _ _ _ _ _ _ hc]
   · rename_i hx
     obtain ⟨v,e1,k1⟩:=rC hs hx
     have e2:=lF.1 k1.2
     subst e2
     refine ⟨aE _,.pointer none,w,ρ,cK _ _,⟨trivial,rfl⟩,hm,hfit,eQ,fun d ty pos after g=>?_⟩
     simp [execOp,resolve,invoke,builtin,sQ e1,Lib.run_unsafeSliceData_nil]
   trivial
 · rename_i x y pt it
   split
   · rename_i m hy
     obtain ⟨vy,ey,ky⟩:=rC hs hy
     have ey':=fC.1 ky.2
     subst ey'
     split
     · rename_i hx
       refine rE (Wd _ _ _ _ _ _ _ _) (fun h0=>?_) fun _=>trivial
       rw [tW,aS] at h0
       subst h0
       obtain ⟨v,e1,k1⟩:=rC hs hx
       have e2:=DV.nilp.1 k1.2
       subst e2
       refine ⟨aE _,.string .empty,w,ρ,cK _ _,⟨trivial,[],[],rfl,rfl,rfl⟩,hm,hfit,eQ,fun d ty pos after g=>?_⟩
       simp [execOp,resolve,invoke,builtin,sQ e1,sQ ey,Lib.run_unsafeString_none]
     · rename_i tb o hx
       split
       · rename_i e he
         split
         · rename_i l ty op st hbk
           refine rE (Wd _ _ _ _ _ _ _ _) (fun hb=>?_) fun _=>trivial
           simp only [aA,sM,aS] at hb
           obtain ⟨⟨b1,b2,b3⟩,⟨b4,b5⟩,b6,b7,b8⟩:=hb
           have b1:=aB b1
           have b2:=aB b2
           have b3:=aB b3
           have b6:=aB b6
           subst b1 b2
           obtain ⟨v,e1,k1⟩:=rC hs hx
           have e3:=kO.1 k1.2
           subst e3
           obtain ⟨_,_,_,ob,h3,vs,junk,kl,rfl,hlen,hj⟩:=hm.own tb _ hbk
           have kk:=uZ kl b6
           obtain ⟨bs,hbs⟩:=Tk kk b7
           rw [jN] at hbs kk
           have hbl:(vs.take m.toNat).length=m.toNat:=by rw [←rX kk];exact b6
           have hbl2:bs.length=m.toNat:=by rw [hbs,bZ] at hbl;exact hbl
           have hle:m.toNat≤vs.length:=by rw [bJ] at hbl;omega
           have hsh:w.shape? (ρ tb).1=some (ty,(vs++junk).toArray.size):=by unfold World.shape?;rw [h3]
           have hrun:=Lib.run_unsafeString_row (P:=P) (w:=w) pt it it ty he b3 (ρ tb).1 _ hsh bs (fun e=>by subst e;simp at hbl2;omega) (by simp;omega) qX (fun j x hjx=>by
            rw [add_lit,cell_of_block h3,bO]
            have hjl:j<bs.length:=(aJ.1 hjx).1
            have h5:(vs.take m.toNat)[j]?=some (Value.int .u8 x.toNat):=by rw [hbs,cG,hjx];rfl
            rw [gR] at h5
            rw [aT (by omega)] at h5
            rw [bE qX];exact h5)
           have hnz:bs≠[]:=fun e=>by subst e;simp at hbl2;omega
           obtain ⟨m2,o2⟩:=hm.drop hfit hbk (w':=w.freeze ⟨(ρ tb).1,0,none⟩ bs.length) (Ov (by simpa using hnz))
           refine ⟨aE _,.string ⟨bs.toArray⟩,_,ρ,cK _ _,⟨kk.1,_,bs,kk.2,hbs,rfl⟩,m2,hfit,o2,fun d ty' pos after g=>?_⟩
           have hm':m=((bs.length:Nat):Int):=qX
           rw [hm'] at ey
           have hrun':=fun ty'=>(show (Builtin.unsafeString_ #[pt,it] ty' #[.pointer (some ⟨(ρ tb).1,0,none⟩),.int .i64 bs.length]).run P w=_ from hrun)
           simp [execOp,resolve,invoke,builtin,sQ e1,sQ ey,hrun']
         trivial
       trivial
     trivial
   trivial
 · rename_i g x ts
   refine rE (Wd _ _ _ _ _ _ _ _) (fun h0=>?_) fun _=>trivial
   obtain ⟨fn,f1,f2,f3,f4,f5⟩:=BI h0
   split
   · rename_i c hx
     obtain ⟨v,e1,k1⟩:=rC hs hx
     refine ⟨aE _,v,w,ρ,cK _ _,k1,hm,hfit,eQ,fun d ty pos after g'=>?_⟩
     have hcall:=run_callFunc_extern (P:=P) f1 f2 f3 f4 f5 #[v] w
     rw [Lib.run_noEscape] at hcall
     have hf:a.eval (.func g)=.func (.func g) #[] #[]:=rfl
     simp [execOp,resolve,Deferred.ofValue,invoke,hf,sQ e1,hcall]
   trivial
 · rename_i T x
   split
   · rename_i s hx
     split
     · rename_i hT
       refine rE (Wd _ _ _ _ _ _ _ _) (fun hf=>?_) fun _=>trivial
       obtain ⟨v,e1,k1⟩:=rC hs hx
       obtain ⟨bs,rfl,k2⟩:=Bc k1
       refine nU (s:=0) hm hf rfl (sP w (.stringIter ⟨bs.toArray⟩ 0)) (sR w _) (rY w _) (v:=.pointer (some ⟨w.heap.size,0,none⟩)) ⟨bs,k2,rfl⟩ (fun ρ' h=>by rw [kO,h]) (bU _) fun d ty pos after g=>?_
       simp only [execOp,Instr.range,sQ e1,aY,aO hT,aG,bB]
       rfl
     trivial
   trivial
 · rename_i x
   split
   · rename_i tb o hx
     refine rE (Wd _ _ _ _ _ _ _ _) (fun ho=>?_) fun _=>trivial
     have ho:=aB ho
     subst ho
     obtain ⟨v,e1,k1⟩:=rC hs hx
     have e3:=kO.1 k1.2
     subst e3
     split
     · rename_i l pos st hbk
       obtain ⟨_,_,_,ob,h3,bs,kl,rfl⟩:=hm.own tb _ hbk
       have hlen:=rX kl
       rw [bZ] at hlen
       have hsz:(ByteArray.mk bs.toArray).size=bs.length:=by show bs.toArray.size=_;simp
       have hget:(getObj (ρ tb).1).run P w=.ok (.stringIter ⟨bs.toArray⟩ pos) w:=by simp [getObj,Sem.run,h3]
       split
       · rename_i n hn
         refine rE (Wd _ _ _ _ _ _ _ _) (fun hb=>?_) fun _=>trivial
         simp only [aA,cW,sM,aS,dE] at hb
         obtain ⟨b1,b2,b3⟩:=hb
         have hf:=rG b3
         obtain ⟨u,e4,k4⟩:=yP kl hn
         have e5:=fC.1 k4.2
         subst e5
         rw [cG] at e4
         obtain ⟨c,e6,e7⟩:=gI.1 e4
         injection e7 with _ e8
         have hpos:pos<bs.length:=(aJ.1 e6).1
         have hdec:Utf8.decode ⟨bs.toArray⟩ pos=(c.toNat,1):=by
          have h9:(ByteArray.mk bs.toArray).get! (pos+0)=c:=by
           show bs.toArray[pos+0]! = c
           rw [gJ,qD bs.toArray pos (by simpa using hpos)]
           have:=(aJ.1 e6).2
           simpa using this
          have h10:c.toNat<128:=qX
          unfold Utf8.decode
          simp only [h9,h10,dN]
         obtain ⟨m2,o2⟩:=hm.write (b':=.it l (Nat.succ pos) nx) (o:=.stringIter ⟨bs.toArray⟩ (pos+1)) (w':=w.putObj (ρ tb).1 (.stringIter ⟨bs.toArray⟩ (pos+1))) qX rfl hbk (tB w _ _) (eP (bM.1 h3).1) ⟨bs,kl,rfl⟩
         have hset:(setObj (ρ tb).1 (.stringIter ⟨bs.toArray⟩ (pos+1))).run P w=.ok () (w.putObj (ρ tb).1 (.stringIter ⟨bs.toArray⟩ (pos+1))):=by
          simp [setObj,Sem.run,h3,World.putObj]
         refine ⟨cD _,.tuple #[.bool true,.int .i64 pos,.int .i32 c.toNat],_,ρ,cK _ _,⟨⟨trivial,trivial,trivial,trivial⟩,oL.2 ⟨_,jD.2 ⟨_,_,rfl,rfl,jD.2 ⟨_,_,rfl,rfl,jD.2 ⟨_,_,rfl,?_,rfl⟩⟩⟩,rfl⟩⟩,m2,hf,o2,fun d ty pos' after g=>?_⟩
         · rw [fC,←e8]
         simp [execOp,Instr.next,sQ e1,hget,hset,hdec,hsz,hpos,goInt]
       · rename_i hn
         refine rE (Wd _ _ _ _ _ _ _ _) (fun hb=>?_) fun _=>trivial
         have hb:=rG hb
         refine ⟨aE _,.tuple #[.bool false],w,ρ,cK _ _,⟨⟨trivial,trivial⟩,oL.2 ⟨_,jD.2 ⟨_,_,rfl,rfl,rfl⟩,rfl⟩⟩,hm,hfit,eQ,fun d ty pos' after g=>?_⟩
         have hnp:¬pos<bs.length:=qX
         simp [execOp,Instr.next,sQ e1,hget,hsz,hnp]
       trivial
     trivial
   trivial
 trivial
def wm (P:Program) (E:Tr CV) (h:Tr CB) (nx:Nat) (op:Op):Ro:=match wv P E h nx op with
 | .bad=>mv P E h nx op
 | r=>r
theorem FT {f:Operand} {args:Array Operand} {ats:Array TypeId} (hf:MO P f=false):wm P E h nx (.call ⟨.value f,args,ats⟩)=.bad:=by
 obtain ⟨args⟩:=args
 have hw:wv P E h nx (.call ⟨.value f,⟨args⟩,ats⟩)=.bad:=rfl
 unfold wm
 rw [hw]
 show mv P E h nx (.call ⟨.value f,⟨args⟩,ats⟩)=.bad
 cases f with
 | func g =>
   have hg:Ke P g=false:=hf
   cases args with
   | nil=>rfl
   | cons x xs =>
     cases xs with
     | nil=>show (bif Ke P g then _ else Ro.bad)=.bad;rw [hg];rfl
     | cons y ys=>rfl
 | _=>cases args with
   | nil=>rfl
   | cons x xs=>cases xs <;> rfl
theorem MT {op:Op} (hs:Slots ρ E nx n a) (hm:Mem ρ w0 h nx w) (hfit:nx≤rF):Wd P op ρ w0 h nx a w (wm P E h nx op):=by
 unfold wm
 have H:=MG (P:=P) (op:=op) hs hm hfit
 split
 · exact MS hs hm hfit
 exact H
end
def MU (P:Program) (op:Op) (ρ:Pl) (h:Tr CB) (nx:Nat) (a:Act) (c:CV) (h':Tr CB) (nx':Nat):Prop:=
 ∃ (b:CB) (s:Nat) (o:Obj) (V:Nat→Value),nx'=nx+1∧h'=h.set (some b) rF nx∧nx+1≤rF∧Ly b=nx∧DB nx ρ s b o∧
  (∀ (ρ':Pl) (p:Nat),ρ' nx=(p,s)→Kn (nx+1) ρ' c (V p))∧
  ∀ (w:World) (d:Option Tmp) (ty:TypeId) (pos:String) (after:Array Edge) (g:Option (Nat×Bool)),(execOp a.eval ⟨d,op,ty,pos,after,g⟩).run P w=.ok (.value (V w.heap.size)) (w.alloc o)
def MV:Op→Option (List Operand)
 | .alloc _=>some []
 | .box _ x=>some [x]
 | .makeSlice _ x y=>some [x,y]
 | .buildSlice _ _ parts=>some (parts.toList.map (·.2))
 | .makeMap _ none=>some []
 | _=>none
section
variable {P:Program} {nx n:Nat} {ρ:Pl} {E:Tr CV} {h:Tr CB} {a:Act}
theorem BN (hs:Slots ρ E nx n a) {op:Op} {xs:List Operand} (hx:MV op=some xs) {c:CV} {h':Tr CB} {nx':Nat} (hw:wm P E h nx op=.val c h' nx'):MU P op ρ h nx a c h' nx':=by
 have hv:wv P E h nx op=.val c h' nx'∨mv P E h nx op=.val c h' nx':=by
  unfold wm at hw
  split at hw
  · exact .inr hw
  exact .inl hw
 cases op with
 | alloc T =>
   rcases hv with hv | hv
   · have hv':(match GR P T with | some z=>bif Nat.ble (Nat.succ nx) rF then Ro.val (.ptr nx 0) (h.set (some (.cells (It z) T false nx)) rF nx) (Nat.succ nx) else .bad | none=>.bad)=.val c h' nx':=hv
     split at hv'
     · rename_i z hz
       rcases rA hv' with ⟨hf,h1⟩ | ⟨_,h1⟩
       · cases h1
         obtain ⟨i,v,hi,hv,kz⟩:=Gu hz nx ρ
         refine ⟨_,v.cells.toList.length,.cells v.cells.toList.toArray T (0,0),fun p=>.pointer (some ⟨p,0,none⟩),rfl,rfl,rG hf,rfl,tY kz T,fun ρ' p hρ=>⟨bU nx,?_⟩,fun w d ty pos after g=>?_⟩
         · show _=Value.pointer (some ⟨(ρ' nx).1,0,none⟩)
           rw [hρ]
         simp [execOp,Instr.alloc,newVar,newRow,zeroValue,typeInfo,hi,hv]
       cases h1
     cases hv'
   · cases hv
 | box T x =>
   rcases hv with hv | hv
   · have hv':(match sH E x with
      | some c=>match wV c with
        | some l=>bif Nat.ble (Nat.succ nx) rF then Ro.val (.ptr nx 0) (h.set (some (.cells (It l) T false nx)) rF nx) (Nat.succ nx) else .bad
        | none=>.bad
      | none=>.bad)=.val c h' nx':=hv
     split at hv'
     · rename_i c1 hc
       split at hv'
       · rename_i l hl
         rcases rA hv' with ⟨hf,h1⟩ | ⟨_,h1⟩
         · cases h1
           obtain ⟨v,e1,k1⟩:=rC hs hc
           have kz:=xB k1 hl
           refine ⟨_,v.cells.toList.length,.cells v.cells.toList.toArray T (0,0),fun p=>.pointer (some ⟨p,0,none⟩),rfl,rfl,rG hf,rfl,tY kz T,fun ρ' p hρ=>⟨bU nx,?_⟩,fun w d ty pos after g=>?_⟩
           · show _=Value.pointer (some ⟨(ρ' nx).1,0,none⟩)
             rw [hρ]
           simp [execOp,Instr.box,newVar,newRow,sQ e1]
         cases h1
       cases hv'
     cases hv'
   · cases hv
 | makeSlice T x y =>
   rcases hv with hv | hv
   · have hv':(match AZ P T with
      | some (e,sz,by',z)=>match sH E x with
        | some (.int _ n)=>match sH E y with
          | some (.int _ c)=>bif tS 0 n && (tS n c && (Nat.ble (Nat.mul by' c.toNat) 281474976710656 && (Nat.ble c.toNat 4611686018427387904 && Nat.ble (Nat.succ nx) rF))) then
           Ro.val (.sl nx 0 n.toNat sz (some c.toNat)) (h.set (some (.cells (It (Ra z c.toNat)) e false nx)) rF nx) (Nat.succ nx) else .bad
          | _=>.bad
        | _=>.bad
      | none=>.bad)=.val c h' nx':=hv
     split at hv'
     · rename_i e sz by' z hz
       split at hv'
       · rename_i k N hx
         split at hv'
         · rename_i k' C hy
           rcases rA hv' with ⟨hb,h1⟩ | ⟨_,h1⟩
           · cases h1
             simp only [aA,sM,aS] at hb
             obtain ⟨hb1,hb2,hb3,hb4,hb5⟩:=hb
             have hb3:by'*C.toNat≤281474976710656:=rG hb3
             have hb4:=rG hb4
             obtain ⟨hu,i,zv,hi,hzv,hsz,hby,kz,hzl,h0⟩:=Cm hz nx ρ
             obtain ⟨v1,e1,k1⟩:=rC hs hx
             obtain ⟨v2,e2,k2⟩:=rC hs hy
             rw [fC.1 k1.2] at e1
             rw [fC.1 k2.2] at e2
             have hbc:(i.bytes:Int)*C≤281474976710656:=by
              have:((by'*C.toNat:Nat):Int)=(i.bytes:Int)*C:=by rw [cF,cN qX,hby]
              omega
             have hmade:madeCells zv.cells (C.toNat*i.size)=(List.replicate C.toNat zv.cells.toList).flatten.toArray:=by
              have:=Ee (zs:=zv.cells.toList) qX C.toNat
              rw [hzl] at this
              rw [hsz,←this]
             have hlen:(List.replicate C.toNat zv.cells.toList).flatten.length=C.toNat*sz:=by simp [←hzl]
             refine ⟨_,C.toNat*sz,.cells (List.replicate C.toNat zv.cells.toList).flatten.toArray e (0,0),fun p=>.slice (some ⟨p,0,none⟩) N.toNat C.toNat,rfl,rfl,rG hb5,rfl,by rw [←hlen];exact tY (Dx kz C.toNat) e,fun ρ' p hρ=>⟨bU nx,?_⟩,fun w d ty pos after g=>?_⟩
             · refine iK.2 ⟨by rw [hρ],by rw [hρ];show 0+C.toNat*sz≤C.toNat*sz;omega,by omega,?_⟩
               simp only [maxLen];omega
             have hrun:=run_make (P:=P) w T e i zv hu hi hzv k k' N C hb1 hb2 hbc qX
             rw [hmade] at hrun
             simp only [execOp,sQ e1,sQ e2,aY,hrun,aG,bB]
           cases h1
         cases hv'
       cases hv'
     cases hv'
   · cases hv
 | buildSlice T N parts =>
   obtain ⟨parts⟩:=parts
   rcases hv with hv | hv
   · have hv':(match AZ P T with
      | some (e,sz,_,z)=>bif Nat.ble 1 N && (Nat.ble (Nat.mul N sz) 16777216 && Nat.ble (Nat.succ nx) rF) then
       (match Ba E (sZ N sz) (Nat.mul N sz) parts (Ra z N) with
       | some l=>Ro.val (.sl nx 0 N sz (some N)) (h.set (some (.cells (It l) e false nx)) rF nx) (Nat.succ nx)
       | none=>.bad) else .bad
      | none=>.bad)=.val c h' nx':=hv
     split at hv'
     · rename_i e sz by' z hz
       rcases rA hv' with ⟨hb,h1⟩ | ⟨_,h1⟩
       · split at h1
         · rename_i l hl
           cases h1
           simp only [aA] at hb
           obtain ⟨hu,i,zv,hi,hzv,hsz,hby,kz,hzl,h0⟩:=Cm hz nx ρ
           have kr:=Dx kz N
           obtain ⟨vs,e1,o1,k1⟩:=Bb hs kr hl
           have hN:=aU hb.1
           have hNs:N*sz≤16777216:=aU hb.2.1
           have hpos:0<N*sz:=Nat.mul_pos hN h0
           have hlen:(List.replicate N zv.cells.toList).flatten.length=N*sz:=by simp [←hzl]
           have hf:=zY (fun i=>some (i*sz,sz)) (sZ N sz) (fun i x h=>by
            simp only [sZ,cG,gI] at h
            obtain ⟨j,hj,rfl⟩:=h
            obtain ⟨hlt,hj⟩:=aJ.1 hj
            simp at hj;subst hj;rfl) vs (List.replicate N zv.cells.toList).flatten (N*sz) hlen o1
           have hmade:((Array.range (N*i.size)).map (zv.cells[· % zv.cells.size]!))=(List.replicate N zv.cells.toList).flatten.toArray:=by
            have:=Ee (zs:=zv.cells.toList) qX N
            rw [hzl] at this
            simpa [madeCells,hsz] using this
           have hmm:(parts.toArray.map fun (i,x)=>(i,a.eval x))=vs.toArray:=by rw [←(lookN a (default:World)).parts e1];simp
           have hlenF:(vL (sZ N sz) (List.replicate N zv.cells.toList).flatten vs).length=N*sz:=by
            rw [←rX k1,Kb hl (by rw [rX kr,hlen];exact aE _),rX kr,hlen]
           refine ⟨_,(vL (sZ N sz) (List.replicate N zv.cells.toList).flatten vs).length,.cells (vL (sZ N sz) (List.replicate N zv.cells.toList).flatten vs).toArray e (0,0),fun p=>.slice (some ⟨p,0,none⟩) N N,rfl,rfl,rG hb.2.2,rfl,tY k1 e,fun ρ' p hρ=>⟨bU nx,?_⟩,fun w d ty pos after g=>?_⟩
           · refine iK.2 ⟨by rw [hρ],by rw [hρ,hlenF];omega,aE _,?_⟩
             have:=oB N h0
             simp only [maxLen];omega
           have hrun:=run_buildSlice (P:=P) w T e N vs.toArray (vL (sZ N sz) (List.replicate N zv.cells.toList).flatten vs).toArray i zv hu hi hzv Mv Mv (by rw [hmade,hsz];exact hf)
           simp only [execOp,hmm,aY,hrun,aG,bB]
         cases h1
       cases h1
     cases hv'
   · have hv':(bif Nat.beq N 0 && Nat.ble (Nat.succ nx) rF then (match parts with
      | []=>(match Jy P T with | some (e,sz)=>Ro.val (.sl nx 0 0 sz (some 0)) (h.set (some (.cells (It .nil) e false nx)) rF nx) (Nat.succ nx) | none=>.bad)
      | _=>.bad) else .bad)=.val c h' nx':=hv
     rcases rA hv' with ⟨hb,h1⟩ | ⟨_,h1⟩
     · rw [aA] at hb
       have hN:=aB hb.1
       subst hN
       cases parts with
       | cons q qs=>cases h1
       | nil =>
         simp only at h1
         split at h1
         · rename_i e sz hT
           cases h1
           have hT':=tJ hT
           refine ⟨_,0,.cells #[] e (0,0),fun p=>.slice (some ⟨p,0,none⟩) 0 0,rfl,rfl,rG hb.2,rfl,tY (vs:=[]) lT e,fun ρ' p hρ=>⟨bU nx,?_⟩,fun w d ty pos after g=>?_⟩
           · refine iK.2 ⟨by rw [hρ],by rw [hρ];omega,aE _,by simp [maxLen]⟩
           simp [execOp,Instr.buildSlice,aO hT'.1,run_sizeOf w hT'.2,Instr.fill,newRow,show Array.range 0=#[] from lX rV]
         cases h1
     · cases h1
 | makeMap T o =>
   cases o with
   | some x=>cases hx
   | none =>
     rcases hv with hv | hv
     · cases hv
     · have hrun:∀ (w:World) (d:Option Tmp) (ty:TypeId) (pos:String) (after:Array Edge) (g:Option (Nat×Bool)),(execOp a.eval ⟨d,.makeMap T none,ty,pos,after,g⟩).run P w=.ok (.value (.map (some w.heap.size))) (w.alloc (sC ([]:List (Int×Int)))):=fun w d ty pos after g=>by
        simp only [execOp,iV,aY,wX,aG,bB];rfl
       have hk:∀ (ρ':Pl) (p:Nat),ρ' nx=(p,0)→Kn (nx+1) ρ' (.mp nx) (.map (some p)):=fun ρ' p hρ=>⟨bU nx,by rw [DV.mp,hρ]⟩
       unfold mv RM at hv
       rcases rA hv with ⟨hf,h1⟩ | ⟨_,h1⟩
       · rcases rA h1 with ⟨_,h2⟩ | ⟨_,h2⟩
         · cases h2
           exact ⟨_,0,_,fun p=>.map (some p),rfl,rfl,rG hf,rfl,rfl,hk,hrun⟩
         rcases rA h2 with ⟨_,h3⟩ | ⟨_,h3⟩
         · cases h3
           exact ⟨_,0,_,fun p=>.map (some p),rfl,rfl,rG hf,rfl,rfl,hk,hrun⟩
         cases h3
       · cases h1
 | _=>cases hx
end
inductive Cmd where
 | code (c:Code) (n:Nat) (E:Tr CV) (h:Tr CB) (nx:Nat)
 | loop (c:Code) (n:Nat) (E:Tr CV) (h:Tr CB) (nx:Nat)
 | ops (all l:List Oper) (n:Nat) (E:Tr CV) (h:Tr CB) (nx:Nat)
 | one (o:Oper) (n:Nat) (E:Tr CV) (h:Tr CB) (nx:Nat)
 | call (f:Nat) (args:CV) (h:Tr CB) (nx:Nat)
 | round (t:Nat) (args:CV) (h:Tr CB) (nx:Nat)
 | reg (l:List Oper) (plan:List (Nat×Pk)) (pend:List (Nat×Nat×Nat)) (n:Nat) (E:Tr CV) (h:Tr CB) (nx:Nat)
inductive Res where
 | bad (why:Nat) (at_:List Oper)
 | ok (x:Exit) (E:Tr CV) (h:Tr CB) (nx:Nat)
 | ret (v:CV) (h:Tr CB) (nx:Nat)
def OC (P:Program) (f:Nat):Option Func:=match zT P.funcs.toList f with
 | some fn => bif fn.name == "runtime.NumGoroutine" then none else some fn
 | none=>none
theorem IT {P : Program} {f : Nat} {fn : Func} (h : OC P f = some fn) : P.funcs[f]? = some fn ∧ (fn.name == "runtime.NumGoroutine") = false := by
 unfold OC at h
 split at h
 · rename_i g hg
   rcases rA h with ⟨_,h⟩ | ⟨h1,h⟩
   · cases h
   cases h
   rw [uJ,lJ] at hg
   exact ⟨hg,h1⟩
 cases h
def Ox (l:CV):Nat→Tr CV→Tr CV:=lrec (fun _ E=>E) (fun a _ ih i E=>ih (Nat.succ i) (E.set (some a) rF i)) l
def IU (P:Program) (E:Tr CV) (h:Tr CB):ResultVar→Option CV
 | .tmp t=>E.get t
 | .cell t T=>qv P E h (.load T (.tmp t))
def IW (P:Program) (E:Tr CV) (h:Tr CB) (l:List ResultVar):Option CV:=List.rec (some .nil) (fun x _ ih=>match IU P E h x with | some a=>(match ih with | some b=>some (.cons a b) | none=>none) | none=>none) l
def Oy (P:Program) (E:Tr CV) (h:Tr CB) (l:List ResultVar):Option CV:=match IW P E h l with
 | some (.cons a .nil)=>some a
 | some x=>some (.tup x)
 | none=>none
def vB (E:Tr CV) (n:Nat) (d:Option Nat) (v:CV):Option (Tr CV):=match d with
 | some d=>bif Nat.ble (Nat.succ d) n then some (E.set (some v) rF d) else none
 | none=>some E
def IX (a b:Bool):Bool:=bif a then b else not b
def Dj (ih:Cmd→Res) (E:Tr CV) (n:Nat) (h:Tr CB) (nx:Nat) (dst:Option Nat):Op→Res
 | .call ⟨.value f,⟨args⟩,_⟩=>match sH E f with
   | some (.fn g fst cap)=>match Vz E args with
     | some l=>(match ih (.call g (xA fst (xA l cap)) h nx) with
       | .ret v h nx=>(match vB E n dst v with | some E=>.ok .normal E h nx | none=>.bad 11 [])
       | .ok _ _ _ _=>.bad 12 []
       | r=>r)
     | none=>.bad 13 []
   | some (.yl t)=>match Vz E args with
     | some l=>(match ih (.round t l h nx) with
       | .ret v h nx=>(match vB E n dst v with | some E=>.ok .normal E h nx | none=>.bad 51 [])
       | .ok _ _ _ _=>.bad 52 []
       | r=>r)
     | none=>.bad 53 []
   | _=>.bad 14 []
 | op => .bad 15 [⟨none, op, 0, "", #[], none⟩]
def GW (l:List Oper) (E:Tr CV) (o:Oper):Option Bool:=match o.guard with
 | none=>some true
 | some (j,want)=>match wS l j with
   | some t=>match E.get t with
     | some (.bool b)=>some (IX b want)
     | some (.tup .nil)=>some false
     | _=>none
   | none=>none
def rL (o:Oper) (pend:List (Nat×Nat×Nat)):List (Nat×Nat×Nat):=List.rec [] (fun x _ ih=>bif not (xM o.op) && He o x.2.1 then ih else x :: ih) pend
def uS (h:Tr CB) (pend:List (Nat×Nat×Nat)):Bool:=Bf (fun x=>match h.get x.1 with | some b=>Nat.ble (Nat.succ (Ly b)) x.2.2 | none=>false) pend
def Mr (c:Code):Bool:=
 Code.rec (motive:=fun _=>Bool) true (fun _ _ _=>true) (fun _ _ a b=>a && b) (fun _ _ _ a b=>a && b) (fun _ _ a=>a) (fun _ a=>a) (fun _ _ _ _ _ _=>false) (fun _=>true) (fun _ a=>a) (fun _=>true) (fun _=>true) true (fun _=>true) c
def OD (n:Nat) (ps:List Nat):CV→Tr CV→Option (Tr CV):=List.rec (fun l E=>match l with | .nil=>some E | _=>none)
 (fun p _ ih l E=>match l with | .cons a b=>bif Nat.ble (Nat.succ p) n then ih b (E.set (some a) rF p) else none | _=>none) ps
def Wo:Exit→Option (Option Code)
 | .normal=>some none
 | .ret=>some (some .ret)
 | .exit id=>some (some (.exit id))
 | _=>none
def Oz:LoopState→Bool | .ready=>true | _=>false
def Mk:LoopState→Bool | .busy=>true | _=>false
abbrev sL:=List (Nat×(CV→Option CV))
def RN (pr:sL) (f:Nat):Option (CV→Option CV):=List.rec none (fun x _ ih=>bif Nat.beq x.1 f then some x.2 else ih) pr
def IY (P:Program) (ih:Cmd→Res) (n:Nat) (E:Tr CV) (h:Tr CB) (nx:Nat) (a:Code) (b:Code):Res:=match ih (.code a n E h nx) with
 | .ok x E h nx=>(match x with
   | .normal=>ih (.code b n E h nx)
   | x=>.ok x E h nx)
 | r=>r
def RO (P:Program) (ih:Cmd→Res) (n:Nat) (E:Tr CV) (h:Tr CB) (nx:Nat) (c:Operand) (a:Code) (b:Code):Res:=match sH E c with
 | some (.bool t)=>ih (.code (bif t then a else b) n E h nx)
 | _=>.bad 1 []
def IZ (P:Program) (ih:Cmd→Res) (n:Nat) (E:Tr CV) (h:Tr CB) (nx:Nat) (id:Nat) (c:Code):Res:=match ih (.code c n E h nx) with
 | .ok x E h nx=>(match x with
   | .exit id'=>bif Nat.beq id' id then .ok .normal E h nx else .ok (.exit id') E h nx
   | x=>.ok x E h nx)
 | r=>r
def JA (P:Program) (ih:Cmd→Res) (n:Nat) (E:Tr CV) (h:Tr CB) (nx:Nat) (c:Code):Res:=match ih (.code c n E h nx) with
 | .ok x E h nx=>(match x with
   | .normal=>.ok .normal E h nx
   | .ret=>.ok .ret E h nx
   | .exit id=>.ok (.exit id) E h nx
   | _=>.bad 22 [])
 | r=>r
def RP (P:Program) (ih:Cmd→Res) (n:Nat) (E:Tr CV) (h:Tr CB) (nx:Nat) (g:Operand) (ps:List Nat) (asg:Code) (body:Code):Res:=match sH E g with
 | some (.fn f .nil cap)=>bif Nat.ble (Nat.succ nx) rF then
   (match ih (.call f (.cons (.yl nx) cap) (h.set (some (.lp E n ps asg body .ready none nx)) rF nx) (Nat.succ nx)) with
   | .ret _ h' nx'=>(match h'.get nx with
     | some (.lp _ _ _ _ _ st p _)=>bif Mk st || not (Nat.ble (Nat.succ nx') rF) then .bad 41 [] else
       (match p with
       | none=>.ok .normal E (h'.set none rF nx) (Nat.succ nx')
       | some c=>ih (.code c n E (h'.set none rF nx) (Nat.succ nx')))
     | _=>.bad 42 [])
   | .ok _ _ _ _=>.bad 43 []
   | r=>r) else .bad 44 []
 | _=>.bad 45 []
def BO (P:Program) (ih:Cmd→Res) (n:Nat) (E:Tr CV) (h:Tr CB) (nx:Nat) (l:List Oper):Res:=bif P.follows .mixedOrders then (match Hl l with
 | some p=>ih (.reg l p [] n E h nx)
 | none=>.bad 23 l) else .bad 24 []
def MW (P:Program) (ih:Cmd→Res) (n:Nat) (E:Tr CV) (h:Tr CB) (nx:Nat) (l:List Oper):Res:=bif l.all sA then ih (.ops l l n E h nx) else .bad 2 []
def stC (P:Program) (ih:Cmd→Res) (n:Nat) (E:Tr CV) (h:Tr CB) (nx:Nat):Code→Res
 | .skip=>.ok .normal E h nx
 | .label _=>.ok .normal E h nx
 | .exit id=>.ok (.exit id) E h nx
 | .ret=>.ok .ret E h nx
 | .seq a b=>IY P ih n E h nx a b
 | .cond c a b=>RO P ih n E h nx c a b
 | .block id c=>IZ P ih n E h nx id c
 | .scope c=>JA P ih n E h nx c
 | .rangeFunc g ⟨ps⟩ asg body=>RP P ih n E h nx g ps asg body
 | .loop c=>ih (.loop c n E h nx)
 | .region _ ⟨l⟩ true=>BO P ih n E h nx l
 | .region _ ⟨l⟩ false=>MW P ih n E h nx l
 | _=>.bad 3 []
def stG (ih:Cmd→Res) (all:List Oper) (o:Oper) (rest:List Oper) (n:Nat) (E:Tr CV) (h:Tr CB) (nx:Nat) (j:Nat) (want:Bool):Res:=
 (match wS all j with
  | some t=>(match E.get t with
    | some (.bool b)=>bif IX b want then
     (match ih (.one o n E h nx) with
     | .ok x E h nx=>ih (.ops all rest n E h nx)
     | r=>r)
      else (match vB E n o.dst (.tup .nil) with | some E=>ih (.ops all rest n E h nx) | none=>.bad 4 [])
    | some (.tup .nil)=>(match vB E n o.dst (.tup .nil) with | some E=>ih (.ops all rest n E h nx) | none=>.bad 4 [])
    | _=>.bad 5 [])
  | none=>.bad 6 [])
def Pa (P:Program) (pr:sL) (ih:Cmd→Res) (c:Code) (n:Nat) (E:Tr CV) (h:Tr CB) (nx:Nat):Res:=match ih (.code c n E h nx) with
 | .ok x E h nx=>(match x with
   | .normal=>ih (.loop c n E h nx)
   | x=>.ok x E h nx)
 | r=>r
def BP (P:Program) (pr:sL) (ih:Cmd→Res) (all:List Oper) (l:List Oper) (n:Nat) (E:Tr CV) (h:Tr CB) (nx:Nat):Res:=match l with
 | []=>.ok .normal E h nx
 | o :: rest=>match o.guard with
   | none=>(match ih (.one o n E h nx) with
     | .ok x E h nx=>ih (.ops all rest n E h nx)
     | r=>r)
   | some (j,want)=>stG ih all o rest n E h nx j want
def Bg (P:Program) (pr:sL) (ih:Cmd→Res) (o:Oper) (n:Nat) (E:Tr CV) (h:Tr CB) (nx:Nat):Res:=match qv P E h o.op with
 | some c=>(match vB E n o.dst c with | some E=>.ok .normal E h nx | none=>.bad 7 [])
 | none=>match wm P E h nx o.op with
   | .val c h nx=>(match vB E n o.dst c with | some E=>.ok .normal E h nx | none=>.bad 8 [])
   | .unit h nx=>(match o.dst with | none=>.ok .normal E h nx | some _=>.bad 10 [])
   | .bad=>Dj ih E n h nx o.dst o.op
def rT (l:List Oper) (R:List Nat) (E:Tr CV):Tr CV:=List.rec E (fun j _ ih=>match wS l j with | some d=>ih.set none rF d | none=>ih) R
def vN (P:Program) (l:List Oper) (R:List Nat) (n:Nat) (E:Tr CV) (h:Tr CB) (nx:Nat):Bool:=
 Bf (fun j=>Hg l j fun o=>(match o.dst with | some d=>Nat.ble (Nat.succ d) n | none=>false) && (match wm P E h nx o.op with | .val _ _ _=>true | _=>false)) R
def Bh (P:Program) (pr:sL) (ih:Cmd→Res) (l:List Oper) (plan:List (Nat×Pk)) (pend:List (Nat×Nat×Nat)) (n:Nat) (E:Tr CV) (h:Tr CB) (nx:Nat):Res:=match plan with
 | []=>.ok .normal E h nx
 | (i,.look) :: plan=>match zT l i with
   | some o=>(match GW l E o with
     | some g=>(bif g then (match qv P E h o.op with
      | some c=>(match vB E n o.dst c with
        | some E'=>ih (.reg l plan (match AX E o.op with | some t=>(t,i,nx) :: pend | none=>pend) n E' h nx)
        | none=>.bad 25 [o])
      | none=>.bad 26 [o])
      else (match vB E n o.dst (.tup .nil) with | some E=>ih (.reg l plan pend n E h nx) | none=>.bad 27 [o]))
     | none=>.bad 30 [o])
   | none=>.bad 31 []
 | (i,.only) :: plan=>match zT l i with
   | some o=>(match GW l E o with
     | some g=>(bif g then (match ih (.one o n E h nx) with
      | .ok _ E h nx=>bif uS h (rL o pend) then ih (.reg l plan (rL o pend) n E h nx) else .bad 28 [o]
      | r=>r)
      else (match vB E n o.dst (.tup .nil) with | some E=>ih (.reg l plan (rL o pend) n E h nx) | none=>.bad 29 [o]))
     | none=>.bad 30 [o])
   | none=>.bad 31 []
 | (i,.race R) :: plan=>match zT l i with
   | some o=>bif vN P l R n (rT l R E) h nx then (match ih (.one o n (rT l R E) h nx) with
    | .ok _ E h nx=>bif uS h (rL o pend) then ih (.reg l plan (rL o pend) n E h nx) else .bad 28 [o]
    | r=>r) else .bad 32 [o]
   | none=>.bad 31 []
 | (i,.make R) :: plan=>match zT l i with
   | some o=>bif vN P l R n (rT l R E) h nx then (match wm P (rT l R E) h nx o.op with
    | .val c h nx=>(match vB (rT l R E) n o.dst c with | some E=>ih (.reg l plan (rL o pend) n E h nx) | none=>.bad 33 [o])
    | _=>.bad 34 [o]) else .bad 35 [o]
   | none=>.bad 31 []
def MX (P:Program) (pr:sL) (ih:Cmd→Res) (t:Nat) (args:CV) (h:Tr CB) (nx:Nat):Res:=match h.get t with
 | some (.lp E n ps asg body st _ _)=>bif Oz st && (Mr asg && (Mr body && Nat.ble n 100000)) then
   (match OD n ps args E with
   | some E1=>match ih (.code asg n E1 h nx) with
     | .ok .normal E2 h2 nx2=>(match h2.get t with
       | some (.lp E0 n0 ps0 as0 body0 st0 p0 _)=>bif Oz st0 && Nat.ble (Nat.succ nx2) rF then
         (match ih (.code body n E2 (h2.set (some (.lp E0 n0 ps0 as0 body0 .busy p0 nx2)) rF t) (Nat.succ nx2)) with
         | .ok x _ h3 nx3=>(match h3.get t with
           | some (.lp E4 n4 ps4 as4 body4 _ _ _)=>bif Nat.ble (Nat.succ nx3) rF then
             (match Wo x with
             | some none=>.ret (.bool true) (h3.set (some (.lp E4 n4 ps4 as4 body4 .ready none nx3)) rF t) (Nat.succ nx3)
             | some (some c)=>.ret (.bool false) (h3.set (some (.lp E4 n4 ps4 as4 body4 .done (some c) nx3)) rF t) (Nat.succ nx3)
             | none=>.bad 46 []) else .bad 47 []
           | _=>.bad 48 [])
         | .ret _ _ _=>.bad 49 []
         | r=>r) else .bad 50 []
       | _=>.bad 54 [])
     | .ok _ _ _ _=>.bad 55 []
     | .ret _ _ _=>.bad 56 []
     | r=>r
   | none=>.bad 57 []) else .bad 58 []
 | _=>.bad 59 []
def MY (P:Program) (pr:sL) (ih:Cmd→Res) (f:Nat) (args:CV) (h:Tr CB) (nx:Nat):Res:=match RN pr f with
 | some g=>(match g args with | some v=>.ret v h nx | none=>.bad 60 [])
 | none=>match OC P f with
 | some fn=>(match fn.body with
   | some c=>bif Nat.ble (rU args) fn.ntmps && Nat.ble fn.ntmps 100000 then (match ih (.code c fn.ntmps (Ox args 0 .e) h nx) with
     | .ok x E h nx=>(match x with
       | .normal=>(match Oy P E h fn.results.toList with | some v=>.ret v h nx | none=>.bad 16 [])
       | .ret=>(match Oy P E h fn.results.toList with | some v=>.ret v h nx | none=>.bad 16 [])
       | _=>.bad 17 [])
     | .ret _ _ _=>.bad 18 []
     | r=>r) else .bad 19 []
   | none=>.bad 20 [])
 | none=>.bad 21 []
def step (P:Program) (pr:sL) (ih:Cmd→Res):Cmd→Res
 | .code c n E h nx=>stC P ih n E h nx c
 | .loop c n E h nx=>Pa P pr ih c n E h nx
 | .ops all l n E h nx=>BP P pr ih all l n E h nx
 | .one o n E h nx=>Bg P pr ih o n E h nx
 | .reg l plan pend n E h nx=>Bh P pr ih l plan pend n E h nx
 | .round t args h nx=>MX P pr ih t args h nx
 | .call f args h nx=>MY P pr ih f args h nx
def run (P:Program) (pr:sL) (fuel:Nat):Cmd→Res:=Nat.rec (fun _=>.bad 0 []) (fun _ ih=>step P pr ih) fuel
end Go.Sl.Ev
end
