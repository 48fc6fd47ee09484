/- uK of the proof (part 10): what the rows' text needs of the texts that lead to it. -/
import Derived.Test.YtngphgeghfdjbaaGreatDoorMBi
set_option linter.unusedVariables false
set_option linter.unusedSimpArgs false
set_option linter.unusedSectionVars false
set_option maxHeartbeats 4000000
noncomputable section
set_option maxRecDepth 100000
namespace Go.Sl.Ev
open Go Go.Sl
section
variable {P:Program} {Φ:Imm→Prop} {pr:uQ}
theorem AV {ih:Cmd→Res} (H:∀ c,tA P Φ c (ih c)) {all rest:List Oper} {o:Oper} {n:Nat} {E:Tr CV} {h:Tr CB} {nx:Nat}
 (hw:∀ (ρ:Pl) (w0:Bas Φ) (a:Act) (w:World),Rel ρ w0 n E h nx a w→Region.wanted o (yielded all.toArray a.tmps)=true) :
 tA P Φ (.ops all (o :: rest) n E h nx) (match ih (.one o n E h nx) with | .ok x E h nx=>ih (.ops all rest n E h nx) | r=>r):=by
 have H1:=H (.one o n E h nx)
 generalize ih (.one o n E h nx)=q at H1
 cases q with
 | bad=>trivial
 | ret v h' nx'=>exact H1.elim
 | ok x E' h' nx' =>
   obtain ⟨rfl,H1⟩:=H1
   show tA P Φ _ (ih (.ops all rest n E' h' nx'))
   have H2:=H (.ops all rest n E' h' nx')
   generalize ih (.ops all rest n E' h' nx')=q2 at H2
   cases q2 with
   | bad=>trivial
   | ret v h2 nx2=>exact H2.elim
   | ok x2 E2 h2 nx2 =>
     obtain ⟨rfl,H2⟩:=H2
     refine ⟨rfl,fun ρ w0 a w hR hf hn K hK=>?_⟩
     unfold tN
     rw [aR (hw ρ w0 a w hR)]
     exact H1 ρ w0 a w hR hf hn _ fun ρ' a' w' e1 e2 _=>H2 ρ' w0 a' w' e2 e1.fit hn K fun ρ2 a2 w2 f1 f2=>hK ρ2 a2 w2 (e1.trans hR.mem f1) f2
theorem AW {ih:Cmd→Res} (H:∀ c,tA P Φ c (ih c)) {all rest:List Oper} {o:Oper} {n:Nat} {E:Tr CV} {h:Tr CB} {nx:Nat}
 (hw:∀ (ρ:Pl) (w0:Bas Φ) (a:Act) (w:World),Rel ρ w0 n E h nx a w→Region.wanted o (yielded all.toArray a.tmps)=false) :
 tA P Φ (.ops all (o :: rest) n E h nx) (match xU E n o.dst (.tup .nil) with | some E=>ih (.ops all rest n E h nx) | none=>.bad 4 []):=by
 split
 · rename_i E' hp
   have H2:=H (.ops all rest n E' h nx)
   generalize ih (.ops all rest n E' h nx)=q2 at H2
   cases q2 with
   | bad=>trivial
   | ret v h2 nx2=>exact H2.elim
   | ok x2 E2 h2 nx2 =>
     obtain ⟨rfl,H2⟩:=H2
     refine ⟨rfl,fun ρ w0 a w hR hf hn K hK=>?_⟩
     unfold tN
     rw [aL (by rw [hw ρ w0 a w hR];simp)]
     exact H2 ρ w0 _ w (hR.put (vY hR.slots hn hp Mu)) hf hn K hK
 trivial
theorem Gj {ih:Cmd→Res} (H:∀ c,tA P Φ c (ih c)) (all l:List Oper) (n:Nat) (E:Tr CV) (h:Tr CB) (nx:Nat):tA P Φ (.ops all l n E h nx) (step P pr ih (.ops all l n E h nx)):=by
 cases l with
 | nil=>exact ⟨rfl,fun ρ w0 a w hR hf hn K hK=>hK ρ a w (Nx.refl hf) hR⟩
 | cons o rest =>
   show tA P Φ _ (match o.guard with
    | none=>(match ih (.one o n E h nx) with
      | .ok x E h nx=>ih (.ops all rest n E h nx)
      | r=>r)
    | some (j,want)=>(match zR all j with
      | some t=>(match E.get t with
        | some (.bool b)=>bif SD b want then
         (match ih (.one o n E h nx) with
         | .ok x E h nx=>ih (.ops all rest n E h nx)
         | r=>r)
          else (match xU E n o.dst (.tup .nil) with | some E=>ih (.ops all rest n E h nx) | none=>.bad 4 [])
        | some (.tup .nil)=>(match xU E n o.dst (.tup .nil) with | some E=>ih (.ops all rest n E h nx) | none=>.bad 4 [])
        | _=>.bad 5 [])
      | none=>.bad 6 []))
   split
   · rename_i hg
     exact AV H fun ρ w0 a w hR=>by simp [Region.wanted,hg]
   rename_i j want hg
   split
   · rename_i t ht
     split
     · rename_i b hb
       cases hx:SD b want with
       | true =>
         have e:b=want:=by cases b <;> cases want <;> first | rfl | cases hx
         exact AV H fun ρ w0 a w hR=>by simp [Region.wanted,hg,Ea hR.slots ht hb,e]
       | false =>
         have e:b≠want:=by cases b <;> cases want <;> first | (cases hx;done) | exact tF
         exact AW H fun ρ w0 a w hR=>by simp [Region.wanted,hg,Ea hR.slots ht hb,e]
     · rename_i hb
       exact AW H fun ρ w0 a w hR=>by simp [Region.wanted,hg,Mv hR.slots ht hb]
     trivial
   trivial
theorem OQ {nx:Nat} {ρ:Pl} {l:CV} {vs:List Value} (hk:KL nx ρ l vs):∀ (i:Nat) (E:Tr CV),i+vs.length≤100000→∀ (j:Nat) (x:CV),(Vk l i E).get j=some x→(i≤j∧∃ v,vs[j - i]?=some v∧Kn nx ρ x v)∨E.get j=some x:=by
 refine lP (motive:=fun l vs=>∀ (i:Nat) (E:Tr CV),i+vs.length≤100000→∀ (j:Nat) (x:CV),(Vk l i E).get j=some x→(i≤j∧∃ v,vs[j - i]?=some v∧Kn nx ρ x v)∨E.get j=some x) ?_ ?_ hk
 · intro i E _ j x hx;exact .inr hx
 intro a b v vs hv hvs ih i E hi j x hx
 have hx':(Vk b (Nat.succ i) (E.set (some a) tE i)).get j=some x:=hx
 rw [bQ] at hi
 rcases ih (i+1) _ sV j x hx' with ⟨h1,u,h2,h3⟩ | h1
 · refine .inl ⟨by omega,u,?_,h3⟩
   rw [show j - i=(j - (i+1))+1 by omega]
   simpa using h2
 rw [eP (some a) tE E i j (by rw [Mh];omega)] at h1
 by_cases e:j=i
 · rw [aR e] at h1
   cases h1
   exact .inl ⟨by omega,v,by subst e;simp,hv⟩
 rw [aL e] at h1;exact .inr h1
section
variable {nx n:Nat} {ρ:Pl} {w0:Bas Φ} {w:World} {E:Tr CV} {h:Tr CB} {a:Act}
theorem OR (hR:Rel ρ w0 n E h nx a w) {x:ResultVar} {c:CV} (hc:SB P E h x=some c):∃ v,Kn nx ρ c v∧(yT a.tmps x).run P w=.ok v w:=by
 cases x with
 | tmp t =>
   obtain ⟨v,h1,h2⟩:=hR.slots.2 t c hc
   exact ⟨v,h2,by simp [yT,h1]⟩
 | cell t T =>
   have hc':qv P E h (.load T (.tmp t))=some c:=hc
   obtain ⟨ob,hob⟩:∃ ob:Nat→Obj,∀ t b,h.get t=some b→w.heap[(ρ t).1]?=some (ob t)∧DB nx ρ (ρ t).2 b (ob t):=by
    refine ⟨fun t=>(w.heap[(ρ t).1]?).getD default,fun t b hb=>?_⟩
    obtain ⟨_,_,_,o,h1,h2⟩:=hR.mem.own t b hb
    exact ⟨by show _=some ((w.heap[(ρ t).1]?).getD default);rw [h1];rfl,by show DB _ _ _ _ ((w.heap[(ρ t).1]?).getD default);rw [h1];exact h2⟩
   obtain ⟨v,k1,k2⟩:=AQ (ob:=ob) hR.slots (fun t b _ hb=>(hob t b hb).2) hc'
   have hr:=k2 w (fun t ht=>by
    obtain ⟨b,hb⟩:=Yf ht hc'
    exact (hob t b hb).1) none 0 "" #[] none
   refine ⟨v,k1,?_⟩
   have hp:∃ ad,a.eval (.tmp t)=.pointer (some ad):=by
    have hx:∃ tt o,uM E (.tmp t)=some (.ptr tt o):=by
     have hq':(match uM E (.tmp t) with
      | some (.ptr t o)=>match h.get t with
        | some (.cells l _ _ _)=>bif vK P T then DY l o else
          (match SO P T with
          | some k=>bif Nat.beq (tW (uE l o k)) k then some (.agg (uE l o k)) else none
          | none=>none)
        | _=>none
      | _=>none)=some c:=hc'
     split at hq'
     · rename_i tt o hx;exact ⟨tt,o,hx⟩
     cases hq'
    obtain ⟨tt,o,hx⟩:=hx
    obtain ⟨u,e1,g1⟩:=tB hR.slots hx
    have:=mI.1 g1.2
    subst this
    exact ⟨_,uZ e1⟩
   obtain ⟨ad,had⟩:=hp
   have had':a.tmps.getD t undef=.pointer (some ad):=had
   simp only [yT,had',asAddr]
   simp only [execOp,had,Instr.loadAt,Instr.sureAddr] at hr
   simp only [bG,bL,aP] at hr ⊢
   generalize (loadVar T ad).run P w=q at hr ⊢
   cases q with
   | ok u w'=>simp only [aP,bL,Result.ok.injEq,Next.value.injEq] at hr;obtain ⟨rfl,rfl⟩:=hr;rfl
   | halt x w'=>cases hr
theorem AX (hR:Rel ρ w0 n E h nx a w):∀ {l:List ResultVar} {c:CV},SC P E h l=some c→∃ vs,KL nx ρ c vs∧(l.mapM (yT a.tmps)).run P w=.ok vs w:=by
 intro l
 induction l with
 | nil=>intro c hc;cases hc;exact ⟨[],nS,by simp⟩
 | cons x l ih =>
   intro c hc
   have hc':(match SB P E h x with | some a=>(match SC P E h l with | some b=>some (.cons a b) | none=>none) | none=>none)=some c:=hc
   split at hc'
   · rename_i c1 h1
     split at hc'
     · rename_i c2 h2
       cases hc'
       obtain ⟨v,k1,r1⟩:=OR hR h1
       obtain ⟨vs,k2,r2⟩:=ih h2
       exact ⟨v :: vs,pJ k1 k2,by simp [List.mapM_cons,r1,r2]⟩
     cases hc'
   cases hc'
theorem OS (hR:Rel ρ w0 n E h nx a w) {fn:Func} {c:CV} (hc:Vm P E h fn.results.toList=some c):∃ v,Kn nx ρ c v∧(results fn a.tmps).run P w=.ok v w:=by
 unfold Vm at hc
 have key:∀ vs,(fn.results.toList.mapM (yT a.tmps)).run P w=.ok vs w→(results fn a.tmps).run P w=.ok (if h:vs.toArray.size=1 then vs.toArray[0] else .tuple vs.toArray) w:=fun vs hvs=>by
  rw [yU]
  have e1:fn.results.mapM (yT a.tmps)=List.toArray <$> (fn.results.toList.mapM (yT a.tmps)):=by rw [Array.mapM_eq_mapM_toList]
  rw [e1,map_eq_pure_bind]
  simp only [bG,hvs,aP,bL]
 split at hc
 · rename_i c1 h1
   cases hc
   obtain ⟨vs,k1,r1⟩:=AX hR h1
   obtain ⟨v,vs',rfl,k2,k3⟩:=k1.inv_cons
   rw [k3.inv_nil] at r1
   exact ⟨v,k2,by rw [key _ r1];simp⟩
 · rename_i c1 hne h1
   cases hc
   obtain ⟨vs,k1,r1⟩:=AX hR h1
   refine ⟨.tuple vs.toArray,⟨k1.1,qE.2 ⟨vs,k1.2,rfl⟩⟩,?_⟩
   rw [key _ r1]
   have:¬vs.toArray.size=1:=fun hs=>by
    have hl:vs.length=1:=by simpa using hs
    rw [←tZ k1] at hl
    revert k1 hl hne
    cases c1 <;> first | (intro hne k1 hl;cases hl;done) | skip
    rename_i x y
    intro hne k1 hl
    obtain ⟨v,vs',rfl,k2,k3⟩:=k1.inv_cons
    have hy:tW y=0:=Nat.succ.inj hl
    cases y <;> first | exact absurd rfl (hne _) | (exact absurd k3.2 id) | (cases hy)
   rw [dif_neg this]
 cases hc
end
end
section
variable {P:Program} {Φ:Imm→Prop} {pr:uQ}
theorem Px {ops:Array Oper} {K:Act→World→Prop} {C C':Array Bool→World→Prop} (hC:∀ L w,C' L w→C L w):∀ (f:Nat) (L:Array Bool) (a:Act) (w:World),gm P ops K C' f L a w→gm P ops K C f L a w
 | 0,_,_,_,h=>⟨hC _ _ h.1,h.2⟩
 | f+1,_,_,_,h=>⟨hC _ _ h.1,h.2.1,fun i hi=>Kf (fun a w h=>Px hC f _ a w h) (h.2.2 i hi)⟩
theorem Vp {n nx:Nat} {ρ:Pl} {E:Tr CV} {a:Act} {l:List Oper} {o:Oper} {g:Bool} (hs:Slots ρ E nx n a) (h:PR l E o=some g):Region.wanted o (yielded l.toArray a.tmps)=g:=by
 unfold PR at h
 split at h
 · rename_i hg;cases h;simp [Region.wanted,hg]
 rename_i j want hg
 split at h
 · rename_i t ht
   split at h
   · rename_i b hb
     cases h
     have:=Ea hs ht hb
     simp only [Region.wanted,hg,this]
     cases b <;> cases want <;> rfl
   · rename_i hb
     cases h
     have:=Mv hs ht hb
     simp [Region.wanted,hg,this]
   cases h
 cases h
theorem Ad {l:List Oper} {L:Array Bool} {i:Nat} (hd:OP l L) (hi:i∈Region.ready .any l.toArray L):OP l (L.setIfInBounds i true):=fun j o hj hl e he hb=>by
 by_cases hji:i=j
 · subst hji
   obtain ⟨_,o',ho',h2⟩:=eZ.1 hi
   have ho:l.toArray[i]?=some o:=by simpa using hj
   rw [ho] at ho';cases ho'
   exact pQ (h2 e he hb)
 rw [iF false hji] at hl
 exact pQ (hd j o hj hl e he hb)
theorem Vq {l:List Oper} {L:Array Bool} {i j:Nat} (hd:OP l L) (hi:i∈Region.ready .any l.toArray L) (hw:EN l i j):L.getD j false=false:=by
 obtain ⟨o,ho,_,he⟩:=hw
 obtain ⟨e,he1,he2,he3⟩:=Mr.1 he
 cases hl:L.getD j false with
 | false=>rfl
 | true =>
   have h1:=hd j o ho hl e he1 he2
   rw [he3] at h1
   obtain ⟨h0,o',ho',_⟩:=eZ.1 hi
   have hlt:i<l.toArray.size:=(cG.1 ho').1
   rcases aM i L.size with hs | hs
   · simp [hs] at h0 h1;rw [h0] at h1;cases h1
   simp [kC hs] at h1
theorem Py {o:Oper}:∀ {pend:List (Nat×Nat×Nat)} {x:Nat×Nat×Nat},x∈pend→(not (Av o.op) && Mk o x.2.1)=false→x∈tO o pend:=by
 intro pend
 induction pend with
 | nil=>intro x h _;cases h
 | cons y pend ih =>
   intro x h hx
   show x∈(bif not (Av o.op) && Mk o y.2.1 then tO o pend else y :: tO o pend)
   rcases dF.1 h with rfl | h
   · rw [hx];exact bP
   cases (not (Av o.op) && Mk o y.2.1) with
   | true=>exact ih h hx
   | false=>exact bB _ (ih h hx)
theorem vJ {A:Array Bool} {j:Nat}:A.getD j true=false↔j<A.size∧A.getD j false=false:=by
 rcases aM j A.size with h | h
 · simp [h]
 simp [kC h];omega
theorem Mx {R:List Nat} {L:Array Bool} {k:Nat}:(Ms R L).size=L.size∧((Ms R L).getD k false=true↔L.getD k false=true∨(k∈R∧k<L.size)):=by
 induction R with
 | nil=>exact ⟨rfl,fun h=>.inl h,fun h=>h.elim (fun q=>q) fun q=>by cases q.1⟩
 | cons j R ih =>
   obtain ⟨h1,h2⟩:=ih
   refine ⟨by show ((Ms R L).setIfInBounds j true).size=_;simp [h1],?_⟩
   show ((Ms R L).setIfInBounds j true).getD k false=true↔_
   by_cases e:j=k
   · subst e
     rcases aM j L.size with h | h
     · have:j<(Ms R L).size:=by rw [h1];exact h
       simp [this,h]
     have h3:¬j<(Ms R L).size:=by rw [h1];omega
     have h4:((Ms R L).setIfInBounds j true).getD j false=(Ms R L).getD j false:=by
      rw [fN,fN,kC (by simp;omega),kC sV]
     rw [h4,h2]
     constructor
     · rintro (h5 | h5)
       · exact .inl h5
       omega
     rintro (h5 | h5)
     · exact .inl h5
     omega
   rw [iF false e,h2]
   constructor
   · rintro (h5 | h5)
     · exact .inl h5
     exact .inr ⟨bB _ h5.1,h5.2⟩
   rintro (h5 | h5)
   · exact .inl h5
   rcases dF.1 h5.1 with h6 | h6
   · exact absurd h6.symm e
   exact .inr ⟨h6,h5.2⟩
section lists
variable {l:List Oper} {L Lm:Array Bool} {S:List Early} {i:Nat}
theorem LR.unl (h:LR L S Lm) {j:Nat} (hj:Lm.getD j true=false):L.getD j true=false∧∀ e∈S,e.j≠j:=by
 obtain ⟨h1,h2⟩:=vJ.1 hj
 refine ⟨vJ.2 ⟨by rw [←h.size];exact h1,?_⟩,fun e he hej=>?_⟩
 · cases hl:L.getD j false with
   | false=>rfl
   | true=>rw [(h.iff j).2 (.inl hl)] at h2;cases h2
 rw [(h.iff j).2 (.inr ⟨e,he,hej⟩)] at h2;cases h2
theorem LR.up (h:LR L S Lm) (hi:i∈Region.ready .any l.toArray L) (hn:∀ e∈S,e.j≠i):i∈Region.ready .any l.toArray Lm:=by
 obtain ⟨h1,o,ho,h2⟩:=eZ.1 hi
 obtain ⟨h3,h4⟩:=vJ.1 h1
 refine eZ.2 ⟨vJ.2 ⟨by rw [h.size];exact h3,?_⟩,o,ho,fun e he hb=>(h.iff _).2 (.inl (h2 e he hb))⟩
 cases hl:Lm.getD i false with
 | false=>rfl
 | true =>
   rcases (h.iff i).1 hl with h5 | ⟨e,h5,h6⟩
   · rw [h4] at h5;cases h5
   exact absurd h6 (hn e h5)
theorem LR.set (h:LR L S Lm) (hi:i<L.size) (hn:∀ e∈S,e.j≠i):LR (L.setIfInBounds i true) S (Lm.setIfInBounds i true):=by
 refine ⟨by simp [h.size],fun j=>?_,fun e he=>?_⟩
 · by_cases e:i=j
   · subst e
     have h1:i<Lm.size:=by rw [h.size];exact hi
     simp [hi,h1]
   rw [iF false e,iF false e];exact h.iff j
 rw [iF true (fun e2=>hn e he e2.symm)];exact h.un e he
theorem LR.nil (h:LR L [] Lm) {j:Nat} (hj:j∈Region.ready .any l.toArray Lm):j∈Region.ready .any l.toArray L:=by
 obtain ⟨h1,o,ho,h2⟩:=eZ.1 hj
 refine eZ.2 ⟨(h.unl h1).1,o,ho,fun e he hb=>?_⟩
 rcases (h.iff _).1 (h2 e he hb) with h3 | ⟨x,h3,_⟩
 · exact h3
 cases h3
theorem LR.early (h:LR L S Lm) {j p:Nat} {o:Obj} {V:Nat→Value} (hj:Lm.getD j true=false):LR L (⟨j,p,o,V⟩ :: S) (Lm.setIfInBounds j true):=by
 obtain ⟨h1,h2⟩:=vJ.1 hj
 refine ⟨by simp [h.size],fun k=>?_,fun e he=>?_⟩
 · by_cases e:j=k
   · subst e
     simp [h1]
   rw [iF false e,h.iff k]
   constructor
   · rintro (h5 | ⟨x,h5,h6⟩)
     · exact .inl h5
     exact .inr ⟨x,bB _ h5,h6⟩
   rintro (h5 | ⟨x,h5,h6⟩)
   · exact .inl h5
   rcases dF.1 h5 with rfl | h5
   · exact absurd h6 e
   exact .inr ⟨x,h5,h6⟩
 rcases dF.1 he with rfl | he
 · exact (h.unl hj).1
 exact h.un e he
theorem EP {e:Early} (he:e∈S):∃ A B,S=A++e :: B:=List.append_of_mem he
theorem LR.adopt {A B:List Early} {e:Early} (h:LR L (A++e :: B) Lm) (hnd:((A++e :: B).map (·.j)).Nodup):LR (L.setIfInBounds e.j true) (A++B) Lm:=by
 have hu:=(vJ.1 (h.un e tS)).1
 have hne:∀ x,x∈A++B→x.j≠e.j:=fun x hx hxe=>by
  rw [qH,bY] at hnd
  have h1:=pI.1 hnd
  have h2:=kF.1 h1.2.1
  rcases fI.1 hx with h3 | h3
  · exact h1.2.2 x.j (dY.2 ⟨x,h3,rfl⟩) e.j (bP ..) hxe
  exact h2.1 (dY.2 ⟨x,h3,hxe⟩)
 refine ⟨by simp [h.size],fun k=>?_,fun x hx=>?_⟩
 · rw [h.iff k]
   by_cases e2:e.j=k
   · subst e2
     simp [hu]
     exact .inr ⟨e,.inr (.inl rfl),rfl⟩
   rw [iF false e2]
   constructor
   · rintro (h5 | ⟨x,h5,h6⟩)
     · exact .inl h5
     rcases fI.1 h5 with h7 | h7
     · exact .inr ⟨x,iH _ h7,h6⟩
     rcases dF.1 h7 with rfl | h7
     · exact absurd h6 e2
     exact .inr ⟨x,jD _ h7,h6⟩
   rintro (h5 | ⟨x,h5,h6⟩)
   · exact .inl h5
   rcases fI.1 h5 with h7 | h7
   · exact .inr ⟨x,iH _ h7,h6⟩
   exact .inr ⟨x,jD _ (bB _ h7),h6⟩
 rw [iF true (fun e2=>hne x hx e2.symm)]
 refine h.un x ?_
 rcases fI.1 hx with h3 | h3
 · exact iH _ h3
 exact jD _ (bB _ h3)
theorem Yg {Rc R:List Nat} (h:LR L S Lm) (hr:RaceOk l L Rc i R) (hs:∀ e∈S,e.j∈Rc) (hn:∀ e∈S,e.j≠i) {j:Nat} (hj:j∈Region.ready .any l.toArray Lm):j=i∨j∈R:=by
 by_cases hR:j∈R
 · exact .inr hR
 refine .inl (hr.only j ?_)
 obtain ⟨h1,o,ho,h2⟩:=eZ.1 hj
 obtain ⟨h3,h4⟩:=vJ.1 (h.unl h1).1
 refine eZ.2 ⟨vJ.2 ⟨by rw [(Mx (k:=0)).1];exact h3,?_⟩,o,ho,fun e he hb=>Mx.2.2 ?_⟩
 · cases hl:(Ms R L).getD j false with
   | false=>rfl
   | true =>
     rcases Mx.2.1 hl with h5 | h5
     · rw [h4] at h5;cases h5
     exact absurd h5.1 hR
 rcases (h.iff _).1 (h2 e he hb) with h5 | ⟨x,h5,h6⟩
 · exact .inl h5
 rw [←h6]
 refine .inr ⟨?_,(vJ.1 (h.un x h5)).1⟩
 rcases hr.sub x.j (hs x h5) with h7 | h7
 · exact absurd h7 (hn x h5)
 exact h7
theorem Vr:∀ {xs ys:List Nat},xs.Nodup→(∀ x∈xs,x∈ys)→xs.length≤ys.length
 | [],_,_,_=>aU _
 | x :: xs,ys,hn,h=>by
   obtain ⟨h1,h2⟩:=kF.1 hn
   have hx:=h x (bP ..)
   have:=Vr (ys:=ys.erase x) h2 fun y hy=>(List.mem_erase_of_ne (fun e=>h1 (by rw [←e];exact hy))).2 (h y (bB _ hy))
   rw [List.length_erase_of_mem hx] at this
   have:0<ys.length:=List.length_pos_of_mem hx
   rw [bQ];omega
theorem PlanOk.cover:∀ {p:List (Nat×Pk)} {L:Array Bool} {Rc:List Nat},PlanOk l L Rc p→∀ k∈Rc,k∈p.map (·.1)
 | [],_,_,h,k,hk=>by rw [h.2] at hk;cases hk
 | (i,.look) :: p,_,_,h,k,hk=>bB _ (PlanOk.cover h.2 k hk)
 | (i,.only) :: p,_,_,h,k,hk=>by rw [h.1] at hk;cases hk
 | (i,.race R) :: p,_,_,h,k,hk=>by
   rcases h.1.sub k hk with rfl | h2
   · exact bP ..
   · exact bB _ (PlanOk.cover h.2.2 k h2)
 | (i,.make R) :: p,_,_,h,k,hk=>by
   rcases h.1.sub k hk with rfl | h2
   · exact bP ..
   exact bB _ (PlanOk.cover h.2.2 k h2)
abbrev rZ:=@PlanOk.cover
theorem My {p:List (Nat×Pk)} {Rc:List Nat} (hp:PlanOk l L Rc p) (hs:∀ e∈S,e.j∈Rc) (hn:(S.map (·.j)).Nodup):S.length≤p.length:=by
 have:=Vr hn (ys:=p.map (·.1)) fun x hx=>by
  obtain ⟨e,he,rfl⟩:=dY.1 hx
  exact hp.cover _ (hs e he)
 simpa using this
end lists
section
variable {l:List Oper} {ρ ρ':Pl} {h h':Tr CB} {nx nx' n:Nat} {a a':Act} {w w' ws:World} {e:Early} {E:Tr CV} {w0:Bas Φ}
theorem Ce {o:Oper} (h:Ml o=true):(∀ cs b,o.op≠.select cs b)∧Av o.op=false∧o.guard=none∧(∃ xs,WJ o.op=some xs)∧JY o.op=true∧∀ d,o.dst=some d→∀ x∈o.op.operands,x≠.tmp d:=by
 unfold Ml at h
 rw [aC] at h
 obtain ⟨h1,h2⟩:=h
 have hg:o.guard=none:=by
  split at h2
  · assumption
  cases h2
 have hd:∀ d,o.dst=some d→∀ x∈o.op.operands,x≠.tmp d:=fun d hd x hx hxd=>by
  rw [hg,hd] at h2
  simp only [eD] at h2
  have h3:EI (isT d) o.op.operands.toList=true:=Mj.2 ⟨x,by simpa using hx,by rw [hxd];show Nat.beq d d=true;simp⟩
  rw [h3] at h2;cases h2
 obtain ⟨dst,op,ty,pos,after,g⟩:=o
 refine ⟨fun cs b e=>?_,?_,hg,?_,h1,hd⟩
 · have e':op=.select cs b:=e
   subst e';cases h1
 · cases op <;> first | rfl | cases h1
 cases op <;> first | exact ⟨_,rfl⟩ | skip
 case makeMap T x=>cases x <;> first | exact ⟨_,rfl⟩ | cases h1
 all_goals cases h1
theorem Pz {dst:Option Nat} (hk:Kept dst a a') {x:Operand} (hx:∀ d,dst=some d→x≠.tmp d):a'.eval x=a.eval x:=by
 cases x with
 | tmp t =>
   show a'.tmps.getD t undef=a.tmps.getD t undef
   rw [fN,fN,hk t (fun e=>hx t e rfl)]
 | _=>rfl
theorem EOk.keep (he:EOk P l ρ h a w ws e) {o:Oper} (hk:Kept o.dst a a') (hap:∀ oj,l[e.j]?=some oj→oj.apart l.toArray o=true) (hfr:Oc ρ h nx w ρ' h' w'):EOk P l ρ' h' a' w' ws e:=by
 obtain ⟨⟨oj,d,h1,h2,h3,h4,h5⟩,g1,g2,g3,g4⟩:=he
 obtain ⟨q1,q2,q3⟩:=Oper.apart_spec (hap oj h1)
 refine ⟨⟨oj,d,h1,h2,h3,?_,fun w2=>?_⟩,bS g1 hfr.sz,(hfr.fr _ g1 g4 id).trans g2,g3,fun t b ht e2=>?_⟩
 · rw [hk d (fun e2=>q2 d h3 e2)];exact h4
 · rw [←h5 w2,execOp_congr oj (Ce h2).1 fun x hx=>Pz hk fun d' hd hxd=>?_]
   subst hxd
   exact q3 d' hd (iH _ (List.mem_filterMap.2 ⟨.tmp d',by simpa using hx,rfl⟩))
 rcases hfr.nw t b ht with h6 | ⟨t',b',h6,h7⟩
 · omega
 exact g4 t' b' h6 (h7.trans e2)
theorem Vs (hs:Slots ρ E nx n a) {d:Nat} (hd:E.get d=none) (v:Value):Slots ρ E nx n (a.put (some d) v):=by
 refine ⟨by show (a.tmps.setIfInBounds d v).size=n;simp [hs.1],fun i x hx=>?_⟩
 obtain ⟨u,h1,h2⟩:=hs.2 i x hx
 refine ⟨u,?_,h2⟩
 show (a.tmps.setIfInBounds d v)[i]?=some u
 rw [gW (fun e=>by subst e;rw [hd] at hx;cases hx)];exact h1
theorem Qa {R:List Nat} (hR:∀ j∈R,∀ d,zR l j=some d→d<tE):∀ i x,(tV l R E).get i=some x→E.get i=some x:=by
 induction R with
 | nil=>exact fun i x h=>h
 | cons j R ih =>
   intro i x hx
   have hx':(match zR l j with | some d=>(tV l R E).set none tE d | none=>tV l R E).get i=some x:=hx
   have ih':=ih fun k hk=>hR k (bB _ hk)
   split at hx'
   · rename_i d hd
     rw [eP _ _ _ _ _ (hR j (bP ..) d hd)] at hx'
     split at hx'
     · cases hx'
     exact ih' i x hx'
   exact ih' i x hx'
theorem Mz {R:List Nat} (hR:∀ j∈R,∀ d,zR l j=some d→d<tE) {j d:Nat} (hj:j∈R) (hd:zR l j=some d):(tV l R E).get d=none:=by
 induction R with
 | nil=>cases hj
 | cons k R ih =>
   show (match zR l k with | some d=>(tV l R E).set none tE d | none=>tV l R E).get d=none
   have hR':∀ j∈R,∀ d,zR l j=some d→d<tE:=fun k hk=>hR k (bB _ hk)
   rcases dF.1 hj with rfl | hj
   · rw [hd]
     simp only
     rw [eP _ _ _ _ _ (hR _ (bP ..) d hd),aR rfl]
   have:=ih hR' hj
   split
   · rename_i d' hd'
     rw [eP _ _ _ _ _ (hR k (bP ..) d' hd')]
     split
     · rfl
     exact this
   exact this
theorem Rel.less {E':Tr CV} (hR:Rel ρ w0 n E h nx a w) (hE:∀ i x,E'.get i=some x→E.get i=some x):Rel ρ w0 n E' h nx a w:=by
 obtain ⟨os,hR⟩:=hR
 exact ⟨os,⟨hR.slots.1,fun i x hx=>hR.slots.2 i x (hE i x hx)⟩,hR.defers,hR.mem,hR.mks,hR.ss⟩
end
theorem Ie {l:List Oper} {Lm:Array Bool} {ρ ρ':Pl} {w w':World} {nx nx':Nat} {pend pend':List (Nat×Nat×Nat)} {cs:List (Nat×Nat×Obj)} {i:Nat} (hp:PendOk l Lm ρ w nx pend cs) (hn:nx≤nx') (he:Ext nx ρ ρ') (hw:∀ (b:Nat) (o:Obj),w.heap[b]?=some o→w'.heap[b]?=some o)
 (hpe:∀ t k b,(t,k,b)∈pend→(t,k,b)∈pend'∨(EN l k i∧(Lm.setIfInBounds i true).getD i false=true)):PendOk l (Lm.setIfInBounds i true) ρ' w' nx' pend' cs:=fun x hx=>by
 rcases hp x hx with ⟨k,h1,h2⟩ | ⟨t,b,h1,h2,h3,h4,h5⟩
 · exact .inl ⟨k,h1,pQ h2⟩
 rcases hpe _ _ _ h1 with h6 | h6
 · exact .inr ⟨t,b,h6,bS h2 hn,by rw [he t h2];exact h3,aO h4 hn,hw _ _ h5⟩
 exact .inl ⟨i,h6.1,h6.2⟩
theorem Yh {A:Array Bool} {i:Nat} (h:A.getD i true=false):(A.setIfInBounds i true).getD i false=true:=by
 have:=(vJ.1 h).1
 simp [this]
theorem alloc_old {w:World} {o:Obj}:∀ (b:Nat) (x:Obj),w.heap[b]?=some x→(w.alloc o).heap[b]?=some x:=fun b x h=>by
 rw [(uV w o).same b (cG.1 h).1 id];exact h
theorem AY {l:List Oper} {R Rc:List Nat} {n i nx pl:Nat} {E:Tr CV} {h:Tr CB} {pend:List (Nat×Nat×Nat)} {ρ ρs:Pl} {w0:Bas Φ} {ws:World} {hs:Tr CB} {Je:Nat} {L:Array Bool} {cs:List (Nat×Nat×Obj)} {K:Act→World→Prop}
 (hf:nx≤tE) (hn:n≤100000) (hro:RaceOk l L Rc i R) (hkill:∀ j∈R,∀ d,zR l j=some d→E.get d=none) (hrq:yJ P l R n E h nx=true) (hcov:∀ (S:List Early),(∀ e∈S,e.j∈Rc∨e.j∈R)→(∀ e∈S,e.j≠i)→(S.map (·.j)).Nodup→S.length≤pl)
 (go:∀ (a:Act) (w:World) (Lm:Array Bool) (S:List Early) (f:Nat),RI P l n E h nx pend ρ ρs w0 a w ws hs Je L Lm (Rc++R) S cs→(∀ e∈S,e.j≠i)→pl=f+S.length→i∈Region.ready .any l.toArray Lm→stp P l.toArray i (gm P l.toArray K (CP l cs) f (Lm.setIfInBounds i true)) a w) :
 ∀ (f:Nat) (a:Act) (w:World) (Lm:Array Bool) (S:List Early),RI P l n E h nx pend ρ ρs w0 a w ws hs Je L Lm (Rc++R) S cs→(∀ e∈S,e.j≠i)→pl+1=f+S.length→gm P l.toArray K (CP l cs) f Lm a w:=by
 intro f
 induction f with
 | zero =>
   intro a w Lm S hI hni hl
   have:=hcov S (fun e he=>fI.1 (hI.sub e he)) hni hI.ndj
   omega
 | succ f ih =>
   intro a w Lm S hI hni hl
   have hir:=hI.lr.up hro.rd hni
   have hsub:∀ e∈S,e.j=i∨e.j∈R:=fun e he=>by
    rcases fI.1 (hI.sub e he) with h1 | h1
    · exact hro.sub _ h1
    exact .inr h1
   refine ⟨hI.pend.cp,fun he=>(by rw [he] at hir;cases hir),fun j hj=>?_⟩
   have hro':RaceOk l L (Rc++R) i R:=⟨hro.rd,fun k hk=>(fI.1 hk).elim (hro.sub k) .inr,hro.ni,hro.mks,hro.only⟩
   rcases Yg hI.lr hro' hI.sub hni hj with rfl | hjR
   · exact go a w Lm S f hI hni sV hj
   obtain ⟨oj,e1,e2,e3,e4,e5⟩:=hro.mks j hjR
   have e1':l.toArray[j]?=some oj:=by simpa using e1
   obtain ⟨s1,s2,s3,⟨xs,s4⟩,_,s6⟩:=Ce e2
   have hq:=vU.1 hrq j hjR
   obtain ⟨oj',e6,e7⟩:=As hq
   rw [e1] at e6;cases e6
   rw [aC] at e7
   obtain ⟨e7,e8⟩:=e7
   obtain ⟨dst,op,ty,pos,after,g⟩:=oj
   cases dst with
   | none=>cases e7
   | some d =>
     have hdn:d<n:=tL e7
     have hEd:E.get d=none:=hkill j hjR d (by rw [Aj,e1];rfl)
     split at e8
     · rename_i c h' nx' hw
       obtain ⟨b,s,o,V,_,_,_,_,_,_,hex⟩:=KI hI.rel.slots s4 hw
       obtain ⟨m1,o1⟩:=hI.rel.mem.grow (uV w o)
       have hji:j≠i:=fun e=>hro.ni (by rw [←e];exact hjR)
       have hjun:=(eZ.1 hj).1
       have hjS:=(hI.lr.unl hjun).2
       have hstp:∀ Q:Act→World→Prop,Q (a.put (some d) (V w.heap.size)) (w.alloc o)→stp P l.toArray j Q a w:=fun Q hQ=>by
        unfold stp
        simp only [e1']
        have hg:g=none:=s3
        subst hg
        simp only [Region.wanted,eR]
        unfold xN
        rw [hex w (some d) ty pos after none]
        exact hQ
       refine hstp _ (ih (a.put (some d) (V w.heap.size)) (w.alloc o) (Lm.setIfInBounds j true) (⟨j,w.heap.size,o,V⟩ :: S) ?_ ?_ (by rw [bQ];omega))
       · refine ⟨?_,hI.lr.early hjun,Ad hI.down hj,?_,?_,?_,?_,?_,hI.ms,hI.nxb.trans hI.ms ⟨aG _,hf,dH _ _,o1⟩⟩
         · obtain ⟨os,hR⟩:=hI.rel
           obtain ⟨m2,_⟩:=hR.mem.grow (uV w o)
           exact ⟨os,Vs hR.slots hEd _,(zH _ _ _).trans hR.defers,m2,hR.mks,aO hR.ss o1.sz⟩
         · intro e he
           rcases dF.1 he with rfl | he
           · exact jD _ hjR
           exact hI.sub e he
         · rw [bY]
           exact kF.2 ⟨fun h=>by obtain ⟨e,he,h⟩:=dY.1 h;exact hjS e he h,hI.ndj⟩
         · rw [bY]
           refine kF.2 ⟨fun h=>?_,hI.ndp⟩
           obtain ⟨e,he,h⟩:=dY.1 h
           have:=(hI.eok e he).lt
           simp only at h
           omega
         · intro e he
           rcases dF.1 he with rfl | he
           · refine ⟨⟨_,d,e1,e2,rfl,?_,fun w2=>?_⟩,?_,uA w o,aO hI.nxb.old.sz (aG _),fun t b ht=>?_⟩
             · have hsz:d<a.tmps.size:=by rw [hI.rel.slots.1];exact hdn
               show (a.tmps.setIfInBounds d _)[d]?=_
               simp [hsz]
             · rw [←hex w2 (some d) ty pos after g]
               rw [execOp_congr (ρ:=(a.put (some d) (V w.heap.size)).eval) (ρ':=a.eval) _ s1 fun x hx=>Pz (oX a (some d) _) fun d' hd' hxd=>s6 d' hd' x hx hxd]
             · show w.heap.size<_;rw [vA];omega
             have:=hI.rel.mem.lt ht
             show (ρ t).1≠w.heap.size
             omega
           refine (hI.eok e he).keep (o:=⟨some d,op,ty,pos,after,g⟩) (oX _ _ _) (fun ok hok=>?_) o1
           obtain ⟨ok',f1,f2,f3,f4,f5⟩:=hro.mks e.j ((hsub e he).resolve_left (hni e he))
           rw [hok] at f1;cases f1
           exact f5 j hjR (fun e2=>hjS e he e2.symm) _ e1
         exact Ie hI.pend (aG _) (dH _ _) alloc_old fun t k b h=>.inl h
       intro e he
       rcases dF.1 he with rfl | he
       · exact hji
       exact hni e he
     cases e8
theorem Qb {l:List Oper} {R:List Nat} {n nx:Nat} {E:Tr CV} {h:Tr CB} (hn:n≤100000) (hrq:yJ P l R n E h nx=true):∀ j∈R,∀ d,zR l j=some d→d<tE:=fun j hj d hd=>by
 obtain ⟨o,h1,h2⟩:=As (vU.1 hrq j hj)
 rw [Aj,h1] at hd
 have hd':o.dst=some d:=hd
 rw [aC,hd'] at h2
 have h3:d+1≤n:=tL h2.1
 rw [Mh];omega
theorem Vt {ih:Cmd→Res} (H:∀ c,tA P Φ c (ih c)) (l:List Oper) (i:Nat) (plan:List (Nat×Pk)) (pend:List (Nat×Nat×Nat)) (n:Nat) (E:Tr CV) (h:Tr CB) (nx:Nat):tA P Φ (.reg l ((i,.look) :: plan) pend n E h nx) (step P pr ih (.reg l ((i,.look) :: plan) pend n E h nx)):=by
 show tA P Φ _ (match Ed l i with
  | some o=>(match PR l E o with
    | some g=>(bif g then (match qv P E h o.op with
     | some c=>(match xU E n o.dst c with
       | some E'=>ih (.reg l plan (match JS E o.op with | some t=>(t,i,nx) :: pend | none=>pend) n E' h nx)
       | none=>.bad 25 [o])
     | none=>.bad 26 [o])
     else (match xU E n o.dst (.tup .nil) with | some E=>ih (.reg l plan pend n E h nx) | none=>.bad 27 [o]))
    | none=>.bad 30 [o])
  | none=>.bad 31 [])
 split
 · rename_i o ho
   rw [xA] at ho
   have ho':l.toArray[i]?=some o:=by simpa using ho
   split
   · rename_i g hg
     -- what an operation that only looks comes to
     have first:∀ {E':Tr CV} {pend':List (Nat×Nat×Nat)} (cs':Pl→World→List (Nat×Nat×Obj)→List (Nat×Nat×Obj)),
      (∀ (ρ:Pl) (w0:Bas Φ) (a:Act) (w:World) (cs:List (Nat×Nat×Obj)),Rel ρ w0 n E h nx a w→n≤100000→∃ (v:Value) (Cq:World→Prop),yl P l.toArray o a Cq v∧Slots ρ E' nx n (a.put o.dst v)∧
       (∀ L w',(∀ j,EN l i j→L.getD j false=false)→CP l (cs' ρ w cs) L w'→Cq w')∧(∀ L w',CP l (cs' ρ w cs) L w'→CP l cs L w')∧(∀ L,PendOk l L ρ w nx pend cs→PendOk l L ρ w nx pend' (cs' ρ w cs)))→
      tA P Φ (.reg l ((i,.look) :: plan) pend n E h nx) (ih (.reg l plan pend' n E' h nx)):=fun {E' pend'} cs' hlook=>by
      have H2:=H (.reg l plan pend' n E' h nx)
      generalize ih (.reg l plan pend' n E' h nx)=q2 at H2
      cases q2 with
      | bad=>trivial
      | ret v h2 nx2=>exact H2.elim
      | ok x2 E2 h2 nx2 =>
        obtain ⟨rfl,H2⟩:=H2
        refine ⟨rfl,fun ρ ρs w0 a w ws hs Je L Lm Rc S cs f hI hf hn hns hpl hlen K hK=>?_⟩
        obtain ⟨⟨o',ho2,hlk,hrd,hfree⟩,hpl2⟩:=hpl
        rw [ho] at ho2;cases ho2
        obtain ⟨v,Cq,hy,hsl,hc1,hc2,hc3⟩:=hlook ρ w0 a w cs hI.rel hn
        have hle:=My hpl2 hI.sub hI.ndj
        rw [bQ] at hlen
        obtain ⟨f,rfl⟩:∃ f',f=f'+1:=⟨f - 1,by omega⟩
        have hSi:∀ e∈S,e.j≠i:=fun e he hei=>by
         obtain ⟨oj,d,h1,h2,_⟩:=(hI.eok e he).ex
         rw [hei,ho] at h1;cases h1
         rw [(Ce h2).2.1] at hlk;cases hlk
        have hrdm:=hI.lr.up hrd hSi
        refine Px hc2 _ _ _ _ ?_
        have hdn2:=Ad hI.down hrdm
        have hset:∀ L w',CP l (cs' ρ w cs) (L.setIfInBounds i true) w'→CP l (cs' ρ w cs) L w':=fun L w' hcp x hx hw=>hcp x hx fun j hj=>by
         have hne:i≠j:=fun e=>by
          subst e
          obtain ⟨o2,h1,h2,_⟩:=hj
          rw [ho] at h1;cases h1
          rw [hlk] at h2;cases h2
         rw [iF false hne];exact hw j hj
        have hnoi:∀ e∈S,∀ oj,l[e.j]?=some oj→o.apart l.toArray oj=true:=fun e he oj hoj=>by
         refine hfree e.j oj (by simpa using hoj) (hSi e he) (hI.lr.un e he) fun x hx hb hxi=>?_
         have h1:=hI.down e.j oj hoj ((hI.lr.iff e.j).2 (.inr ⟨e,he,rfl⟩)) x hx hb
         rw [hxi] at h1
         rw [(vJ.1 (eZ.1 hrdm).1).2] at h1;cases h1
        have hg2:gm P l.toArray K (CP l (cs' ρ w cs)) f (Lm.setIfInBounds i true) (a.put o.dst v) w:=by
         refine H2 ρ ρs w0 (a.put o.dst v) w ws hs Je _ _ Rc S _ f ⟨hI.rel.put hsl,hI.lr.set (vJ.1 (eZ.1 hrd).1).1 hSi,hdn2,hI.sub,hI.ndj,hI.ndp,fun e he=>?_,?_,hI.ms,hI.nxb⟩ hf hn hns hpl2 sV K hK
         · refine (hI.eok e he).keep (nx:=nx) (o:=o) (oX a o.dst v) (fun oj hoj=>?_) gB
           obtain ⟨q1,q2,q3⟩:=Oper.apart_spec (hnoi e he oj hoj)
           unfold Oper.apart
           rw [aC]
           constructor
           · cases hd:oj.dst with
             | none=>rfl
             | some d =>
               simp only [aC,eD,bne_iff_ne]
               refine ⟨?_,fun e2=>q2 d e2 hd⟩
               have:=q3 d hd
               simpa using this
           cases hd:o.dst with
           | none=>rfl
           | some d =>
             have:=q1 d hd
             simpa using this
         intro x hx
         rcases hc3 Lm hI.pend x hx with ⟨j,h1,h2⟩ | h1
         · exact .inl ⟨j,h1,pQ h2⟩
         exact .inr h1
        refine Sy (Wr:=(List.range l.length).filter fun j=>match l[j]? with | some oj=>!Av oj.op && Mk oj i | none=>false) (Cq:=Cq) ho' hns ?_ hset ?_ f Lm a w (fun j oj hj hne hun hno=>hfree j oj hj hne (hI.lr.unl hun).1 hno) ?_ hrdm hy hg2
        · intro L' w' hL hcp
          refine hc1 L' w' (fun j hj=>hL j ?_) hcp
          obtain ⟨o2,h1,h2,h3⟩:=hj
          refine gV.2 ⟨qQ.2 (aS.1 h1).1,?_⟩
          simp [h1,h2,h3]
        · intro j hj oj hoj
          obtain ⟨_,h2⟩:=gV.1 hj
          have h1:l[j]?=some oj:=by simpa using hoj
          simp only [h1,aC] at h2
          exact Mr.1 h2.2
        intro j hj
        obtain ⟨h1,h2⟩:=gV.1 hj
        have hlt:=qQ.1 h1
        rw [aB hlt] at h2
        simp only [aC,eD] at h2
        exact Vq hI.down hrdm ⟨_,aB hlt,h2.1,h2.2⟩
     cases g with
     | false =>
       simp only [mD]
       split
       · rename_i E' hp
         refine first (fun _ _ cs=>cs) fun ρ w0 a w cs hR hn=>⟨undef,fun _=>True,.inr ⟨Vp hR.slots hg,rfl⟩,vY hR.slots hn hp Mu,fun _ _ _ _=>trivial,fun _ _ h=>h,fun _ h=>h⟩
       · trivial
     | true =>
       simp only [gE]
       split
       · rename_i c hq
         split
         · rename_i E' hp
           cases hrd:JS E o.op with
           | none =>
             refine first (fun _ _ cs=>cs) fun ρ w0 a w cs hR hn=>?_
             obtain ⟨v,k1,k2⟩:=AQ (ob:=fun _=>default) hR.slots (fun t b ht _=>by rw [hrd] at ht;cases ht) hq
             exact ⟨v,fun _=>True,.inl ⟨Vp hR.slots hg,fun w' _=>k2 w' (fun t ht=>by rw [hrd] at ht;cases ht) o.dst o.type o.pos o.after o.guard⟩,vY hR.slots hn hp k1,fun _ _ _ _=>trivial,fun _ _ h=>h,fun _ h=>h⟩
           | some t =>
             refine first (fun ρ w cs=>(i,(ρ t).1,(w.heap[(ρ t).1]?).getD default) :: cs) fun ρ w0 a w cs hR hn=>?_
             obtain ⟨b,hb⟩:=Yf hrd hq
             obtain ⟨htn,_,_,ob,hob,hdb⟩:=hR.mem.own t b hb
             have hget:(w.heap[(ρ t).1]?).getD default=ob:=by rw [hob];rfl
             obtain ⟨v,k1,k2⟩:=AQ (ob:=fun _=>ob) hR.slots (fun t' b' ht hb'=>by rw [hrd] at ht;cases ht;rw [hb] at hb';cases hb';exact hdb) hq
             refine ⟨v,fun w'=>w'.heap[(ρ t).1]?=some ob,.inl ⟨Vp hR.slots hg,fun w' hw'=>k2 w' (fun t' ht=>by rw [hrd] at ht;cases ht;exact hw') o.dst o.type o.pos o.after o.guard⟩,vY hR.slots hn hp k1,?_,?_,?_⟩
             · intro L w' hL hcp
               have:=hcp _ bP hL
               rw [this,hget]
             · intro L w' hcp x hx;exact hcp x (bB _ hx)
             intro L hpo x hx
             rcases dF.1 hx with rfl | hx
             · exact .inr ⟨t,nx,bP,htn,rfl,aG _,by rw [hget];exact hob⟩
             rcases hpo x hx with h1 | ⟨t',b',h1,h2⟩
             · exact .inl h1
             exact .inr ⟨t',b',bB _ h1,h2⟩
         trivial
       trivial
   trivial
 trivial
theorem Qc {l:List Oper} {Lm:Array Bool} {ρ ρ':Pl} {h h':Tr CB} {nx nx':Nat} {w w':World} {pend:List (Nat×Nat×Nat)} {cs:List (Nat×Nat×Obj)} {j:Nat} {o:Oper} (ho:l[j]?=some o) (hrd:Lm.getD j true=false) (hpo:PendOk l Lm ρ w nx pend cs)
 (e1:Nx ρ h nx w ρ' h' nx' w') (hkp:xL h' (tO o pend)=true):PendOk l (Lm.setIfInBounds j true) ρ' w' nx' (tO o pend) cs:=by
 intro x hx
 rcases hpo x hx with ⟨k,h1,h2⟩ | ⟨t',b',h1,h2,h3,h4,h5⟩
 · exact .inl ⟨k,h1,pQ h2⟩
 cases hE:(not (Av o.op) && Mk o x.1) with
 | false =>
   have hmem:=Py h1 hE
   have hk:=(vU.1 hkp) _ hmem
   simp only at hk
   split at hk
   · rename_i bb hbb
     have hst:Rr bb<b':=tL hk
     obtain ⟨_,g2⟩:=e1.old.old t' bb hbb sV
     exact .inr ⟨t',b',hmem,bS h2 e1.le,by rw [e1.ext t' h2];exact h3,aO h4 e1.le,by rw [←h3,g2,h3];exact h5⟩
   · cases hk
 | true =>
   rw [aC,eD] at hE
   exact .inl ⟨j,⟨o,ho,hE.1,hE.2⟩,Yh hrd⟩
theorem If {l:List Oper} {Lm:Array Bool} {pend:List (Nat×Nat×Nat)} {j:Nat} {o:Oper} (ho:l[j]?=some o) (hl:Lm.getD j false=true):∀ t k b,(t,k,b)∈pend→(t,k,b)∈tO o pend∨(EN l k j∧Lm.getD j false=true):=fun t k b hm=>by
 cases hE:(not (Av o.op) && Mk o k) with
 | false=>exact .inl (Py hm hE)
 | true =>
   rw [aC,eD] at hE
   exact .inr ⟨⟨o,ho,hE.1,hE.2⟩,hl⟩
theorem Vu {ih:Cmd→Res} (H:∀ c,tA P Φ c (ih c)) (l:List Oper) (i:Nat) (plan:List (Nat×Pk)) (pend:List (Nat×Nat×Nat)) (n:Nat) (E:Tr CV) (h:Tr CB) (nx:Nat):tA P Φ (.reg l ((i,.only) :: plan) pend n E h nx) (step P pr ih (.reg l ((i,.only) :: plan) pend n E h nx)):=by
 show tA P Φ _ (match Ed l i with
  | some o=>(match PR l E o with
    | some g=>(bif g then (match ih (.one o n E h nx) with
     | .ok _ E h nx=>bif xL h (tO o pend) then ih (.reg l plan (tO o pend) n E h nx) else .bad 28 [o]
     | r=>r)
     else (match xU E n o.dst (.tup .nil) with | some E=>ih (.reg l plan (tO o pend) n E h nx) | none=>.bad 29 [o]))
    | none=>.bad 30 [o])
  | none=>.bad 31 [])
 split
 · rename_i o ho
   rw [xA] at ho
   have ho':l.toArray[i]?=some o:=by simpa using ho
   split
   · rename_i g hg
     cases g with
     | false =>
       simp only [mD]
       split
       · rename_i E' hp
         have H2:=H (.reg l plan (tO o pend) n E' h nx)
         generalize ih (.reg l plan (tO o pend) n E' h nx)=q2 at H2
         cases q2 with
         | bad=>trivial
         | ret v h2 nx2=>exact H2.elim
         | ok x2 E2 h2 nx2 =>
           obtain ⟨rfl,H2⟩:=H2
           refine ⟨rfl,fun ρ ρs w0 a w ws hs Je L Lm Rc S cs f hI hf hn hns hpl hlen K hK=>?_⟩
           obtain ⟨rfl,⟨o',ho2,hrd,honly⟩,hpl2⟩:=hpl
           have hS:S=[]:=hZ.2 fun e he=>by cases hI.sub e he
           subst hS
           have hrdm:=hI.lr.up hrd (fun e he=>by cases he)
           rw [bQ] at hlen
           obtain ⟨f,rfl⟩:∃ f',f=f'+1:=⟨f - 1,by simp only [cT] at hlen;omega⟩
           refine ⟨hI.pend.cp,fun he=>(by rw [he] at hrdm;cases hrdm),fun j hj=>?_⟩
           have e:=honly j (hI.lr.nil hj)
           subst e
           unfold stp
           simp only [ho']
           rw [Vp hI.rel.slots hg]
           simp only [mJ,eS]
           have hjun:=(eZ.1 hj).1
           refine H2 ρ ρs w0 _ w ws hs Je _ _ [] [] cs f ⟨hI.rel.put (vY hI.rel.slots hn hp Mu),hI.lr.set (vJ.1 (eZ.1 hrd).1).1 (fun e he=>by cases he),Ad hI.down hj,(fun e he=>by cases he),lC,lC,(fun e he=>by cases he),?_,hI.ms,hI.nxb⟩ hf hn hns hpl2 (by simpa using hlen) K hK
           exact Ie hI.pend (aG _) (dH _ _) (fun b x h=>h) (If (Lm:=Lm.setIfInBounds j true) ho (Yh hjun))
       · trivial
     | true =>
       simp only [gE]
       have H1:=H (.one o n E h nx)
       generalize ih (.one o n E h nx)=q1 at H1
       cases q1 with
       | bad=>trivial
       | ret v h' nx'=>exact H1.elim
       | ok x E' h' nx' =>
         obtain ⟨rfl,H1⟩:=H1
         show tA P Φ _ (bif xL h' (tO o pend) then ih (.reg l plan (tO o pend) n E' h' nx') else .bad 28 [o])
         cases hkp:xL h' (tO o pend) with
         | false=>trivial
         | true =>
           simp only [gE]
           have H2:=H (.reg l plan (tO o pend) n E' h' nx')
           generalize ih (.reg l plan (tO o pend) n E' h' nx')=q2 at H2
           cases q2 with
           | bad=>trivial
           | ret v h2 nx2=>exact H2.elim
           | ok x2 E2 h2 nx2 =>
             obtain ⟨rfl,H2⟩:=H2
             refine ⟨rfl,fun ρ ρs w0 a w ws hs Je L Lm Rc S cs f hI hf hn hns hpl hlen K hK=>?_⟩
             obtain ⟨rfl,⟨o',ho2,hrd,honly⟩,hpl2⟩:=hpl
             have hS:S=[]:=hZ.2 fun e he=>by cases hI.sub e he
             subst hS
             have hrdm:=hI.lr.up hrd (fun e he=>by cases he)
             rw [bQ] at hlen
             obtain ⟨f,rfl⟩:∃ f',f=f'+1:=⟨f - 1,by simp only [cT] at hlen;omega⟩
             refine ⟨hI.pend.cp,fun he=>(by rw [he] at hrdm;cases hrdm),fun j hj=>?_⟩
             have e:=honly j (hI.lr.nil hj)
             subst e
             unfold stp
             simp only [ho']
             rw [Vp hI.rel.slots hg]
             simp only [eR]
             refine H1 ρ w0 a w hI.rel hf hn _ fun ρ' a' w' e1 e2 _=>?_
             exact H2 ρ' ρs w0 a' w' ws hs Je _ _ [] [] cs f ⟨e2,hI.lr.set (vJ.1 (eZ.1 hrd).1).1 (fun e he=>by cases he),Ad hI.down hj,(fun e he=>by cases he),lC,lC,(fun e he=>by cases he),Qc ho (eZ.1 hj).1 hI.pend e1 hkp,hI.ms,hI.nxb.trans hI.ms e1⟩ e1.fit hn hns hpl2 (by simpa using hlen) K hK
   trivial
 trivial
theorem Na {A B:List Early} {e:Early} (g:Early→Nat) (h:((A++e :: B).map g).Nodup):((A++B).map g).Nodup∧∀ x∈A++B,g x≠g e:=by
 rw [qH,bY] at h
 obtain ⟨h1,h2,h3⟩:=pI.1 h
 obtain ⟨h4,h5⟩:=kF.1 h2
 refine ⟨by rw [qH];exact pI.2 ⟨h1,h5,fun a ha b hb=>h3 a ha b (bB _ hb)⟩,fun x hx=>?_⟩
 rcases fI.1 hx with h6 | h6
 · exact h3 _ (dY.2 ⟨x,h6,rfl⟩) _ (bP ..)
 exact fun e2=>h4 (dY.2 ⟨x,h6,e2⟩)
theorem Vv {ih:Cmd→Res} (H:∀ c,tA P Φ c (ih c)) (l:List Oper) (i:Nat) (R:List Nat) (plan:List (Nat×Pk)) (pend:List (Nat×Nat×Nat)) (n:Nat) (E:Tr CV) (h:Tr CB) (nx:Nat):tA P Φ (.reg l ((i,.race R) :: plan) pend n E h nx) (step P pr ih (.reg l ((i,.race R) :: plan) pend n E h nx)):=by
 show tA P Φ _ (match Ed l i with
  | some o=>bif yJ P l R n (tV l R E) h nx then (match ih (.one o n (tV l R E) h nx) with
   | .ok _ E h nx=>bif xL h (tO o pend) then ih (.reg l plan (tO o pend) n E h nx) else .bad 28 [o]
   | r=>r) else .bad 32 [o]
  | none=>.bad 31 [])
 split
 · rename_i o ho
   rw [xA] at ho
   have ho':l.toArray[i]?=some o:=by simpa using ho
   refine tD (tA P Φ _) (fun hrq=>?_) fun _=>trivial
   have H1:=H (.one o n (tV l R E) h nx)
   generalize ih (.one o n (tV l R E) h nx)=q1 at H1
   cases q1 with
   | bad=>trivial
   | ret v h' nx'=>exact H1.elim
   | ok x E' h' nx' =>
     obtain ⟨rfl,H1⟩:=H1
     show tA P Φ _ (bif xL h' (tO o pend) then ih (.reg l plan (tO o pend) n E' h' nx') else .bad 28 [o])
     refine tD (tA P Φ _) (fun hkp=>?_) fun _=>trivial
     have H2:=H (.reg l plan (tO o pend) n E' h' nx')
     generalize ih (.reg l plan (tO o pend) n E' h' nx')=q2 at H2
     cases q2 with
     | bad=>trivial
     | ret v h2 nx2=>exact H2.elim
     | ok x2 E2 h2 nx2 =>
       obtain ⟨rfl,H2⟩:=H2
       refine ⟨rfl,fun ρ ρs w0 a w ws hs Je L Lm Rc S cs f hI hf hn hns hpl hlen K hK=>?_⟩
       obtain ⟨hro,⟨o',ho2,hgd,hnm⟩,hpl2⟩:=hpl
       rw [ho] at ho2;cases ho2
       have hlt:=Qb hn hrq
       have hSi:∀ e∈S,e.j≠i:=fun e he hei=>by
        obtain ⟨oj,d,h1,h2,_⟩:=(hI.eok e he).ex
        rw [hei,ho] at h1;cases h1
        rw [(Ce h2).2.2.2.2.1] at hnm;cases hnm
       refine AY (E:=tV l R E) (pl:=plan.length) hf hn hro (fun j hj d hd=>Mz hlt hj hd) hrq ?_ ?_ f a w Lm S ⟨hI.rel.less (Qa hlt),hI.lr,hI.down,fun e he=>iH _ (hI.sub e he),hI.ndj,hI.ndp,hI.eok,hI.pend,hI.ms,hI.nxb⟩ hSi (by rw [←hlen,bQ])
       · intro S hs hni hnd
         exact My hpl2 (fun e he=>(hs e he).elim (fun h=>(hro.sub _ h).resolve_left (hni e he)) id) hnd
       intro a w Lm S f hI hSi hlen hir
       have hsR:∀ e∈S,e.j∈R:=fun e he=>(fI.1 (hI.sub e he)).elim (fun h=>(hro.sub _ h).resolve_left (hSi e he)) id
       unfold stp
       simp only [ho',Region.wanted,hgd,eR]
       refine H1 ρ w0 a w hI.rel hf hn _ fun ρ' a' w' e1 e2 e3=>?_
       refine H2 ρ' ρs w0 a' w' ws hs Je _ _ R S cs f ⟨e2,hI.lr.set (vJ.1 (eZ.1 hro.rd).1).1 hSi,Ad hI.down hir,hsR,hI.ndj,hI.ndp,fun e he=>?_,Qc ho (eZ.1 hir).1 hI.pend e1 hkp,hI.ms,hI.nxb.trans hI.ms e1⟩ e1.fit hn hns hpl2 hlen K hK
       refine (hI.eok e he).keep e3 (fun oj hoj=>?_) e1.old
       obtain ⟨ok',f1,f2,f3,f4,f5⟩:=hro.mks e.j (hsR e he)
       rw [hoj] at f1;cases f1
       exact f4 o ho
 trivial
theorem Sg {nx:Nat} {ρ:Pl} {s:Nat} {b:CB} {o:Obj} (h:DB nx ρ s b o):∀ x,o≠.deferred x:=fun x e=>by
 subst e
 cases b with
 | cells l ty op st=>obtain ⟨vs,junk,_,h2,_⟩:=h;cases h2
 | ro l ty st=>obtain ⟨vs,fz,_,h2⟩:=h;cases h2
 | mapI l st=>exact absurd (show Obj.deferred x=uF l from h) (by unfold uF;intro h;cases h)
 | mapK l st=>exact absurd (show Obj.deferred x=uF l from h) (by unfold uF;intro h;cases h)
 | it l pos st=>obtain ⟨bs,_,h2⟩:=h;cases h2
 | lp E n ps asg body q p st=>obtain ⟨q,h1,_⟩:=h;cases h1
theorem Mem.adopt {ρ:Pl} {w0:Bas Φ} {h:Tr CB} {nx:Nat} {w:World} (hm:Mem ρ w0 h nx w) (hf:nx<tE) {b:CB} {o:Obj} {s p:Nat} (hst:Rr b=nx) (hp:w0.w.heap.size≤p) (ho:w.heap[p]?=some o) (hun:∀ t b,h.get t=some b→(ρ t).1≠p) (hb:DB nx ρ s b o) :
 ∃ ρ',Ext nx ρ ρ'∧ρ' nx=(p,s)∧Mem ρ' w0 (h.set (some b) tE nx) (nx+1) w:=by
 have hext:Ext nx ρ (fun t=>if t=nx then (p,s) else ρ t):=fun t ht=>by simp [sA ht]
 have get:=fun j=>eP (some b) tE h nx j hf
 refine ⟨fun t=>if t=nx then (p,s) else ρ t,hext,by simp,⟨hm.upd,?_,?_,hm.imm,hm.nod,fun c hc=>?_⟩⟩
 · intro t b' ht
   rw [get] at ht
   by_cases e:t=nx
   · subst e
     rw [aR rfl] at ht
     cases ht
     simp only [eR]
     exact ⟨by omega,by omega,hp,o,ho,hb.up (dB _) hext⟩
   rw [aL e] at ht
   obtain ⟨h1,hs1,h2,o',h3,h4⟩:=hm.own t b' ht
   simp only [e,eS]
   exact ⟨by omega,by omega,h2,o',h3,h4.up (dB _) hext⟩
 · intro t t' b1 b2 h1 h2 he
   rw [get] at h1 h2
   by_cases e:t=nx <;> by_cases e':t'=nx
   · rw [e,e']
   · rw [aL e'] at h2
     simp only [e,e',eR,eS] at he
     exact absurd he.symm (hun _ _ h2)
   · rw [aL e] at h1
     simp only [e,e',eR,eS] at he
     exact absurd he (hun _ _ h1)
   rw [aL e] at h1
   rw [aL e'] at h2
   simp only [e,e',eS] at he
   exact hm.one t t' b1 b2 h1 h2 he
 obtain ⟨k1,k2,k3⟩:=hm.kept c hc
 refine ⟨k1,k2,fun t b' ht=>?_⟩
 rw [get] at ht
 by_cases e:t=nx
 · simp only [e,eR]
   intro e2
   rw [e2,k2] at ho
   cases ho
   exact Sg hb _ rfl
 rw [aL e] at ht
 simp only [e,eS]
 exact k3 t b' ht
theorem Nx.adopt {ρs ρ ρ':Pl} {hs h:Tr CB} {Je nx p s:Nat} {ws w:World} {b:CB} (hn:Nx ρs hs Je ws ρ h nx w) (hf:nx<tE) (hst:Rr b=nx) (he:Ext nx ρ ρ') (hp:ρ' nx=(p,s)) (hge:ws.heap.size≤p) (hlt:∀ t c,h.get t=some c→t<nx):Nx ρs hs Je ws ρ' (h.set (some b) tE nx) (nx+1) w:=by
 have get:=fun j=>eP (some b) tE h nx j hf
 refine ⟨sB hn.le,hf,hn.ext.trans he hn.le,⟨fun t c ht hst'=>?_,hn.old.fr,fun t c ht=>?_,hn.old.sz⟩⟩
 · rw [get] at ht
   by_cases e:t=nx
   · rw [aR e] at ht;cases ht
     have:=hn.le
     omega
   rw [aL e] at ht
   exact hn.old.old t c ht hst'
 rw [get] at ht
 by_cases e:t=nx
 · rw [e,hp];exact .inl hge
 rw [aL e] at ht
 rw [he t (hlt t c ht)]
 exact hn.old.nw t c ht
theorem Vw {ih:Cmd→Res} (H:∀ c,tA P Φ c (ih c)) (l:List Oper) (i:Nat) (R:List Nat) (plan:List (Nat×Pk)) (pend:List (Nat×Nat×Nat)) (n:Nat) (E:Tr CV) (h:Tr CB) (nx:Nat):tA P Φ (.reg l ((i,.make R) :: plan) pend n E h nx) (step P pr ih (.reg l ((i,.make R) :: plan) pend n E h nx)):=by
 show tA P Φ _ (match Ed l i with
  | some o=>bif yJ P l R n (tV l R E) h nx then (match wm P (tV l R E) h nx o.op with
   | .val c h nx=>(match xU (tV l R E) n o.dst c with | some E=>ih (.reg l plan (tO o pend) n E h nx) | none=>.bad 33 [o])
   | _=>.bad 34 [o]) else .bad 35 [o]
  | none=>.bad 31 [])
 split
 · rename_i o ho
   rw [xA] at ho
   have ho':l.toArray[i]?=some o:=by simpa using ho
   refine tD (tA P Φ _) (fun hrq=>?_) fun _=>trivial
   split
   · rename_i c h' nx' hw
     split
     · rename_i E' hp
       have H2:=H (.reg l plan (tO o pend) n E' h' nx')
       generalize ih (.reg l plan (tO o pend) n E' h' nx')=q2 at H2
       cases q2 with
       | bad=>trivial
       | ret v h2 nx2=>exact H2.elim
       | ok x2 E2 h2 nx2 =>
         obtain ⟨rfl,H2⟩:=H2
         refine ⟨rfl,fun ρ ρs w0 a w ws hs Je L Lm Rc S cs f hI hf hn hns hpl hlen K hK=>?_⟩
         obtain ⟨hro,⟨o',ho2,hmk⟩,hpl2⟩:=hpl
         rw [ho] at ho2;cases ho2
         obtain ⟨s1,s2,s3,⟨xs,s4⟩,_,s6⟩:=Ce hmk
         have hlt:=Qb hn hrq
         have hI':=hI.rel.less (Qa (E:=E) hlt)
         by_cases hin:∃ e∈S,e.j=i
         · -- it was run ahead
           obtain ⟨e,he,hei⟩:=hin
           obtain ⟨A,B,rfl⟩:=EP he
           obtain ⟨b,s,ob,V,rfl,rfl,hft,hstb,hdb,hkn,hex⟩:=KI hI'.slots s4 hw
           obtain ⟨⟨oj,d,h1,h2,h3,h4,h5⟩,g1,g2,g3,g4⟩:=hI.eok e he
           rw [hei,ho] at h1;cases h1
           obtain ⟨dst,op,ty,pos,after,g⟩:=o
           have hsame:∀ w2:World,e.V w2.heap.size=V w2.heap.size∧w2.alloc e.o=w2.alloc ob:=fun w2=>by
            have q1:=h5 w2
            rw [hex w2 dst ty pos after g] at q1
            simp only [Result.ok.injEq,Next.value.injEq] at q1
            exact ⟨q1.1.symm,q1.2.symm⟩
           have hV:∀ k:Nat,e.V k=V k:=fun k=>by
            have:=(hsame { w with heap:=Array.replicate k default }).1
            simpa using this
           have hob:e.o=ob:=by
            have h9:=(hsame w).2
            have h10:(w.alloc e.o).heap[w.heap.size]?=(w.alloc ob).heap[w.heap.size]?:=by rw [h9]
            rw [uA,uA] at h10
            exact lZ h10
           have hm:=hI.rel.mem
           obtain ⟨os,hR⟩:=hI'
           obtain ⟨ρ',x1,x2,m2⟩:=hR.mem.adopt (s:=s) (p:=e.p) (o:=ob) hft hstb (aO (show (w0.plus os).w.heap.size≤ws.heap.size from hI.ms.upd.size) g3) (by rw [←hob];exact g2) g4 hdb
           obtain ⟨nd1,nd2⟩:=Na (·.j) hI.ndj
           obtain ⟨nd3,nd4⟩:=Na (·.p) hI.ndp
           have hsub:∀ x∈A++B,x∈A++e :: B:=fun x hx=>(fI.1 hx).elim (fun h=>iH _ h) fun h=>jD _ (bB _ h)
           have hdn:∃ E1,E1=E'∧Slots ρ' E1 (nx+1) n a:=by
            have hd':dst=some d:=h3
            subst hd'
            have hp':(bif Nat.ble (Nat.succ d) n then some ((tV l R E).set (some c) tE d) else none)=some E':=hp
            rcases sY hp' with ⟨q1,q2⟩ | ⟨_,q2⟩
            · cases q2
              have hsl:=hR.slots.up (dB _) x1
              refine ⟨_,rfl,hsl.1,fun k x hx=>?_⟩
              have hdn:=tL q1
              rw [eP (some c) tE _ d k (by rw [Mh];omega)] at hx
              by_cases e2:k=d
              · subst e2
                rw [aR rfl] at hx
                cases hx
                exact ⟨_,h4,by rw [hV];exact hkn ρ' e.p x2⟩
              rw [aL e2] at hx
              exact hsl.2 k x hx
            cases q2
           obtain ⟨E1,rfl,hsl⟩:=hdn
           refine H2 ρ' ρs w0 a w ws hs Je _ Lm R (A++B) cs f ⟨⟨os,hsl,hR.defers,m2,hR.mks,hR.ss⟩,?_,hI.down,?_,nd1,nd3,fun x hx=>?_,?_,hI.ms,hI.nxb.adopt hft hstb x1 x2 g3 fun t c ht=>(hm.own t c ht).1⟩ hft hn hns hpl2 ?_ K hK
           · have:=hI.lr.adopt hI.ndj
             rw [hei] at this;exact this
           · intro x hx
             exact (hro.sub _ (hI.sub x (hsub x hx))).resolve_left (fun e2=>nd2 x hx (e2.trans hei.symm))
           · obtain ⟨f1,f2,f3,f4,f5⟩:=hI.eok x (hsub x hx)
             refine ⟨f1,f2,f3,f4,fun t b' ht=>?_⟩
             rw [eP (some b) tE h nx t hft] at ht
             by_cases e2:t=nx
             · rw [e2,x2];exact fun e3=>nd4 x hx e3.symm
             rw [aL e2] at ht
             rw [x1 t (hm.own t b' ht).1];exact f5 t b' ht
           · intro x hx
             rcases hI.pend x hx with h6 | ⟨t,b',h6,h7,h8,h9,h10⟩
             · exact .inl h6
             rcases If (Lm:=Lm) ho ((hI.lr.iff i).2 (.inr ⟨e,he,hei⟩)) _ _ _ h6 with h11 | h11
             · exact .inr ⟨t,b',h11,Nat.lt_succ_of_lt h7,by rw [x1 t h7];exact h8,sB h9,h10⟩
             exact .inl ⟨i,h11.1,h11.2⟩
           simp only [aI,bQ] at hlen ⊢;omega
         -- it is run now
         have hSi:∀ e∈S,e.j≠i:=fun e he hei=>hin ⟨e,he,hei⟩
         refine AY (E:=tV l R E) (pl:=plan.length) hf hn hro (fun j hj d hd=>Mz hlt hj hd) hrq ?_ ?_ f a w Lm S ⟨hI',hI.lr,hI.down,fun e he=>iH _ (hI.sub e he),hI.ndj,hI.ndp,hI.eok,hI.pend,hI.ms,hI.nxb⟩ hSi (by rw [←hlen,bQ])
         · intro S hs hni hnd
           exact My hpl2 (fun e he=>(hs e he).elim (fun h=>(hro.sub _ h).resolve_left (hni e he)) id) hnd
         intro a w Lm S f hI hSi hlen hir
         have hsR:∀ e∈S,e.j∈R:=fun e he=>(fI.1 (hI.sub e he)).elim (fun h=>(hro.sub _ h).resolve_left (hSi e he)) id
         obtain ⟨b,s,ob,V,rfl,rfl,hft,hstb,hdb,hkn,hex⟩:=KI hI.rel.slots s4 hw
         obtain ⟨dst,op,ty,pos,after,g⟩:=o
         obtain ⟨os,hR⟩:=hI.rel
         obtain ⟨ρ',x1,x2,m2,o2⟩:=hR.mem.new (s:=s) hft hstb (uV w ob) (vA w ob) (uA w ob) hdb
         have hg:g=none:=s3
         subst hg
         unfold stp
         simp only [ho',Region.wanted,eR]
         unfold xN
         rw [hex w dst ty pos after none]
         have e1:Nx ρ h nx w ρ' (h.set (some b) tE nx) (nx+1) (w.alloc ob):=⟨dB _,hft,x1,o2⟩
         refine H2 ρ' ρs w0 _ _ ws hs Je _ _ R S cs f ⟨⟨os,vY (hR.slots.up (dB _) x1) hn hp (hkn ρ' _ x2),(zH _ _ _).trans hR.defers,m2,hR.mks,aO hR.ss o2.sz⟩,hI.lr.set (vJ.1 (eZ.1 hro.rd).1).1 hSi,Ad hI.down hir,hsR,hI.ndj,hI.ndp,fun e he=>?_,?_,hI.ms,hI.nxb.trans hI.ms e1⟩ hft hn hns hpl2 hlen K hK
         · refine (hI.eok e he).keep (o:=⟨dst,op,ty,pos,after,none⟩) (oX _ _ _) (fun oj hoj=>?_) o2
           obtain ⟨ok',f1,f2,f3,f4,f5⟩:=hro.mks e.j (hsR e he)
           rw [hoj] at f1;cases f1
           exact f4 _ ho
         exact Ie hI.pend (dB _) x1 alloc_old (If (Lm:=Lm.setIfInBounds i true) ho (Yh (eZ.1 hir).1))
     trivial
   trivial
 trivial
theorem Ae {ih:Cmd→Res} (H:∀ c,tA P Φ c (ih c)) (l:List Oper) (plan:List (Nat×Pk)) (pend:List (Nat×Nat×Nat)) (n:Nat) (E:Tr CV) (h:Tr CB) (nx:Nat):tA P Φ (.reg l plan pend n E h nx) (step P pr ih (.reg l plan pend n E h nx)):=by
 cases plan with
 | nil =>
   refine ⟨rfl,fun ρ ρs w0 a w ws hs Je L Lm Rc S cs f hI hf hn hns hpl hlen K hK=>?_⟩
   obtain ⟨h1,rfl⟩:=hpl
   have hS:S=[]:=hZ.2 fun e he=>by cases hI.sub e he
   subst hS
   have hf0:f=0:=by simpa using hlen.symm
   subst hf0
   have hnil:Region.ready .any l.toArray Lm=[]:=hZ.2 fun j hj=>by
    have h3:=hI.lr.nil hj
    rw [h1] at h3
    cases h3
   exact ⟨hI.pend.cp,hnil,hK ρ a w hI.nxb hI.rel⟩
 | cons q plan =>
   obtain ⟨i,k⟩:=q
   cases k with
   | look=>exact Vt H l i plan pend n E h nx
   | only=>exact Vu H l i plan pend n E h nx
   | race R=>exact Vv H l i R plan pend n E h nx
   | make R=>exact Vw H l i R plan pend n E h nx
end
section
variable {P:Program} {Φ:Imm→Prop} {pr:uQ}
def zI (P:Program) (Φ:Imm→Prop) (pr:uQ):Prop:=∀ f g,dl pr f=some g→wC P f∧∀ args v,g args=some v→∀ G,Φ G→∀ nx ρ vs,KL nx ρ args vs→∃ u,Kn nx ρ v u∧Does P f vs G [] (fun x G' Ho=>x=u∧G'=G∧Ho=[])
theorem Qd {fn:Func} {n nx':Nat} {ρ':Pl} {w0:Bas Φ} {E':Tr CV} {h':Tr CB} {a:Act} {v:CV} {R:Ending→World→Prop} (hs:Slots ρ' E' nx' n a) (hv:Vm P E' h' fn.results.toList=some v) :
 ∀ (os:List Nat) (w:World),w0.s≤w.heap.size→Mem ρ' (w0.plus os) h' nx' w→(∀ w' u,Kn nx' ρ' v u→Mem ρ' w0 h' nx' w'→OldX (·∈os) ρ' h' nx' w ρ' h' w'→R (.returned u) w')→LeavesInM (FF none) 0 P fn a.tmps R (os.map mark) .returning w
 | [],w,hss,hm,hK=>by
   have hR:Rel ρ' w0 n E' h' nx' { a with defers:=[] } w:=⟨[],hs,rfl,hm,fun b hb=>(by cases hb),hss⟩
   obtain ⟨u,k1,k2⟩:=OS hR hv
   exact ⟨u,k2,hK w u k1 hm gB⟩
 | b :: os,w,hss,hm,hK=>by
   have hb:=(hm.kept b (bP ..)).2.1
   obtain ⟨m2,o2⟩:=hm.shut
   refine ⟨by simp,.inl ⟨b,_,rfl,run_takeDeferred hb,Qd hs hv os _ (aO hss o2.sz) m2 fun w' u q1 q2 q3=>hK w' u q1 q2 ?_⟩⟩
   exact ⟨fun t c hc hst=>⟨(q3.old t c hc hst).1,(q3.old t c hc hst).2.trans (o2.old t c (q3.old t c hc hst).1 hst).2⟩,fun p hp hu hx=>(q3.fr p (bS hp o2.sz) hu (fun e=>hx (bB _ e))).trans (o2.fr p hp hu (fun e=>hx (by rw [e];exact bP ..))),fun t b' hb'=>.inr ⟨t,b',hb',rfl⟩,aO o2.sz q3.sz⟩
theorem Qe {ih:Cmd→Res} (hpr:zI P Φ pr) (H:∀ c,tA P Φ c (ih c)) (f:Nat) (args:CV) (h:Tr CB) (nx:Nat):tA P Φ (.call f args h nx) (step P pr ih (.call f args h nx)):=by
 show tA P Φ _ (match dl pr f with
  | some g=>(match g args with | some v=>.ret v h nx | none=>.bad 60 [])
  | none=>match XR P f with
  | some fn=>(match fn.body with
    | some c=>bif Nat.ble (tW args) fn.ntmps && Nat.ble fn.ntmps 100000 then (match ih (.code c fn.ntmps (Vk args 0 .e) h nx) with
      | .ok x E h nx=>(match x with
        | .normal=>(match Vm P E h fn.results.toList with | some v=>.ret v h nx | none=>.bad 16 [])
        | .ret=>(match Vm P E h fn.results.toList with | some v=>.ret v h nx | none=>.bad 16 [])
        | _=>.bad 17 [])
      | .ret _ _ _=>.bad 18 []
      | r=>r) else .bad 19 []
    | none=>.bad 20 [])
  | none=>.bad 21 [])
 split
 · rename_i g hg
   split
   · rename_i v hv
     obtain ⟨p1,p2⟩:=hpr f g hg
     refine ⟨p1,fun ρ w0 w vs hm hk hfit=>?_⟩
     obtain ⟨u,k1,k2⟩:=p2 args v hv w0.G w0.ok nx ρ vs hk
     have hw:HoldH [] w0.G w:=⟨fun t b o ht=>Ee,fun t t' b o o' ht=>Ee,fun b o hb=>(hm.upd.same b (cG.1 (hm.imm b o hb)).1 id).trans (hm.imm b o hb),fun t b o ht=>Ee⟩
     refine (k2 w hw).mono fun x w' ⟨v',G',Ho,h1,h2,h3,h4,h5,h6,h7⟩=>?_
     obtain ⟨rfl,_,_⟩:=h7
     have hu:Upd (fun _=>False) w w':=h4.mono fun k hk hx=>by obtain ⟨t,o,ht⟩:=hx;cases ht
     obtain ⟨m1,o1⟩:=hm.grow hu
     exact ⟨v',ρ,h1,⟨aG _,hfit,dH _ _,o1⟩,k1,m1⟩
   trivial
 split
 · rename_i fn hfn
   obtain ⟨hf,hname⟩:=SA hfn
   split
   · rename_i c hb
     cases hl:Nat.ble (tW args) fn.ntmps && Nat.ble fn.ntmps 100000 with
     | false=>trivial
     | true =>
       simp only [aC] at hl
       have hl1:=tL hl.1
       have hl2:=tL hl.2
       simp only [gE]
       have H1:=H (.code c fn.ntmps (Vk args 0 .e) h nx)
       generalize ih (.code c fn.ntmps (Vk args 0 .e) h nx)=q at H1
       cases q with
       | bad=>trivial
       | ret _ _ _=>trivial
       | ok x E' h' nx' =>
         have go:(x=.normal∨x=.ret)→tA P Φ (.call f args h nx) (match Vm P E' h' fn.results.toList with | some v=>.ret v h' nx' | none=>.bad 16 []):=fun hx=>by
          split
          · rename_i v hv
            refine ⟨⟨fn,hf,by rw [hb];rfl,hname⟩,fun ρ w00 w vs hm hk hfit=>?_⟩
            obtain ⟨W0,ks0,G0,ok0,s0⟩:=w00
            replace hm:=hm.base (s':=w.heap.size)
            obtain ⟨w0,hw0⟩:∃ w0:Bas Φ,w0=⟨W0,ks0,G0,ok0,w.heap.size⟩:=⟨_,rfl⟩
            rw [←hw0] at hm
            have hlen:=tZ hk
            have hR:Rel ρ w0 fn.ntmps (Vk args 0 .e) h nx { tmps:=vs.toArray++Array.replicate (fn.ntmps - vs.toArray.size) undef,defers:=[] } w:=by
             refine ⟨[],⟨by simp;omega,fun i y hy=>?_⟩,rfl,hm,fun b hb=>(by cases hb),by rw [hw0];exact aG _⟩
             rcases OQ hk 0 .e sV i y hy with ⟨_,u,h1,h2⟩ | h1
             · refine ⟨u,?_,h2⟩
               have h1':vs[i]?=some u:=by simpa using h1
               have hlt:i<vs.length:=(aS.1 h1').1
               show (vs.toArray++Array.replicate (fn.ntmps - vs.toArray.size) undef)[i]?=some u
               rw [pC (by simpa using hlt)]
               simpa using h1'
             cases h1
            refine xM.1 (callsIn_of_wp_marks (F:=FF none) (n:=0) hf hb trivial (H1 none ρ w0 _ w hR hfit hl2 (.inl rfl) _ fun ρ' a' w' e1 e2=>?_))
            obtain ⟨os,e2⟩:=e2
            have key:LeavesInM (FF none) 0 P fn a'.tmps (fun e w'=>∃ u ρ',e=.returned u∧Nx ρ h nx w ρ' h' nx' w'∧Kn nx' ρ' v u∧Mem ρ' ⟨W0,ks0,G0,ok0,s0⟩ h' nx' w') a'.defers .returning w':=by
             rw [e2.defers]
             exact Qd e2.slots hv os w' e2.ss e2.mem fun w2 u q1 q2 q3=>⟨u,ρ',rfl,⟨e1.le,e1.fit,e1.ext,Ix hm e1.old q3 (fun p hp=>by have:=e2.mks p hp;rw [hw0] at this;exact this) e1.le e1.ext⟩,q1,by rw [hw0] at q2;exact q2.base⟩
            rcases hx with rfl | rfl <;> exact key
          trivial
         cases x with
         | normal=>exact go (.inl rfl)
         | ret=>exact go (.inr rfl)
         | _=>trivial
   trivial
 trivial
theorem run_ok (hpr:zI P Φ pr) (fuel:Nat):∀ c,tA P Φ c (run P pr fuel c):=by
 induction fuel with
 | zero=>intro c;show tA P Φ c (.bad 0 []);cases c <;> trivial
 | succ fuel ih =>
   intro c
   show tA P Φ c (step P pr (run P pr fuel) c)
   cases c with
   | code c n E h nx=>exact xV ih c n E h nx
   | loop c n E h nx=>exact step_loop ih c n E h nx
   | ops all l n E h nx=>exact Gj ih all l n E h nx
   | one o n E h nx=>exact Ac ih o n E h nx
   | call f args h nx=>exact Qe hpr ih f args h nx
   | round t args h nx=>exact Mw ih t args h nx
   | reg l plan pend n E h nx=>exact Ae ih l plan pend n E h nx
def KN (r:Res):Bool:=match r with | .ret (.bool b) _ _=>b | _=>false
theorem EQ {f:Nat} {q:Res} (H:tA P Φ (.call f .nil .e 0) q) (h:KN q=true) (G:Imm) (hG:Φ G):Does P f [] G [] (fun v G' Ho=>v=.bool true∧G'=G∧Ho=[]):=by
 intro w hw
 cases q with
 | bad=>cases h
 | ok _ _ _ _=>cases h
 | ret v h' nx' =>
   cases v with
   | bool b =>
     have hb:b=true:=h
     subst hb
     have hm:Mem (fun _=>(0,0)) (⟨w,[],G,hG,0⟩:Bas Φ) .e 0 w:=⟨kU _ _,fun t b ht=>Ee,fun t t' b b' ht=>Ee,fun b o hb=>hw.imm b o hb,lC,fun b hb=>by cases hb⟩
     refine (H.2 (fun _=>(0,0)) ⟨w,[],G,hG,0⟩ w [] hm nS (aU _)).mono fun e w' ⟨u,ρ',h1,h2,h3,h4⟩=>?_
     have h5:=rD.1 h3.2
     subst h5
     refine ⟨.bool true,G,[],h1,⟨fun t b o ht=>Ee,fun t t' b o o' ht=>Ee,fun b o hb=>?_,fun t b o ht=>Ee⟩,cA _,h4.upd.mono fun k hk hx=>hx.elim,fun b h0 h1=>absurd h1 h0,fun t b o ht=>Ee,rfl,rfl,rfl⟩
     rw [h4.upd.same b (hw.ltG hb) id];exact hw.imm b o hb
   | _=>cases h
end
structure Gt where
 run:Tr CV→Option CV
structure St where
 run:CV→Tr CV→Tr CV
def gt (f:Nat):Nat→Gt:=
 Nat.rec (motive:=fun _=>Nat→Gt) (fun _=>⟨fun _=>none⟩) (fun _ ih k=>Nat.rec (motive:=fun _=>Gt) ⟨fun E=>Tr.rec (motive:=fun _=>Option CV) none (fun x _ _ _ _ _ _ _ _=>x) E⟩
  (fun m _=>s4 (⟨fun E=>Tr.rec (motive:=fun _=>Option CV) none (fun _ a _ _ _ _ _ _ _=>(ih (Nat.div m 4)).run a) E⟩:Gt) ⟨fun E=>Tr.rec (motive:=fun _=>Option CV) none (fun _ _ b _ _ _ _ _ _=>(ih (Nat.div m 4)).run b) E⟩
   ⟨fun E=>Tr.rec (motive:=fun _=>Option CV) none (fun _ _ _ c _ _ _ _ _=>(ih (Nat.div m 4)).run c) E⟩ ⟨fun E=>Tr.rec (motive:=fun _=>Option CV) none (fun _ _ _ _ d _ _ _ _=>(ih (Nat.div m 4)).run d) E⟩ (Nat.mod m 4)) k) f
def st (f:Nat):Nat→St:=
 Nat.rec (motive:=fun _=>Nat→St) (fun _=>⟨fun _ E=>E⟩) (fun _ ih k=>Nat.rec (motive:=fun _=>St) ⟨fun v E=>Tr.rec (motive:=fun _=>Tr CV) (.n (some v) .e .e .e .e) (fun _ a b c d _ _ _ _=>.n (some v) a b c d) E⟩
  (fun m _=>s4 (⟨fun v E=>Tr.rec (motive:=fun _=>Tr CV) (.n none ((ih (Nat.div m 4)).run v .e) .e .e .e) (fun x a b c d _ _ _ _=>.n x ((ih (Nat.div m 4)).run v a) b c d) E⟩:St)
   ⟨fun v E=>Tr.rec (motive:=fun _=>Tr CV) (.n none .e ((ih (Nat.div m 4)).run v .e) .e .e) (fun x a b c d _ _ _ _=>.n x a ((ih (Nat.div m 4)).run v b) c d) E⟩
   ⟨fun v E=>Tr.rec (motive:=fun _=>Tr CV) (.n none .e .e ((ih (Nat.div m 4)).run v .e) .e) (fun x a b c d _ _ _ _=>.n x a b ((ih (Nat.div m 4)).run v c) d) E⟩
   ⟨fun v E=>Tr.rec (motive:=fun _=>Tr CV) (.n none .e .e .e ((ih (Nat.div m 4)).run v .e)) (fun x a b c d _ _ _ _=>.n x a b c ((ih (Nat.div m 4)).run v d)) E⟩ (Nat.mod m 4)) k) f
theorem WO:∀ (f k:Nat) (E:Tr CV),k<f→(gt f k).run E=E.get k:=by
 intro f
 induction f with
 | zero=>intro k E h;omega
 | succ f ih =>
   intro k E h
   cases k with
   | zero=>cases E <;> rfl
   | succ m =>
     have hm:Nat.div m 4<f:=by show m / 4<f;omega
     show (s4 (⟨fun E=>Tr.rec (motive:=fun _=>Option CV) none (fun _ a _ _ _ _ _ _ _=>(gt f (Nat.div m 4)).run a) E⟩:Gt) ⟨fun E=>Tr.rec (motive:=fun _=>Option CV) none (fun _ _ b _ _ _ _ _ _=>(gt f (Nat.div m 4)).run b) E⟩
      ⟨fun E=>Tr.rec (motive:=fun _=>Option CV) none (fun _ _ _ c _ _ _ _ _=>(gt f (Nat.div m 4)).run c) E⟩ ⟨fun E=>Tr.rec (motive:=fun _=>Option CV) none (fun _ _ _ _ d _ _ _ _=>(gt f (Nat.div m 4)).run d) E⟩ (Nat.mod m 4)).run E=_
     rcases Xr m with h1 | h1 | h1 | h1 <;> rw [h1] <;> cases E with
      | e=>rfl
      | n x a b c d=>rw [Lw,h1];exact ih _ _ hm
theorem WP (v:CV):∀ (f k:Nat) (E:Tr CV),(st f k).run v E=E.set (some v) f k:=by
 intro f
 induction f with
 | zero=>intro k E;rfl
 | succ f ih =>
   intro k E
   cases k with
   | zero=>cases E <;> rfl
   | succ m =>
     show (s4 (⟨fun v E=>Tr.rec (motive:=fun _=>Tr CV) (.n none ((st f (Nat.div m 4)).run v .e) .e .e .e) (fun x a b c d _ _ _ _=>.n x ((st f (Nat.div m 4)).run v a) b c d) E⟩:St)
      ⟨fun v E=>Tr.rec (motive:=fun _=>Tr CV) (.n none .e ((st f (Nat.div m 4)).run v .e) .e .e) (fun x a b c d _ _ _ _=>.n x a ((st f (Nat.div m 4)).run v b) c d) E⟩
      ⟨fun v E=>Tr.rec (motive:=fun _=>Tr CV) (.n none .e .e ((st f (Nat.div m 4)).run v .e) .e) (fun x a b c d _ _ _ _=>.n x a b ((st f (Nat.div m 4)).run v c) d) E⟩
      ⟨fun v E=>Tr.rec (motive:=fun _=>Tr CV) (.n none .e .e .e ((st f (Nat.div m 4)).run v .e)) (fun x a b c d _ _ _ _=>.n x a b c ((st f (Nat.div m 4)).run v d)) E⟩ (Nat.mod m 4)).run v E=_
     cases E with
     | e=>rw [Vd,Lx];rcases Xr m with h1 | h1 | h1 | h1 <;> rw [h1] <;> simp only [QX,QY,QZ,RA,ih]
     | n x a b c d=>rw [Lx];rcases Xr m with h1 | h1 | h1 | h1 <;> rw [h1] <;> simp only [QX,QY,QZ,RA,ih]
abbrev Kt:=Tr CV→Tr CB→Nat→Res
abbrev Kx:=Exit→Tr CV→Tr CB→Nat→Res
def Ig (run:Kt→Res) (S:Tr CV→Tr CB→Nat→Prop):Prop:=(∃ why o,∀ k,run k=.bad why o)∨∃ E' h' nx',(∀ k,run k=k E' h' nx')∧S E' h' nx'
def Nb (run:Kx→Res) (S:Exit→Tr CV→Tr CB→Nat→Prop):Prop:=(∃ why o,∀ k,run k=.bad why o)∨∃ x E' h' nx',(∀ k,run k=k x E' h' nx')∧S x E' h' nx'
structure Co where
 run:(Cmd→Res)→Tr CV→Tr CB→Nat→Kt→Res
structure Cd where
 run:(Cmd→Res)→Tr CV→Tr CB→Nat→Kx→Res
section
variable (P:Program) (Φ:Imm→Prop)
def Yi (ih:Cmd→Res):Prop:=∀ c,tA P Φ c (ih c)
def Yj (co:Co) (o:Oper) (n:Nat):Prop:=∀ ih,Yi P Φ ih→∀ E h nx,Ig (co.run ih E h nx) (fun E' h' nx'=>tA P Φ (.one o n E h nx) (.ok .normal E' h' nx'))
def ER (cd:Cd) (c:Code) (n:Nat):Prop:=∀ ih,Yi P Φ ih→∀ E h nx,Nb (cd.run ih E h nx) (fun x E' h' nx'=>tA P Φ (.code c n E h nx) (.ok x E' h' nx'))
end
def Qf (P:Program) (pr:uQ) (o:Oper) (n:Nat):Co:=⟨fun ih E h nx k=>match step P pr ih (.one o n E h nx) with
 | .ok _ E h nx=>k E h nx
 | .ret _ _ _=>.bad 70 []
 | .bad w a=>.bad w a⟩
def KO (c:Cmd):Bool:=match c with | .ops ..=>true | .one ..=>true | .reg ..=>true | .code ..=>true | .loop ..=>true | _=>false
def KP (P:Program) (pr:uQ) (ih:Cmd→Res) (F:Nat):Cmd→Res:=Nat.rec (motive:=fun _=>Cmd→Res) (fun _=>.bad 71 []) (fun _ r c=>step P pr (fun c=>bif KO c then r c else ih c) c) F
def Vx (P:Program) (pr:uQ) (c:Code) (n:Nat):Cd:=⟨fun ih E h nx k=>match KP P pr ih 10000 (.code c n E h nx) with
 | .ok x E h nx=>k x E h nx
 | .ret _ _ _=>.bad 72 []
 | .bad w a=>.bad w a⟩
section
variable {P:Program} {Φ:Imm→Prop} {pr:uQ}
theorem Nc (hpr:zI P Φ pr) {ih:Cmd→Res} (H:Yi P Φ ih):Yi P Φ (step P pr ih):=fun c=>by
 cases c with
 | code c n E h nx=>exact xV H c n E h nx
 | loop c n E h nx=>exact step_loop H c n E h nx
 | ops all l n E h nx=>exact Gj H all l n E h nx
 | one o n E h nx=>exact Ac H o n E h nx
 | call f args h nx=>exact Qe hpr H f args h nx
 | round t args h nx=>exact Mw H t args h nx
 | reg l plan pend n E h nx=>exact Ae H l plan pend n E h nx
theorem zP:Yi P Φ (fun _=>.bad 0 []):=fun c=>by cases c <;> trivial
theorem Cg (c:Cmd) (w:Nat) (a:List Oper):tA P Φ c (.bad w a):=by cases c <;> trivial
theorem xW (o:Oper) (n:Nat):Yj P Φ (Qf P pr o n) o n:=fun ih H E h nx=>by
 have H1:=Ac (pr:=pr) H o n E h nx
 show Ig (fun k=>match step P pr ih (.one o n E h nx) with | .ok _ E h nx=>k E h nx | .ret _ _ _=>.bad 70 [] | .bad w a=>.bad w a) _
 generalize step P pr ih (.one o n E h nx)=q at H1
 cases q with
 | bad w a=>exact .inl ⟨w,a,fun k=>rfl⟩
 | ret v h' nx'=>exact .inl ⟨70,[],fun k=>rfl⟩
 | ok x E' h' nx' =>
   have hx:x=.normal:=H1.1
   subst hx
   exact .inr ⟨E',h',nx',fun k=>rfl,H1⟩
theorem KQ (hpr:zI P Φ pr) {ih:Cmd→Res} (H:Yi P Φ ih) (F:Nat):Yi P Φ (KP P pr ih F):=by
 induction F with
 | zero=>intro c;exact Cg c 71 []
 | succ F r =>
   refine Nc hpr fun c=>?_
   show tA P Φ c (bif KO c then KP P pr ih F c else ih c)
   cases KO c with
   | true=>exact r c
   | false=>exact H c
theorem Gk (hpr:zI P Φ pr) (c:Code) (n:Nat):ER P Φ (Vx P pr c n) c n:=fun ih H E h nx=>by
 have H1:=KQ hpr H 10000 (.code c n E h nx)
 show Nb (fun k=>match KP P pr ih 10000 (.code c n E h nx) with | .ok x E h nx=>k x E h nx | .ret _ _ _=>.bad 72 [] | .bad w a=>.bad w a) _
 generalize KP P pr ih 10000 (.code c n E h nx)=q at H1
 cases q with
 | bad w a=>exact .inl ⟨w,a,fun k=>rfl⟩
 | ret v h' nx'=>exact .inl ⟨72,[],fun k=>rfl⟩
 | ok x E' h' nx'=>exact .inr ⟨x,E',h',nx',fun k=>rfl,H1⟩
end
def Sh:Operand→Gt
 | .tmp t=>gt (Nat.succ t) t
 | .const v=>Option.rec (motive:=fun _=>Gt) ⟨fun _=>none⟩ (fun c=>⟨fun _=>some c⟩) (PM v)
 | .func f=>⟨fun _=>some (.fn f .nil .nil)⟩
 | .global _=>⟨fun _=>none⟩
theorem xH (x:Operand) (E:Tr CV):(Sh x).run E=uM E x:=by
 cases x with
 | tmp t=>exact WO _ _ _ (cO t)
 | const v =>
   show (Option.rec (motive:=fun _=>Gt) ⟨fun _=>none⟩ (fun c=>⟨fun _=>some c⟩) (PM v):Gt).run E=PM v
   cases PM v <;> rfl
 | func f=>rfl
 | global g=>rfl
def Yk (n:Nat):Option Nat→Option St
 | none=>some ⟨fun _ E=>E⟩
 | some d=>bif Nat.ble (Nat.succ d) n then some (st tE d) else none
theorem Jx {n:Nat} {d:Option Nat} {p:St} (h:Yk n d=some p) (E:Tr CV) (v:CV):xU E n d v=some (p.run v E):=by
 cases d with
 | none=>cases h;rfl
 | some d =>
   have h':(bif Nat.ble (Nat.succ d) n then some (st tE d) else none)=some p:=h
   rcases sY h' with ⟨h1,h2⟩ | ⟨_,h2⟩
   · cases h2
     show (bif Nat.ble (Nat.succ d) n then some (E.set (some v) tE d) else none)=_
     rw [h1,WP];rfl
   cases h2
structure Bi where
 run:IntKind→Int→Int→Option CV
def WQ:BinOp→Bi
 | .add=>⟨fun k m n=>bo .add k m n⟩
 | o=>⟨fun k m n=>bo o k m n⟩
def Af (P:Program) (pr:uQ) (o:Oper) (n:Nat) (p:St) (f:Tr CV→Tr CB→Option CV):Co:=
 ⟨fun ih E h nx k=>Option.rec (motive:=fun _=>Res) ((Qf P pr o n).run ih E h nx k) (fun c=>k (p.run c E) h nx) (f E h)⟩
def Eb (P:Program) (pr:uQ) (o:Oper) (n:Nat) (p:St) (f:Tr CV→Tr CB→Nat→Ro):Co:=
 ⟨fun ih E h nx k=>Ro.rec (motive:=fun _=>Res) ((Qf P pr o n).run ih E h nx k) (fun c h nx=>k (p.run c E) h nx) (fun h nx=>match o.dst with | none=>k E h nx | some _=>.bad 10 []) (f E h nx)⟩
def KR (o:Oper) (n:Nat):Co:=
 ⟨fun ih E h nx k=>match Iz ih E n h nx o.dst o.op with | .ok _ E h nx=>k E h nx | .ret _ _ _=>.bad 70 [] | .bad w a=>.bad w a⟩
def PS (a b:Option CV) (f:IntKind→Int→Int→Option CV):Option CV:=
 Option.rec (motive:=fun _=>Option CV) none (fun a=>match a with
  | .int k m=>Option.rec (motive:=fun _=>Option CV) none (fun b=>match b with | .int k' n=>bif EY k k' then f k m n else none | _=>none) b
  | _=>none) a
def KS (P:Program) (pr:uQ) (o:Oper) (n:Nat):Co:=match Yk n o.dst with
 | some p=>match o.op with
   | .move x=>Af P pr o n p (fun E _=>(Sh x).run E)
   | .assign x=>Af P pr o n p (fun E _=>(Sh x).run E)
   | .extract x i=>Af P pr o n p (fun E _=>match (Sh x).run E with | some (.tup l)=>Hw l i | _=>none)
   | .nilCheck x=>Af P pr o n p (fun E _=>match (Sh x).run E with | some (.ptr t o)=>some (.ptr t o) | _=>none)
   | .fieldAddr s x f=>(match XH P s f with
     | some j=>Af P pr o n p (fun E _=>match (Sh x).run E with | some (.ptr t o)=>some (.ptr t (Nat.add o j)) | _=>none)
     | none=>Qf P pr o n)
   | .load T x=>bif vK P T then Af P pr o n p (fun E h=>match (Sh x).run E with | some (.ptr t o)=>(match h.get t with | some (.cells l _ _ _)=>DY l o | _=>none) | _=>none) else Qf P pr o n
   | .pick c x y=>Af P pr o n p (fun E _=>match (Sh c).run E with | some (.bool b)=>Bool.rec (motive:=fun _=>Option CV) ((Sh y).run E) ((Sh x).run E) b | _=>none)
   | .unOp .not _ x=>Af P pr o n p (fun E _=>match (Sh x).run E with | some (.bool b)=>some (.bool (not b)) | _=>none)
   | .convert s t x=>(match P.underlying t with
     | some (.int k')=>(match P.underlying s with
       | some _=>Af P pr o n p (fun E _=>match (Sh x).run E with | some (.int _ m)=>some (.int k' (wr k' m)) | _=>none)
       | none=>Qf P pr o n)
     | _=>Qf P pr o n)
   | .indexAddr T x i=>(match Pq P T with
     | some (_,sz')=>Af P pr o n p (fun E _=>match (Sh i).run E with
       | some (.int _ m)=>(match (Sh x).run E with | some (.sl t o n sz _)=>bif Nat.beq sz sz' && (wI 0 m && not (wI n m)) then some (.ptr t (Nat.add o (Nat.mul m.toNat sz'))) else none | _=>none)
       | _=>none)
     | none=>Qf P pr o n)
   | .call ⟨.builtin .len,⟨[x]⟩,⟨[T]⟩⟩=>(match Pq P T with
     | some _=>Af P pr o n p (fun E _=>match (Sh x).run E with | some (.sl _ _ n _ _)=>some (.int .i64 n) | some .nils=>some (.int .i64 0) | _=>none)
     | none=>Qf P pr o n)
   | .alloc T=>Eb P pr o n p (fun E h nx=>wv0 P E h nx T)
   | .box T x=>Eb P pr o n p (fun E h nx=>wv1 P E h nx T x)
   | .store T x y=>Eb P pr o n p (fun E h nx=>wv2 P E h nx T x y)
   | .buildSlice T m ⟨parts⟩=>Eb P pr o n p (fun E h nx=>wv3 P E h nx T m parts)
   | .makeSlice T x y=>Eb P pr o n p (fun E h nx=>wv4 P E h nx T x y)
   | .call ⟨.builtin .append,⟨[s,x]⟩,⟨[T,tx]⟩⟩=>Eb P pr o n p (fun E h nx=>XQ P E h nx T tx s x)
   | .call ⟨.value f,args,ats⟩=>bif WC P f then Qf P pr o n else KR o n
   | .binOp b t x y _=>(match b with
     | .shl=>Qf P pr o n
     | .shr=>Qf P pr o n
     | b=>Af P pr o n p (fun E _=>PS ((Sh x).run E) ((Sh y).run E) (WQ b).run))
   | _=>Qf P pr o n
 | none=>Qf P pr o n
section
variable {P:Program} {Φ:Imm→Prop} {pr:uQ}
theorem ES {o:Oper} {n:Nat} {E:Tr CV} {h:Tr CB} {nx:Nat} {c:CV} {E':Tr CV} (hq:qv P E h o.op=some c) (hp:xU E n o.dst c=some E'):tA P Φ (.one o n E h nx) (.ok .normal E' h nx):=by
 have H:=Ac (pr:=[]) (zP (P:=P) (Φ:=Φ)) o n E h nx
 have e:step P [] (fun _=>.bad 0 []) (.one o n E h nx)=Res.ok .normal E' h nx:=by
  show Fy P [] _ o n E h nx=_
  unfold Fy
  simp only [hq,hp]
 rw [e] at H
 exact H
theorem vV {o:Oper} {n:Nat} {p:St} {f:Tr CV→Tr CB→Option CV} (hp:Yk n o.dst=some p) (hf:∀ E h c,f E h=some c→qv P E h o.op=some c):Yj P Φ (Af P pr o n p f) o n:=fun ih H E h nx=>by
 show Ig (fun k=>Option.rec (motive:=fun _=>Res) ((Qf P pr o n).run ih E h nx k) (fun c=>k (p.run c E) h nx) (f E h)) _
 cases hc:f E h with
 | none=>exact xW o n ih H E h nx
 | some c=>exact .inr ⟨p.run c E,h,nx,fun k=>rfl,ES (hf E h c hc) (Jx hp E c)⟩
theorem yR {o:Oper} {n:Nat} {p:St} {f:Tr CV→Tr CB→Nat→Ro} (hp:Yk n o.dst=some p) (hq:∀ E h,qv P E h o.op=none) (hw:∀ E h nx,wv P E h nx o.op=f E h nx):Yj P Φ (Eb P pr o n p f) o n:=fun ih H E h nx=>by
 show Ig (fun k=>Ro.rec (motive:=fun _=>Res) ((Qf P pr o n).run ih E h nx k) (fun c h nx=>k (p.run c E) h nx) (fun h nx=>match o.dst with | none=>k E h nx | some _=>.bad 10 []) (f E h nx)) _
 have hs:=Ac (pr:=[]) (zP (P:=P) (Φ:=Φ)) o n E h nx
 have hwm:f E h nx≠.bad→wm P E h nx o.op=f E h nx:=fun hb=>by
  unfold wm
  rw [hw]
  cases hf:f E h nx with
  | bad=>exact absurd hf hb
  | val c h' nx'=>rfl
  | unit h' nx'=>rfl
 cases hf:f E h nx with
 | bad=>exact xW o n ih H E h nx
 | val c h' nx' =>
   have e:=hwm (by rw [hf];intro h;cases h)
   rw [hf] at e
   have e2:step P [] (fun _=>.bad 0 []) (.one o n E h nx)=Res.ok .normal (p.run c E) h' nx':=by
    show Fy P [] _ o n E h nx=_
    unfold Fy
    simp only [hq,e,Jx hp]
   rw [e2] at hs
   exact .inr ⟨p.run c E,h',nx',fun k=>rfl,hs⟩
 | unit h' nx' =>
   have e:=hwm (by rw [hf];intro h;cases h)
   rw [hf] at e
   cases hd:o.dst with
   | some d=>exact .inl ⟨10,[],fun k=>by simp only [hd]⟩
   | none =>
     have e2:step P [] (fun _=>.bad 0 []) (.one o n E h nx)=Res.ok .normal E h' nx':=by
      show Fy P [] _ o n E h nx=_
      unfold Fy
      simp only [hq,e,hd]
     rw [e2] at hs
     exact .inr ⟨E,h',nx',fun k=>by simp only [hd],hs⟩
theorem ET {o:Oper} {n:Nat} (hq:∀ E h,qv P E h o.op=none) (hw:∀ E h nx,wm P E h nx o.op=.bad):Yj P Φ (KR o n) o n:=fun ih H E h nx=>by
 have hs:=Ac (pr:=[]) H o n E h nx
 have e2:step P [] ih (.one o n E h nx)=Iz ih E n h nx o.dst o.op:=by
  show Fy P [] _ o n E h nx=_
  unfold Fy
  simp only [hq,hw]
 rw [e2] at hs
 show Ig (fun k=>match Iz ih E n h nx o.dst o.op with | .ok _ E h nx=>k E h nx | .ret _ _ _=>.bad 70 [] | .bad w a=>.bad w a) _
 generalize Iz ih E n h nx o.dst o.op=q at hs
 cases q with
 | bad w a=>exact .inl ⟨w,a,fun k=>rfl⟩
 | ret v h' nx'=>exact .inl ⟨70,[],fun k=>rfl⟩
 | ok x E' h' nx' =>
   have hx:x=.normal:=hs.1
   subst hx
   exact .inr ⟨E',h',nx',fun k=>rfl,hs⟩
theorem OT (b:BinOp) (k:IntKind) (m n:Int):(WQ b).run k m n=bo b k m n:=by cases b <;> rfl
theorem KT {a b:Option CV} {f:IntKind→Int→Int→Option CV} {c:CV} (h:PS a b f=some c):∃ k m n,a=some (.int k m)∧∃ k',b=some (.int k' n)∧EY k k'=true∧f k m n=some c:=by
 cases a with
 | none=>cases h
 | some a =>
   cases a with
   | int k m =>
     cases b with
     | none=>cases h
     | some b =>
       cases b with
       | int k' n =>
         have h':(bif EY k k' then f k m n else none)=some c:=h
         rcases sY h' with ⟨h1,h2⟩ | ⟨_,h2⟩
         · exact ⟨k,m,n,rfl,k',rfl,h1,h2⟩
         · cases h2
       | _=>cases h
   | _=>cases h
theorem Yl (o:Oper) (n:Nat):Yj P Φ (KS P pr o n) o n:=by
 unfold KS
 split
 · rename_i p hp
   split
   · rename_i x hop
     exact vV hp fun E h c hc=>by rw [hop];rw [xH] at hc;exact hc
   · rename_i x hop
     exact vV hp fun E h c hc=>by rw [hop];rw [xH] at hc;exact hc
   · rename_i x i hop
     exact vV hp fun E h c hc=>by rw [hop];rw [xH] at hc;exact hc
   · rename_i x hop
     refine vV hp fun E h c hc=>?_
     rw [hop]
     rw [xH] at hc
     split at hc
     · rename_i t o' hx
       cases hc
       show XN P E h x=_
       unfold XN
       rw [hx]
     cases hc
   · rename_i s x f hop
     split
     · rename_i j hj
       refine vV hp fun E h c hc=>?_
       rw [hop]
       rw [xH] at hc
       split at hc
       · rename_i t o' hx
         cases hc
         show XO P E h s x f=_
         unfold XO
         rw [hx]
         simp only [hj]
       cases hc
     exact xW o n
   · rename_i T x hop
     refine tD (fun c=>Yj P Φ c o n) (fun h1=>?_) fun _=>xW o n
     refine vV hp fun E h c hc=>?_
     rw [hop]
     rw [xH] at hc
     split at hc
     · rename_i t o' hx
       split at hc
       · rename_i l ty op st hb
         show OI P E h T x=_
         unfold OI
         rw [hx]
         simp only [hb,h1,gE]
         exact hc
       cases hc
     cases hc
   · rename_i c x y hop
     refine vV hp fun E h c' hc=>?_
     rw [hop]
     simp only [xH] at hc
     split at hc
     · rename_i b hb
       show XK P E h c x y=_
       unfold XK
       rw [hb]
       cases b <;> exact hc
     cases hc
   · rename_i tt x hop
     refine vV hp fun E h c hc=>?_
     rw [hop]
     rw [xH] at hc
     exact hc
   · rename_i s t x hop
     split
     · rename_i k' ht
       split
       · rename_i d hd
         refine vV hp fun E h c hc=>?_
         rw [hop]
         rw [xH] at hc
         show XM P E h s t x=_
         unfold XM
         rw [ht]
         simp only [hd]
         exact hc
       exact xW o n
     exact xW o n
   · rename_i T x i hop
     split
     · rename_i e' sz' hT
       refine vV hp fun E h c hc=>?_
       rw [hop]
       simp only [xH] at hc
       split at hc
       · rename_i k m hi
         split at hc
         · rename_i t o' N sz cc hx
           show OJ P E h T x i=_
           unfold OJ
           rw [hi]
           simp only [hx,hT]
           exact hc
         cases hc
       cases hc
     exact xW o n
   · rename_i x T hop
     split
     · rename_i e' hT
       refine vV hp fun E h c hc=>?_
       rw [hop]
       rw [xH] at hc
       split at hc
       · rename_i t o' N sz cc hx
         show EG P E h x T=_
         unfold EG
         rw [hx]
         simp only [hT]
         exact hc
       · rename_i hx
         show EG P E h x T=_
         unfold EG
         rw [hx]
         simp only [hT]
         exact hc
       cases hc
     exact xW o n
   · rename_i T hop
     exact yR hp (fun E h=>by rw [hop];rfl) fun E h nx=>by rw [hop];rfl
   · rename_i T x hop
     exact yR hp (fun E h=>by rw [hop];rfl) fun E h nx=>by rw [hop];rfl
   · rename_i T x y hop
     exact yR hp (fun E h=>by rw [hop];rfl) fun E h nx=>by rw [hop];rfl
   · rename_i T m parts hop
     exact yR hp (fun E h=>by rw [hop];rfl) fun E h nx=>by rw [hop];rfl
   · rename_i T x y hop
     exact yR hp (fun E h=>by rw [hop];rfl) fun E h nx=>by rw [hop];rfl
   · rename_i s x T tx hop
     exact yR hp (fun E h=>by rw [hop];rfl) fun E h nx=>by rw [hop];rfl
   · rename_i f args ats hop
     refine tD (fun c=>Yj P Φ c o n) (fun _=>xW o n) fun hf=>?_
     exact ET (fun E h=>by rw [hop];rfl) fun E h nx=>by rw [hop];exact OO hf
   · rename_i b t x y tt hop
     split
     · exact xW o n
     · exact xW o n
     rename_i hb1 hb2
     refine vV hp fun E h c hc=>?_
     rw [hop]
     rw [xH,xH] at hc
     obtain ⟨k,m,m',e1,k',e2,e3,e4⟩:=KT hc
     rw [OT] at e4
     show XL P E h b t x y=_
     unfold XL
     rw [e1]
     simp only [e2]
     have e5:sh b k m m'=none:=by
      cases b <;> first | rfl | exact absurd rfl hb1 | exact absurd rfl hb2
     rw [e5]
     simp only [e3,gE]
     exact e4
   exact xW o n
 exact xW o n
def OU (l:List Co):(Cmd→Res)→Tr CV→Tr CB→Nat→Kt→Res:=
 List.rec (motive:=fun _=>(Cmd→Res)→Tr CV→Tr CB→Nat→Kt→Res) (fun _ E h nx k=>k E h nx) (fun a _ r ih E h nx k=>a.run ih E h nx (fun E h nx=>r ih E h nx k)) l
def OV (P:Program) (pr:uQ) (n:Nat) (l:List Oper):List Co:=List.rec (motive:=fun _=>List Co) [] (fun o _ ih=>KS P pr o n :: ih) l
def Ih (l:List Oper):Bool:=List.rec (motive:=fun _=>Bool) true (fun o _ ih=>(match o.guard with | none=>true | some _=>false) && ih) l
def Si (c1:Cmd) (r1:Res):Cmd→Res:=fun c=>open Classical in if c=c1 then r1 else .bad 0 []
theorem Nd {c1:Cmd} {r1:Res} (H:tA P Φ c1 r1):Yi P Φ (Si c1 r1):=fun c=>by
 unfold Si
 split
 · rename_i e;subst e;exact H
 exact Cg c 0 []
theorem xZ (c1:Cmd) (r1:Res):Si c1 r1 c1=r1:=by unfold Si;rw [aR rfl]
def Of (c1:Cmd) (r1:Res) (c2:Cmd) (r2:Res):Cmd→Res:=fun c=>open Classical in if c=c1 then r1 else if c=c2 then r2 else .bad 0 []
theorem Gl {c1 c2:Cmd} {r1 r2:Res} (H1:tA P Φ c1 r1) (H2:tA P Φ c2 r2):Yi P Φ (Of c1 r1 c2 r2):=fun c=>by
 unfold Of
 split
 · rename_i e;subst e;exact H1
 split
 · rename_i e;subst e;exact H2
 exact Cg c 0 []
theorem Sj (c1:Cmd) (r1:Res) (c2:Cmd) (r2:Res):Of c1 r1 c2 r2 c1=r1:=by unfold Of;rw [aR rfl]
theorem Sk {c1 c2:Cmd} (h:c2≠c1) (r1 r2:Res):Of c1 r1 c2 r2 c2=r2:=by unfold Of;rw [aL h,aR rfl]
theorem KU {all rest:List Oper} {o:Oper} {n:Nat} {E E1 E2:Tr CV} {h h1 h2:Tr CB} {nx nx1 nx2:Nat} (hg:o.guard=none) (H1:tA P Φ (.one o n E h nx) (.ok .normal E1 h1 nx1)) (H2:tA P Φ (.ops all rest n E1 h1 nx1) (.ok .normal E2 h2 nx2)):tA P Φ (.ops all (o :: rest) n E h nx) (.ok .normal E2 h2 nx2):=by
 have H:=Gj (pr:=[]) (Gl H1 H2) all (o :: rest) n E h nx
 have e:step P [] (Of (.one o n E h nx) (.ok .normal E1 h1 nx1) (.ops all rest n E1 h1 nx1) (.ok .normal E2 h2 nx2)) (.ops all (o :: rest) n E h nx)=Res.ok .normal E2 h2 nx2:=by
  show KK P [] _ all (o :: rest) n E h nx=_
  unfold KK
  simp only [hg,Sj]
  exact Sk Ii _ _
 rw [e] at H
 exact H
theorem OW (all:List Oper) (n:Nat) (E:Tr CV) (h:Tr CB) (nx:Nat):tA P Φ (.ops all [] n E h nx) (.ok .normal E h nx):=Gj (pr:=[]) (zP (P:=P) (Φ:=Φ)) all [] n E h nx
theorem AZ {ih:Cmd→Res} (H:Yi P Φ ih) (all:List Oper) (n:Nat):∀ (l:List Oper) (E:Tr CV) (h:Tr CB) (nx:Nat),Ih l=true→Ig (OU (OV P pr n l) ih E h nx) (fun E' h' nx'=>tA P Φ (.ops all l n E h nx) (.ok .normal E' h' nx'))
 | [],E,h,nx,_=>.inr ⟨E,h,nx,fun k=>rfl,OW all n E h nx⟩
 | o :: l,E,h,nx,hl=>by
   have hl':((match o.guard with | none=>true | some _=>false) && Ih l)=true:=hl
   rw [aC] at hl'
   have hg:o.guard=none:=by cases hgg:o.guard with | none=>rfl | some x=>rw [hgg] at hl';cases hl'.1
   have H1:=Yl (pr:=pr) o n ih H E h nx
   show Ig (fun k=>(KS P pr o n).run ih E h nx (fun E h nx=>OU (OV P pr n l) ih E h nx k)) _
   rcases H1 with ⟨w,a,hb⟩ | ⟨E1,h1,nx1,hk,hd⟩
   · exact .inl ⟨w,a,fun k=>hb _⟩
   rcases AZ H all n l E1 h1 nx1 hl'.2 with ⟨w,a,hb⟩ | ⟨E2,h2,nx2,hk2,hd2⟩
   · exact .inl ⟨w,a,fun k=>(hk _).trans (hb k)⟩
   exact .inr ⟨E2,h2,nx2,fun k=>(hk _).trans (hk2 k),KU hg hd hd2⟩
end
abbrev Pd:=List (Nat×Nat×Nat)
structure Cr where
 run:(Cmd→Res)→Pd→Tr CV→Tr CB→Nat→Kt→Res
def Vy (o:Oper) (i nx:Nat) (E:Tr CV) (pend:Pd):Pd:=match JS E o.op with | some t=>(t,i,nx) :: pend | none=>pend
def Nf (P:Program) (pr:uQ) (n:Nat) (l:List Oper) (plan:List (Nat×Pk)):Cr:=List.rec (motive:=fun _=>Cr) ⟨fun _ _ E h nx k=>k E h nx⟩ (fun x _ r=>match Ed l x.1 with
 | some o=>(match o.guard with
   | none=>(match Yk n o.dst with
     | some p=>(match x.2 with
       | .look=>⟨fun ih pend E h nx k=>Option.rec (motive:=fun _=>Res) (.bad 26 [o]) (fun c=>r.run ih (Vy o x.1 nx E pend) (p.run c E) h nx k) (qv P E h o.op)⟩
       | .only=>⟨fun ih pend E h nx k=>(KS P pr o n).run ih E h nx (fun E h nx=>bif xL h (tO o pend) then r.run ih (tO o pend) E h nx k else .bad 28 [o])⟩
       | .race R=>⟨fun ih pend E h nx k=>bif yJ P l R n (tV l R E) h nx then (KS P pr o n).run ih (tV l R E) h nx (fun E h nx=>bif xL h (tO o pend) then r.run ih (tO o pend) E h nx k else .bad 28 [o]) else .bad 32 [o]⟩
       | .make R=>⟨fun ih pend E h nx k=>bif yJ P l R n (tV l R E) h nx then (match wm P (tV l R E) h nx o.op with | .val c h nx=>r.run ih (tO o pend) (p.run c (tV l R E)) h nx k | _=>.bad 34 [o]) else .bad 35 [o]⟩)
     | none=>⟨fun _ _ _ _ _ _=>.bad 25 [o]⟩)
   | some _=>⟨fun _ _ _ _ _ _=>.bad 30 [o]⟩)
 | none=>⟨fun _ _ _ _ _ _=>.bad 31 []⟩) plan
section
variable {P:Program} {Φ:Imm→Prop} {pr:uQ}
theorem BA {c':Cmd} {r r':Res} (H:tA P Φ c' r) (l:List Oper) (plan:List (Nat×Pk)) (pend:Pd) (n:Nat) (E:Tr CV) (h:Tr CB) (nx:Nat) (e:step P [] (Si c' r) (.reg l plan pend n E h nx)=r'):tA P Φ (.reg l plan pend n E h nx) r':=by
 rw [←e];exact Ae (Nd H) l plan pend n E h nx
theorem BB {l:List Oper} {E:Tr CV} {o:Oper} (h:o.guard=none):PR l E o=some true:=by unfold PR;rw [h]
theorem KV {l:List Oper} {plan:List (Nat×Pk)} {pend:Pd} {n i:Nat} {E E':Tr CV} {h:Tr CB} {nx:Nat} {o:Oper} {c:CV} {r:Res} (hl:Ed l i=some o) (hg:o.guard=none) (hq:qv P E h o.op=some c) (hp:xU E n o.dst c=some E')
 (H:tA P Φ (.reg l plan (Vy o i nx E pend) n E' h nx) r):tA P Φ (.reg l ((i,.look) :: plan) pend n E h nx) r:=by
 refine BA H l _ pend n E h nx ?_
 show Fz P [] _ l ((i,.look) :: plan) pend n E h nx=_
 unfold Fz
 simp only [hl,BB hg,gE,hq,hp]
 exact xZ _ _
theorem EU {l:List Oper} {plan:List (Nat×Pk)} {pend:Pd} {n i:Nat} {E E':Tr CV} {h h':Tr CB} {nx nx':Nat} {o:Oper} {r:Res} (hl:Ed l i=some o) (hg:o.guard=none) (H1:tA P Φ (.one o n E h nx) (.ok .normal E' h' nx')) (hk:xL h' (tO o pend)=true)
 (H2:tA P Φ (.reg l plan (tO o pend) n E' h' nx') r):tA P Φ (.reg l ((i,.only) :: plan) pend n E h nx) r:=by
 have H:=Ae (pr:=[]) (Gl H1 H2) l ((i,.only) :: plan) pend n E h nx
 have e:step P [] (Of (.one o n E h nx) (.ok .normal E' h' nx') (.reg l plan (tO o pend) n E' h' nx') r) (.reg l ((i,.only) :: plan) pend n E h nx)=r:=by
  show Fz P [] _ l ((i,.only) :: plan) pend n E h nx=_
  unfold Fz
  simp only [hl,BB hg,gE,mD,Sj,hk]
  exact Sk Ii _ _
 rw [e] at H
 exact H
theorem KW {l:List Oper} {plan:List (Nat×Pk)} {R:List Nat} {pend:Pd} {n i:Nat} {E E':Tr CV} {h h':Tr CB} {nx nx':Nat} {o:Oper} {r:Res} (hl:Ed l i=some o) (hq:yJ P l R n (tV l R E) h nx=true) (H1:tA P Φ (.one o n (tV l R E) h nx) (.ok .normal E' h' nx')) (hk:xL h' (tO o pend)=true)
 (H2:tA P Φ (.reg l plan (tO o pend) n E' h' nx') r):tA P Φ (.reg l ((i,.race R) :: plan) pend n E h nx) r:=by
 have H:=Ae (pr:=[]) (Gl H1 H2) l ((i,.race R) :: plan) pend n E h nx
 have e:step P [] (Of (.one o n (tV l R E) h nx) (.ok .normal E' h' nx') (.reg l plan (tO o pend) n E' h' nx') r) (.reg l ((i,.race R) :: plan) pend n E h nx)=r:=by
  show Fz P [] _ l ((i,.race R) :: plan) pend n E h nx=_
  unfold Fz
  simp only [hl,hq,gE,Sj,hk]
  exact Sk Ii _ _
 rw [e] at H
 exact H
theorem KX {l:List Oper} {plan:List (Nat×Pk)} {R:List Nat} {pend:Pd} {n i:Nat} {E E':Tr CV} {h h':Tr CB} {nx nx':Nat} {o:Oper} {c:CV} {r:Res} (hl:Ed l i=some o) (hq:yJ P l R n (tV l R E) h nx=true) (hw:wm P (tV l R E) h nx o.op=.val c h' nx') (hp:xU (tV l R E) n o.dst c=some E')
 (H:tA P Φ (.reg l plan (tO o pend) n E' h' nx') r):tA P Φ (.reg l ((i,.make R) :: plan) pend n E h nx) r:=by
 refine BA H l _ pend n E h nx ?_
 show Fz P [] _ l ((i,.make R) :: plan) pend n E h nx=_
 unfold Fz
 simp only [hl,hq,gE,hw,hp]
 exact xZ _ _
theorem Gn {ih:Cmd→Res} (H:Yi P Φ ih) (l:List Oper) (n:Nat):∀ (plan:List (Nat×Pk)) (pend:Pd) (E:Tr CV) (h:Tr CB) (nx:Nat),Ig ((Nf P pr n l plan).run ih pend E h nx) (fun E' h' nx'=>tA P Φ (.reg l plan pend n E h nx) (.ok .normal E' h' nx'))
 | [],pend,E,h,nx=>.inr ⟨E,h,nx,fun k=>rfl,Ae (pr:=[]) (zP (P:=P) (Φ:=Φ)) l [] pend n E h nx⟩
 | (i,lk) :: plan,pend,E,h,nx=>by
   show Ig ((match Ed l i with
    | some o=>(match o.guard with
      | none=>(match Yk n o.dst with
        | some p=>((match lk with
          | .look=>⟨fun ih pend E h nx k=>Option.rec (motive:=fun _=>Res) (.bad 26 [o]) (fun c=>(Nf P pr n l plan).run ih (Vy o i nx E pend) (p.run c E) h nx k) (qv P E h o.op)⟩
          | .only=>⟨fun ih pend E h nx k=>(KS P pr o n).run ih E h nx (fun E h nx=>bif xL h (tO o pend) then (Nf P pr n l plan).run ih (tO o pend) E h nx k else .bad 28 [o])⟩
          | .race R=>⟨fun ih pend E h nx k=>bif yJ P l R n (tV l R E) h nx then (KS P pr o n).run ih (tV l R E) h nx (fun E h nx=>bif xL h (tO o pend) then (Nf P pr n l plan).run ih (tO o pend) E h nx k else .bad 28 [o]) else .bad 32 [o]⟩
          | .make R=>⟨fun ih pend E h nx k=>bif yJ P l R n (tV l R E) h nx then (match wm P (tV l R E) h nx o.op with | .val c h nx=>(Nf P pr n l plan).run ih (tO o pend) (p.run c (tV l R E)) h nx k | _=>.bad 34 [o]) else .bad 35 [o]⟩):Cr)
        | none=>⟨fun _ _ _ _ _ _=>.bad 25 [o]⟩)
      | some _=>⟨fun _ _ _ _ _ _=>.bad 30 [o]⟩)
    | none=>⟨fun _ _ _ _ _ _=>.bad 31 []⟩).run ih pend E h nx) _
   cases hl:Ed l i with
   | none=>exact .inl ⟨31,[],fun k=>rfl⟩
   | some o =>
     simp only
     cases hg:o.guard with
     | some g=>exact .inl ⟨30,[o],fun k=>rfl⟩
     | none =>
       simp only
       cases hp:Yk n o.dst with
       | none=>exact .inl ⟨25,[o],fun k=>rfl⟩
       | some p =>
         simp only
         cases lk with
         | look =>
           show Ig (fun k=>Option.rec (motive:=fun _=>Res) (.bad 26 [o]) (fun c=>(Nf P pr n l plan).run ih (Vy o i nx E pend) (p.run c E) h nx k) (qv P E h o.op)) _
           cases hq:qv P E h o.op with
           | none=>exact .inl ⟨26,[o],fun k=>rfl⟩
           | some c =>
             rcases Gn H l n plan (Vy o i nx E pend) (p.run c E) h nx with ⟨w,a,hb⟩ | ⟨E2,h2,nx2,hk,hd⟩
             · exact .inl ⟨w,a,fun k=>hb k⟩
             · exact .inr ⟨E2,h2,nx2,fun k=>hk k,KV hl hg hq (Jx hp E c) hd⟩
         | only =>
           show Ig (fun k=>(KS P pr o n).run ih E h nx (fun E h nx=>bif xL h (tO o pend) then (Nf P pr n l plan).run ih (tO o pend) E h nx k else .bad 28 [o])) _
           rcases Yl (pr:=pr) o n ih H E h nx with ⟨w,a,hb⟩ | ⟨E1,h1,nx1,hk1,hd1⟩
           · exact .inl ⟨w,a,fun k=>hb _⟩
           · cases hkp:xL h1 (tO o pend) with
             | false=>exact .inl ⟨28,[o],fun k=>(hk1 _).trans (by rw [hkp];rfl)⟩
             | true =>
               rcases Gn H l n plan (tO o pend) E1 h1 nx1 with ⟨w,a,hb⟩ | ⟨E2,h2,nx2,hk,hd⟩
               · exact .inl ⟨w,a,fun k=>(hk1 _).trans (by rw [hkp];exact hb k)⟩
               · exact .inr ⟨E2,h2,nx2,fun k=>(hk1 _).trans (by rw [hkp];exact hk k),EU hl hg hd1 hkp hd⟩
         | race R =>
           show Ig (fun k=>bif yJ P l R n (tV l R E) h nx then (KS P pr o n).run ih (tV l R E) h nx (fun E h nx=>bif xL h (tO o pend) then (Nf P pr n l plan).run ih (tO o pend) E h nx k else .bad 28 [o]) else .bad 32 [o]) _
           cases hq:yJ P l R n (tV l R E) h nx with
           | false=>exact .inl ⟨32,[o],fun k=>rfl⟩
           | true =>
             simp only [gE]
             rcases Yl (pr:=pr) o n ih H (tV l R E) h nx with ⟨w,a,hb⟩ | ⟨E1,h1,nx1,hk1,hd1⟩
             · exact .inl ⟨w,a,fun k=>hb _⟩
             · cases hkp:xL h1 (tO o pend) with
               | false=>exact .inl ⟨28,[o],fun k=>(hk1 _).trans (by rw [hkp];rfl)⟩
               | true =>
                 rcases Gn H l n plan (tO o pend) E1 h1 nx1 with ⟨w,a,hb⟩ | ⟨E2,h2,nx2,hk,hd⟩
                 · exact .inl ⟨w,a,fun k=>(hk1 _).trans (by rw [hkp];exact hb k)⟩
                 · exact .inr ⟨E2,h2,nx2,fun k=>(hk1 _).trans (by rw [hkp];exact hk k),KW hl hq hd1 hkp hd⟩
         | make R =>
           show Ig (fun k=>bif yJ P l R n (tV l R E) h nx then (match wm P (tV l R E) h nx o.op with | .val c h nx=>(Nf P pr n l plan).run ih (tO o pend) (p.run c (tV l R E)) h nx k | _=>.bad 34 [o]) else .bad 35 [o]) _
           cases hq:yJ P l R n (tV l R E) h nx with
           | false=>exact .inl ⟨35,[o],fun k=>rfl⟩
           | true =>
             simp only [gE]
             cases hw:wm P (tV l R E) h nx o.op with
             | bad=>exact .inl ⟨34,[o],fun k=>rfl⟩
             | unit _ _=>exact .inl ⟨34,[o],fun k=>rfl⟩
             | val c h1 nx1 =>
               rcases Gn H l n plan (tO o pend) (p.run c (tV l R E)) h1 nx1 with ⟨w,a,hb⟩ | ⟨E2,h2,nx2,hk,hd⟩
               · exact .inl ⟨w,a,fun k=>hb k⟩
               exact .inr ⟨E2,h2,nx2,fun k=>hk k,KX hl hq hw (Jx hp _ c) hd⟩
end
def WR (c:Cd) (F:Nat):(Cmd→Res)→Tr CV→Tr CB→Nat→Kx→Res:=
 Nat.rec (motive:=fun _=>(Cmd→Res)→Tr CV→Tr CB→Nat→Kx→Res) (fun _ _ _ _ _=>.bad 0 []) (fun _ r ih E h nx k=>c.run ih E h nx (fun x E h nx=>match x with | .normal=>r ih E h nx k | x=>k x E h nx)) F
def Aw (P:Program) (pr:uQ) (LF:Nat) (n:Nat) (c:Code):Cd:=Code.rec (motive:=fun _=>Cd) ⟨fun _ E h nx k=>k .normal E h nx⟩
 (fun id ops draw=>bif not draw && (ops.toList.all uD && Ih ops.toList) then ⟨fun ih E h nx k=>OU (OV P pr n ops.toList) ih E h nx (fun E h nx=>k .normal E h nx)⟩ else bif draw && (P.follows .mixedOrders && Ih ops.toList) then (match Mq ops.toList with | some p=>⟨fun ih E h nx k=>(Nf P pr n ops.toList p).run ih [] E h nx (fun E h nx=>k .normal E h nx)⟩ | none=>Vx P pr (.region id ops draw) n) else Vx P pr (.region id ops draw) n)
 (fun _ _ a b=>⟨fun ih E h nx k=>a.run ih E h nx (fun x E h nx=>match x with | .normal=>b.run ih E h nx k | x=>k x E h nx)⟩)
 (fun c _ _ a b=>⟨fun ih E h nx k=>match (Sh c).run E with | some (.bool t)=>bif t then a.run ih E h nx k else b.run ih E h nx k | _=>.bad 1 []⟩)
 (fun id _ c=>⟨fun ih E h nx k=>c.run ih E h nx (fun x E h nx=>match x with | .exit id'=>bif Nat.beq id' id then k .normal E h nx else k (.exit id') E h nx | x=>k x E h nx)⟩)
 (fun _ c=>⟨fun ih E h nx k=>WR c LF ih E h nx k⟩)
 (fun g ps asg body _ _=>Vx P pr (.rangeFunc g ps asg body) n)
 (fun id=>⟨fun _ E h nx k=>k (.exit id) E h nx⟩)
 (fun _ c=>⟨fun ih E h nx k=>c.run ih E h nx (fun x E h nx=>match x with | .normal=>k .normal E h nx | .ret=>k .ret E h nx | .exit id=>k (.exit id) E h nx | _=>.bad 22 [])⟩)
 (fun _=>⟨fun _ E h nx k=>k .normal E h nx⟩)
 (fun l=>Vx P pr (.goto l) n)
 ⟨fun _ E h nx k=>k .ret E h nx⟩
 (fun s=>Vx P pr (.refuse s) n) c
section
variable {P:Program} {Φ:Imm→Prop} {pr:uQ}
def SI (id:Nat) (x:Exit) (E:Tr CV) (h:Tr CB) (nx:Nat):Res:=match x with | .exit id'=>bif Nat.beq id' id then .ok .normal E h nx else .ok (.exit id') E h nx | x=>.ok x E h nx
def dt (x:Exit) (E:Tr CV) (h:Tr CB) (nx:Nat):Res:=match x with | .normal=>.ok .normal E h nx | .ret=>.ok .ret E h nx | .exit id=>.ok (.exit id) E h nx | _=>.bad 22 []
section rules
variable {a b c:Code} {n:Nat} {E E1 E2:Tr CV} {h h1 h2:Tr CB} {nx nx1 nx2:Nat} {x:Exit} {r:Res}
theorem KY (H1:tA P Φ (.code a n E h nx) (.ok .normal E1 h1 nx1)) (H2:tA P Φ (.code b n E1 h1 nx1) (.ok x E2 h2 nx2)):tA P Φ (.code (.seq a b) n E h nx) (.ok x E2 h2 nx2):=by
 intro r ρ w0 ac w hR hf hn hrr Q hQ
 refine wpIn_seq (H1 r ρ w0 ac w hR hf hn (hrr.imp id fun q=>(aC _ _▸(show (Sn a && Sn b)=true from q)).1) _ fun ρ' a' w' e1 e2=>?_)
 exact H2 r ρ' w0 a' w' e2 e1.fit hn (hrr.imp id fun q=>(aC _ _▸(show (Sn a && Sn b)=true from q)).2) Q fun ρ2 a2 w2 f1 f2=>hQ ρ2 a2 w2 (e1.trans hR.mem f1) f2
theorem zJ {c':Cmd} (H:tA P Φ c' r) (n:Nat) (E:Tr CV) (h:Tr CB) (nx:Nat) (c:Code) (r':Res) (e:step P [] (Si c' r) (.code c n E h nx)=r'):tA P Φ (.code c n E h nx) r':=by
 rw [←e];exact xV (Nd H) c n E h nx
theorem KZ (hx:x≠.normal) (H1:tA P Φ (.code a n E h nx) (.ok x E1 h1 nx1)):tA P Φ (.code (.seq a b) n E h nx) (.ok x E1 h1 nx1):=by
 refine zJ H1 n E h nx _ _ ?_
 show SE P _ n E h nx a b=_
 unfold SE
 rw [xZ]
 cases x <;> first | exact absurd rfl hx | rfl
theorem Vz {id:Nat} {l:List Oper} (hd:l.all uD=true) (H1:tA P Φ (.ops l l n E h nx) r):tA P Φ (.code (.region id ⟨l⟩ false) n E h nx) r:=by
 refine zJ H1 n E h nx _ _ ?_
 show (bif l.all uD then Si (.ops l l n E h nx) r (.ops l l n E h nx) else Res.bad 2 [])=_
 rw [hd]
 exact xZ _ _
theorem EV {id:Nat} {l:List Oper} {p:List (Nat×Pk)} (hf:P.follows .mixedOrders=true) (hp:Mq l=some p) (H1:tA P Φ (.reg l p [] n E h nx) r):tA P Φ (.code (.region id ⟨l⟩ true) n E h nx) r:=by
 refine zJ H1 n E h nx _ _ ?_
 show KJ P _ n E h nx l=_
 unfold KJ
 rw [hf,hp]
 exact xZ _ _
theorem Qg {o:Operand} {t:Bool} (ht:uM E o=some (.bool t)) (H1:tA P Φ (.code (bif t then a else b) n E h nx) r):tA P Φ (.code (.cond o a b) n E h nx) r:=by
 refine zJ H1 n E h nx _ _ ?_
 show (match uM E o with
  | some (.bool t)=>Si _ r (.code (bif t then a else b) n E h nx)
  | _=>Res.bad 1 [])=_
 rw [ht]
 exact xZ _ _
theorem Ym {id:Nat} (H1:tA P Φ (.code c n E h nx) (.ok x E1 h1 nx1)):tA P Φ (.code (.block id c) n E h nx) (SI id x E1 h1 nx1):=by
 refine zJ H1 n E h nx _ _ ?_
 show SF P _ n E h nx id c=_
 unfold SF
 rw [xZ]
 cases x <;> rfl
theorem Yn (H1:tA P Φ (.code c n E h nx) (.ok x E1 h1 nx1)):tA P Φ (.code (.scope c) n E h nx) (dt x E1 h1 nx1):=by
 refine zJ H1 n E h nx _ _ ?_
 show SG P _ n E h nx c=_
 unfold SG
 rw [xZ]
 cases x <;> rfl
theorem EW (H1:tA P Φ (.loop c n E h nx) r):tA P Φ (.code (.loop c) n E h nx) r:=zJ H1 n E h nx _ _ (xZ _ _)
theorem EX (H1:tA P Φ (.code c n E h nx) (.ok .normal E1 h1 nx1)) (H2:tA P Φ (.loop c n E1 h1 nx1) r):tA P Φ (.loop c n E h nx) r:=by
 have H:=step_loop (pr:=[]) (Gl H1 H2) c n E h nx
 have e:step P [] (Of (.code c n E h nx) (.ok .normal E1 h1 nx1) (.loop c n E1 h1 nx1) r) (.loop c n E h nx)=r:=by
  show Vo P [] _ c n E h nx=_
  unfold Vo
  rw [Sj]
  exact Sk Ii _ _
 rw [e] at H
 exact H
theorem LA (hx:x≠.normal) (H1:tA P Φ (.code c n E h nx) (.ok x E1 h1 nx1)):tA P Φ (.loop c n E h nx) (.ok x E1 h1 nx1):=by
 have H:=step_loop (pr:=[]) (Nd H1) c n E h nx
 have e:step P [] (Si (.code c n E h nx) (.ok x E1 h1 nx1)) (.loop c n E h nx)=.ok x E1 h1 nx1:=by
  show Vo P [] _ c n E h nx=_
  unfold Vo
  rw [xZ]
  cases x <;> first | exact absurd rfl hx | rfl
 rw [e] at H
 exact H
end rules
theorem LB {cd:Cd} {c:Code} {n:Nat} (H:ER P Φ cd c n) {ih:Cmd→Res} (hi:Yi P Φ ih):∀ (F:Nat) (E:Tr CV) (h:Tr CB) (nx:Nat),Nb (WR cd F ih E h nx) (fun x E' h' nx'=>tA P Φ (.loop c n E h nx) (.ok x E' h' nx'))
 | 0,E,h,nx=>.inl ⟨0,[],fun k=>rfl⟩
 | F+1,E,h,nx=>by
   show Nb (fun k=>cd.run ih E h nx (fun x E h nx=>match x with | .normal=>WR cd F ih E h nx k | x=>k x E h nx)) _
   rcases H ih hi E h nx with ⟨w,a,hb⟩ | ⟨x,E1,h1,nx1,hk,hd⟩
   · exact .inl ⟨w,a,fun k=>hb _⟩
   have pass:x≠.normal→Nb (fun k=>cd.run ih E h nx (fun x E h nx=>match x with | .normal=>WR cd F ih E h nx k | x=>k x E h nx)) (fun x E' h' nx'=>tA P Φ (.loop c n E h nx) (.ok x E' h' nx')):=fun hx =>
    .inr ⟨x,E1,h1,nx1,fun k=>(hk _).trans (by cases x <;> first | exact absurd rfl hx | rfl),LA hx hd⟩
   cases x with
   | normal =>
     rcases LB H hi F E1 h1 nx1 with ⟨w,a,hb⟩ | ⟨x2,E2,h2,nx2,hk2,hd2⟩
     · exact .inl ⟨w,a,fun k=>(hk _).trans (hb k)⟩
     · exact .inr ⟨x2,E2,h2,nx2,fun k=>(hk _).trans (hk2 k),EX hd hd2⟩
   | _=>exact pass Ii
theorem LC (hpr:zI P Φ pr) (LF n:Nat) (c:Code):ER P Φ (Aw P pr LF n c) c n:=by
 induction c with
 | skip=>exact fun ih H E h nx=>.inr ⟨.normal,E,h,nx,fun k=>rfl,xV (pr:=[]) (zP (P:=P) (Φ:=Φ)) .skip n E h nx⟩
 | label l=>exact fun ih H E h nx=>.inr ⟨.normal,E,h,nx,fun k=>rfl,xV (pr:=[]) (zP (P:=P) (Φ:=Φ)) (.label l) n E h nx⟩
 | exit id=>exact fun ih H E h nx=>.inr ⟨.exit id,E,h,nx,fun k=>rfl,xV (pr:=[]) (zP (P:=P) (Φ:=Φ)) (.exit id) n E h nx⟩
 | ret=>exact fun ih H E h nx=>.inr ⟨.ret,E,h,nx,fun k=>rfl,xV (pr:=[]) (zP (P:=P) (Φ:=Φ)) .ret n E h nx⟩
 | goto l=>exact Gk hpr (.goto l) n
 | refuse s=>exact Gk hpr (.refuse s) n
 | rangeFunc g ps asg body _ _=>exact Gk hpr (.rangeFunc g ps asg body) n
 | region id ops draw =>
   show ER P Φ (bif not draw && (ops.toList.all uD && Ih ops.toList) then ⟨fun ih E h nx k=>OU (OV P pr n ops.toList) ih E h nx (fun E h nx=>k .normal E h nx)⟩ else bif draw && (P.follows .mixedOrders && Ih ops.toList) then (match Mq ops.toList with | some p=>⟨fun ih E h nx k=>(Nf P pr n ops.toList p).run ih [] E h nx (fun E h nx=>k .normal E h nx)⟩ | none=>Vx P pr (.region id ops draw) n) else Vx P pr (.region id ops draw) n) (.region id ops draw) n
   refine tD (fun d=>ER P Φ d (.region id ops draw) n) (fun hb=>?_) fun _=>tD (fun d=>ER P Φ d (.region id ops draw) n) (fun hb=>?_) fun _=>Gk hpr (.region id ops draw) n
   rotate_left
   · simp only [aC] at hb
     obtain ⟨hb1,hb2,hb3⟩:=hb
     obtain ⟨l⟩:=ops
     cases draw with
     | false=>cases hb1
     | true =>
       split
       · rename_i p hp
         intro ih H E h nx
         rcases Gn H l n p [] E h nx with ⟨w,a,hb⟩ | ⟨E2,h2,nx2,hk,hd⟩
         · exact .inl ⟨w,a,fun k=>hb _⟩
         exact .inr ⟨.normal,E2,h2,nx2,fun k=>hk _,EV hb2 hp hd⟩
       exact Gk hpr (.region id ⟨l⟩ true) n
   simp only [aC] at hb
   obtain ⟨hb1,hb2,hb3⟩:=hb
   intro ih H E h nx
   obtain ⟨l⟩:=ops
   cases draw with
   | true=>cases hb1
   | false =>
     rcases AZ H l n l E h nx hb3 with ⟨w,a,hb⟩ | ⟨E2,h2,nx2,hk,hd⟩
     · exact .inl ⟨w,a,fun k=>hb _⟩
     · exact .inr ⟨.normal,E2,h2,nx2,fun k=>hk _,Vz hb2 hd⟩
 | seq a b iha ihb =>
   intro ih H E h nx
   show Nb (fun k=>(Aw P pr LF n a).run ih E h nx (fun x E h nx=>match x with | .normal=>(Aw P pr LF n b).run ih E h nx k | x=>k x E h nx)) _
   rcases iha ih H E h nx with ⟨w,ac,hb⟩ | ⟨x,E1,h1,nx1,hk,hd⟩
   · exact .inl ⟨w,ac,fun k=>hb _⟩
   · have pass:x≠.normal→Nb (fun k=>(Aw P pr LF n a).run ih E h nx (fun x E h nx=>match x with | .normal=>(Aw P pr LF n b).run ih E h nx k | x=>k x E h nx)) (fun x E' h' nx'=>tA P Φ (.code (.seq a b) n E h nx) (.ok x E' h' nx')):=fun hx =>
      .inr ⟨x,E1,h1,nx1,fun k=>(hk _).trans (by cases x <;> first | exact absurd rfl hx | rfl),KZ hx hd⟩
     cases x with
     | normal =>
       rcases ihb ih H E1 h1 nx1 with ⟨w,ac,hb⟩ | ⟨x2,E2,h2,nx2,hk2,hd2⟩
       · exact .inl ⟨w,ac,fun k=>(hk _).trans (hb k)⟩
       · exact .inr ⟨x2,E2,h2,nx2,fun k=>(hk _).trans (hk2 k),KY hd hd2⟩
     | _=>exact pass Ii
 | cond o a b iha ihb =>
   intro ih H E h nx
   show Nb (fun k=>match (Sh o).run E with | some (.bool t)=>bif t then (Aw P pr LF n a).run ih E h nx k else (Aw P pr LF n b).run ih E h nx k | _=>.bad 1 []) _
   rw [xH]
   split
   · rename_i t ht
     cases t with
     | true =>
       rcases iha ih H E h nx with ⟨w,ac,hb⟩ | ⟨x2,E2,h2,nx2,hk2,hd2⟩
       · exact .inl ⟨w,ac,fun k=>hb k⟩
       · exact .inr ⟨x2,E2,h2,nx2,fun k=>hk2 k,Qg ht hd2⟩
     | false =>
       rcases ihb ih H E h nx with ⟨w,ac,hb⟩ | ⟨x2,E2,h2,nx2,hk2,hd2⟩
       · exact .inl ⟨w,ac,fun k=>hb k⟩
       exact .inr ⟨x2,E2,h2,nx2,fun k=>hk2 k,Qg ht hd2⟩
   · exact .inl ⟨1,[],fun k=>rfl⟩
 | block id c ihc =>
   intro ih H E h nx
   show Nb (fun k=>(Aw P pr LF n c).run ih E h nx (fun x E h nx=>match x with | .exit id'=>bif Nat.beq id' id then k .normal E h nx else k (.exit id') E h nx | x=>k x E h nx)) _
   rcases ihc ih H E h nx with ⟨w,ac,hb⟩ | ⟨x,E1,h1,nx1,hk,hd⟩
   · exact .inl ⟨w,ac,fun k=>hb _⟩
   · have hr:=Ym (id:=id) hd
     cases x with
     | exit id' =>
       cases hbq:Nat.beq id' id with
       | true =>
         simp only [SI,hbq,gE] at hr
         exact .inr ⟨.normal,E1,h1,nx1,fun k=>(hk _).trans (by simp only [hbq,gE]),hr⟩
       | false =>
         simp only [SI,hbq,mD] at hr
         exact .inr ⟨.exit id',E1,h1,nx1,fun k=>(hk _).trans (by simp only [hbq,mD]),hr⟩
     | normal=>exact .inr ⟨_,E1,h1,nx1,fun k=>hk _,hr⟩
     | ret=>exact .inr ⟨_,E1,h1,nx1,fun k=>hk _,hr⟩
     | goto l=>exact .inr ⟨_,E1,h1,nx1,fun k=>hk _,hr⟩
     | panic ch=>exact .inr ⟨_,E1,h1,nx1,fun k=>hk _,hr⟩
     | outgrown=>exact .inr ⟨_,E1,h1,nx1,fun k=>hk _,hr⟩
 | scope c ihc =>
   intro ih H E h nx
   show Nb (fun k=>(Aw P pr LF n c).run ih E h nx (fun x E h nx=>match x with | .normal=>k .normal E h nx | .ret=>k .ret E h nx | .exit id=>k (.exit id) E h nx | _=>.bad 22 [])) _
   rcases ihc ih H E h nx with ⟨w,ac,hb⟩ | ⟨x,E1,h1,nx1,hk,hd⟩
   · exact .inl ⟨w,ac,fun k=>hb _⟩
   · have hr:=Yn hd
     cases x with
     | normal=>exact .inr ⟨_,E1,h1,nx1,fun k=>hk _,hr⟩
     | ret=>exact .inr ⟨_,E1,h1,nx1,fun k=>hk _,hr⟩
     | exit id=>exact .inr ⟨_,E1,h1,nx1,fun k=>hk _,hr⟩
     | _=>exact .inl ⟨22,[],fun k=>hk _⟩
 | loop c ihc =>
   intro ih H E h nx
   show Nb (fun k=>WR (Aw P pr LF n c) LF ih E h nx k) _
   rcases LB ihc H LF E h nx with ⟨w,ac,hb⟩ | ⟨x,E1,h1,nx1,hk,hd⟩
   · exact .inl ⟨w,ac,fun k=>hb k⟩
   exact .inr ⟨x,E1,h1,nx1,fun k=>hk k,EW hd⟩
def SJ (P:Program) (pr:uQ) (LF:Nat) (ih:Cmd→Res):Cmd→Res
 | .code c n E h nx=>(Aw P pr LF n c).run ih E h nx (fun x E h nx=>.ok x E h nx)
 | c=>ih c
theorem Wa (hpr:zI P Φ pr) (LF:Nat) {ih:Cmd→Res} (H:Yi P Φ ih):Yi P Φ (SJ P pr LF ih):=fun c=>by
 cases c with
 | code c n E h nx =>
   show tA P Φ _ ((Aw P pr LF n c).run ih E h nx (fun x E h nx=>.ok x E h nx))
   rcases LC hpr LF n c ih H E h nx with ⟨w,ac,hb⟩ | ⟨x,E1,h1,nx1,hk,hd⟩
   · rw [hb];exact Cg _ _ _
   · rw [hk];exact hd
 | _=>exact H _
end
def dx (a b:Option Nat):Bool:=match a with
 | none=>(match b with | none=>true | some _=>false)
 | some x=>(match b with | none=>false | some y=>Nat.beq x y)
theorem SK {a b:Option Nat} (h:dx a b=true):a=b:=by
 cases a <;> cases b <;> first | rfl | (cases h;done) | (exact congrArg some (aD h))
def LD (a:CV):CV→Bool:=CV.rec (motive:=fun _=>CV→Bool)
 (fun k n b=>match b with | .int k' n'=>EY k k' && Hx n n' | _=>false)
 (fun x b=>match b with | .bool y=>SD x y | _=>false)
 (fun _ ih b=>match b with | .str s=>ih s | _=>false)
 (fun t o b=>match b with | .ptr t' o'=>Nat.beq t t' && Nat.beq o o' | _=>false)
 (fun b=>match b with | .nilp=>true | _=>false)
 (fun t o n sz c b=>match b with | .sl t' o' n' sz' c'=>Nat.beq t t' && (Nat.beq o o' && (Nat.beq n n' && (Nat.beq sz sz' && dx c c'))) | _=>false)
 (fun b=>match b with | .nils=>true | _=>false)
 (fun b=>match b with | .sle=>true | _=>false)
 (fun t b=>match b with | .mp t'=>Nat.beq t t' | _=>false)
 (fun b=>match b with | .nilm=>true | _=>false)
 (fun f _ _ i1 i2 b=>match b with | .fn f' x y=>Nat.beq f f' && (i1 x && i2 y) | _=>false)
 (fun b=>match b with | .nilf=>true | _=>false)
 (fun t b=>match b with | .yl t'=>Nat.beq t t' | _=>false)
 (fun _ ih b=>match b with | .agg l=>ih l | _=>false)
 (fun _ ih b=>match b with | .tup l=>ih l | _=>false)
 (fun b=>match b with | .nil=>true | _=>false)
 (fun _ _ i1 i2 b=>match b with | .cons x y=>i1 x && i2 y | _=>false) a
theorem Ec {a b:Nat} (h:Nat.beq a b=true):a=b:=aD h
theorem LG {a b:Bool} (h:SD a b=true):a=b:=by cases a <;> cases b <;> first | rfl | cases h
theorem Yo:∀ {a b:CV},LD a b=true→a=b:=by
 intro a
 induction a with
 | int k n =>
   intro b h
   cases b <;> first | (cases h;done) | skip
   rename_i k' n'
   have h':(EY k k' && Hx n n')=true:=h
   rw [aC] at h'
   rw [Hb h'.1,rU ((wM n n').symm.trans h'.2)]
 | bool x=>intro b h;cases b <;> first | (cases h;done) | (exact congrArg _ (LG h))
 | str s ih=>intro b h;cases b <;> first | (cases h;done) | (exact congrArg _ (ih h))
 | ptr t o =>
   intro b h
   cases b <;> first | (cases h;done) | skip
   rename_i t' o'
   have h':(Nat.beq t t' && Nat.beq o o')=true:=h
   rw [aC] at h'
   rw [Ec h'.1,Ec h'.2]
 | nilp=>intro b h;cases b <;> first | rfl | cases h
 | sl t o n sz c =>
   intro b h
   cases b <;> first | (cases h;done) | skip
   rename_i t' o' n' sz' c'
   have h':(Nat.beq t t' && (Nat.beq o o' && (Nat.beq n n' && (Nat.beq sz sz' && dx c c'))))=true:=h
   simp only [aC] at h'
   rw [Ec h'.1,Ec h'.2.1,Ec h'.2.2.1,Ec h'.2.2.2.1,SK h'.2.2.2.2]
 | nils=>intro b h;cases b <;> first | rfl | cases h
 | sle=>intro b h;cases b <;> first | rfl | cases h
 | mp t=>intro b h;cases b <;> first | (cases h;done) | (exact congrArg _ (Ec h))
 | nilm=>intro b h;cases b <;> first | rfl | cases h
 | fn f x y i1 i2 =>
   intro b h
   cases b <;> first | (cases h;done) | skip
   rename_i f' x' y'
   have h':(Nat.beq f f' && (LD x x' && LD y y'))=true:=h
   simp only [aC] at h'
   rw [Ec h'.1,i1 h'.2.1,i2 h'.2.2]
 | nilf=>intro b h;cases b <;> first | rfl | cases h
 | yl t=>intro b h;cases b <;> first | (cases h;done) | (exact congrArg _ (Ec h))
 | agg l ih=>intro b h;cases b <;> first | (cases h;done) | (exact congrArg _ (ih h))
 | tup l ih=>intro b h;cases b <;> first | (cases h;done) | (exact congrArg _ (ih h))
 | nil=>intro b h;cases b <;> first | rfl | cases h
 | cons x y i1 i2 =>
   intro b h
   cases b <;> first | (cases h;done) | skip
   rename_i x' y'
   have h':(LD x x' && LD y y')=true:=h
   rw [aC] at h'
   rw [i1 h'.1,i2 h'.2]
structure EB where
 t:Nat
 l:CV
 ty:Nat
 op:Bool
 ro:Bool
 st:Nat
def EB.cb (x:EB):CB:=bif x.ro then .ro (Nw x.l) x.ty x.st else .cells (Nw x.l) x.ty x.op x.st
def uI (h:Tr CB) (l:List EB):Tr CB:=List.rec h (fun x _ ih=>ih.set (some x.cb) tE x.t) l
def Df (g:Bool) (h:Tr CB) (x:EB):Bool:=match h.get x.t with
 | some (.cells l ty op st)=>not x.ro && (Nat.beq l.n (tW x.l) && (LD (uE l 0 l.n) x.l && (Nat.beq ty x.ty && (SD op x.op && (not g || Nat.beq st x.st)))))
 | some (.ro l ty st)=>x.ro && (Nat.beq l.n (tW x.l) && (LD (uE l 0 l.n) x.l && (Nat.beq ty x.ty && (not g || Nat.beq st x.st))))
 | _=>false
theorem LH (x:EB):Rr x.cb=x.st:=by
 unfold EB.cb
 cases x.ro <;> rfl
theorem Ag {g:Bool} {h:Tr CB} {x:EB} (hx:Df g h x=true):∃ b,h.get x.t=some b∧(g=true→Rr b=x.st)∧∀ (nx:Nat) (ρ:Pl) (s:Nat) (o:Obj),DB nx ρ s b o→DB nx ρ s x.cb o:=by
 unfold Df at hx
 have key:∀ {l:Rw},Nat.beq l.n (tW x.l)=true→LD (uE l 0 l.n) x.l=true→∀ {nx:Nat} {ρ:Pl} {vs:List Value},RL nx ρ l vs→RL nx ρ (Nw x.l) vs:=fun {l} h1 h2 {nx ρ vs} hr=>by
  have e1:=Yo h2
  have e2:=Ec h1
  have hl:tW (uE l 0 l.n)=l.n:=by rw [e1,←e2]
  have hk:=xS hr hl
  rw [e1,hr.1] at hk
  simp only [iZ,eQ] at hk
  exact Ru hk
 split at hx
 · rename_i l ty op st hb
   simp only [aC,eD] at hx
   obtain ⟨h1,h2,h3,h4,h5,h6⟩:=hx
   refine ⟨_,hb,fun hg=>?_,fun nx ρ s o hd=>?_⟩
   · subst hg;show st=x.st;simpa using h6
   unfold EB.cb
   rw [h1]
   obtain ⟨vs,junk,k1,k2,k3,k4⟩:=hd
   refine ⟨vs,junk,key h2 h3 k1,by rw [←Ec h4];exact k2,k3,fun ho=>k4 (by rw [LG h5];exact ho)⟩
 · rename_i l ty st hb
   simp only [aC] at hx
   obtain ⟨h1,h2,h3,h4,h6⟩:=hx
   refine ⟨_,hb,fun hg=>?_,fun nx ρ s o hd=>?_⟩
   · subst hg;show st=x.st;simpa using h6
   unfold EB.cb
   rw [h1]
   obtain ⟨vs,fz,k1,k2⟩:=hd
   exact ⟨vs,fz,key h2 h3 k1,by rw [←Ec h4];exact k2⟩
 cases hx
theorem wJ (h:Tr CB):∀ {l:List EB},(∀ x∈l,x.t<tE)→∀ {t:Nat} {b:CB},(uI h l).get t=some b→(∃ x∈l,x.t=t∧x.cb=b)∨((∀ x∈l,x.t≠t)∧h.get t=some b)
 | [],_,t,b,hg=>.inr ⟨fun x hx=>(by cases hx),hg⟩
 | x :: l,hl,t,b,hg=>by
   have hg':((uI h l).set (some x.cb) tE x.t).get t=some b:=hg
   rw [eP _ _ _ _ _ (hl x (bP ..))] at hg'
   by_cases e:t=x.t
   · rw [aR e] at hg'
     cases hg'
     exact .inl ⟨x,bP ..,e.symm,rfl⟩
   rw [aL e] at hg'
   rcases wJ h (fun y hy=>hl y (bB _ hy)) hg' with ⟨y,h1,h2⟩ | ⟨h1,h2⟩
   · exact .inl ⟨y,bB _ h1,h2⟩
   refine .inr ⟨fun y hy=>?_,h2⟩
   rcases dF.1 hy with rfl | hy
   · exact fun e2=>e e2.symm
   exact h1 y hy
theorem Cu (h:Tr CB):∀ {l:List EB},(∀ x∈l,x.t<tE)→∀ {t:Nat},((∃ x∈l,x.t=t)∨(∃ b,h.get t=some b))→∃ b,(uI h l).get t=some b
 | [],_,t,hg=>hg.elim (fun ⟨x,hx,_⟩=>by cases hx) id
 | x :: l,hl,t,hg=>by
   show ∃ b,((uI h l).set (some x.cb) tE x.t).get t=some b
   rw [eP _ _ _ _ _ (hl x (bP ..))]
   by_cases e:t=x.t
   · exact ⟨_,aR e⟩
   rw [aL e]
   refine Cu h (fun y hy=>hl y (bB _ hy)) (hg.imp ?_ id)
   rintro ⟨y,hy,h2⟩
   rcases dF.1 hy with rfl | hy
   · exact absurd h2.symm e
   exact ⟨y,hy,h2⟩
structure Ent where
 f:Nat
 nx:Nat
 args:CV
 hs:List EB
 v:CV
 news:List EB
 nx':Nat
def BC (mm:List Ent) (f:Nat) (args:CV) (h:Tr CB) (nx:Nat):Option Ent:=
 List.rec none (fun e _ ih=>bif Nat.beq e.f f && (Nat.beq e.nx nx && (LD e.args args && Fx (Df false h) e.hs)) then some e else ih) mm
def WS (mm:List Ent) (c:Cmd) (r:Res):Res:=match c with
 | .call f args h nx=>(match BC mm f args h nx with | some e=>.ret e.v (uI h e.news) e.nx' | none=>r)
 | _=>r
def OX (e:Ent):Bool:=Nat.ble e.nx e.nx' && (Nat.ble e.nx' tE && (Fx (fun x=>Nat.ble (Nat.succ x.t) e.nx && Nat.ble (Nat.succ x.st) e.nx) e.hs && Fx (fun x=>Nat.ble e.nx x.t && (Nat.ble (Nat.succ x.t) e.nx' && (Nat.ble e.nx x.st && Nat.ble (Nat.succ x.st) e.nx'))) e.news))
def Ax (P:Program) (Φ:Imm→Prop) (e:Ent):Prop:=OX e=true∧tA P Φ (.call e.f e.args (uI .e e.hs) e.nx) (.ret e.v (uI (uI .e e.hs) e.news) e.nx')
def MemoOk (P:Program) (Φ:Imm→Prop) (mm:List Ent):Prop:=∀ e∈mm,Ax P Φ e
section
variable {P:Program} {Φ:Imm→Prop} {pr:uQ}
theorem BD {e:Ent} (h:OX e=true):e.nx≤e.nx'∧e.nx'≤tE∧(∀ x∈e.hs,x.t<e.nx∧x.st<e.nx)∧∀ x∈e.news,e.nx≤x.t∧x.t<e.nx'∧e.nx≤x.st∧x.st<e.nx':=by
 unfold OX at h
 simp only [aC] at h
 refine ⟨tL h.1,tL h.2.1,fun x hx=>?_,fun x hx=>?_⟩
 · have:=vU.1 h.2.2.1 x hx
   rw [aC] at this
   exact ⟨tL this.1,tL this.2⟩
 have:=vU.1 h.2.2.2 x hx
 simp only [aC] at this
 exact ⟨tL this.1,tL this.2.1,tL this.2.2.1,tL this.2.2.2⟩
theorem LI {mm:List Ent} {f nx:Nat} {args:CV} {h:Tr CB} {e:Ent} (hl:BC mm f args h nx=some e):e∈mm∧e.f=f∧e.nx=nx∧e.args=args∧∀ x∈e.hs,Df false h x=true:=by
 induction mm with
 | nil=>cases hl
 | cons a mm ih =>
   have hl':(bif Nat.beq a.f f && (Nat.beq a.nx nx && (LD a.args args && Fx (Df false h) a.hs)) then some a else BC mm f args h nx)=some e:=hl
   rcases sY hl' with ⟨h1,h2⟩ | ⟨_,h2⟩
   · cases h2
     simp only [aC] at h1
     exact ⟨bP ..,Ec h1.1,Ec h1.2.1,Yo h1.2.2.1,fun x hx=>vU.1 h1.2.2.2 x hx⟩
   obtain ⟨k1,k2⟩:=ih h2
   exact ⟨bB _ k1,k2⟩
theorem Mem.part {ρ:Pl} {w0:Bas Φ} {h:Tr CB} {nx:Nat} {w:World} {hs:List EB} (hm:Mem ρ w0 h nx w) (hlt:∀ x∈hs,x.t<tE) (hst:∀ x∈hs,x.st<nx) (hhas:∀ x∈hs,Df false h x=true):Mem ρ w0 (uI .e hs) nx w:=by
 have key:∀ {t b},(uI .e hs).get t=some b→∃ x∈hs,x.t=t∧x.cb=b:=fun hb=>(wJ .e hlt hb).elim id fun h=>by cases h.2
 have old:∀ {t b},(uI .e hs).get t=some b→∃ c,h.get t=some c:=fun hb=>by
  obtain ⟨x,hx,rfl,_⟩:=key hb
  obtain ⟨c,h1,_⟩:=Ag (hhas x hx)
  exact ⟨c,h1⟩
 refine ⟨hm.upd,fun t b hb=>?_,fun t t' b b' h1 h2 he=>?_,hm.imm,hm.nod,fun c hc=>⟨(hm.kept c hc).1,(hm.kept c hc).2.1,fun t b hb=>?_⟩⟩
 · obtain ⟨x,hx,rfl,rfl⟩:=key hb
   obtain ⟨c,h1,_,h3⟩:=Ag (hhas x hx)
   obtain ⟨q1,q2,q3,o,q4,q5⟩:=hm.own _ _ h1
   exact ⟨q1,by rw [LH];exact hst x hx,q3,o,q4,h3 _ _ _ _ q5⟩
 · obtain ⟨c,k1⟩:=old h1
   obtain ⟨c',k2⟩:=old h2
   exact hm.one _ _ _ _ k1 k2 he
 obtain ⟨c',k1⟩:=old hb
 exact (hm.kept c hc).2.2 _ _ k1
theorem OY {mm:List Ent} (hmm:MemoOk P Φ mm) {c:Cmd} {r:Res} (hr:tA P Φ c r):tA P Φ c (WS mm c r):=by
 cases c with
 | call f args h nx =>
   show tA P Φ _ (match BC mm f args h nx with | some e=>.ret e.v (uI h e.news) e.nx' | none=>r)
   split
   · rename_i e he
     obtain ⟨h1,rfl,rfl,rfl,h2⟩:=LI he
     obtain ⟨hb,hf,hd⟩:=hmm e h1
     obtain ⟨b1,b2,b3,b4⟩:=BD hb
     refine ⟨hf,fun ρ w0 w vs hm hk hfit=>?_⟩
     have hlt:∀ x∈e.hs,x.t<tE:=fun x hx=>bS (b3 x hx).1 (aO b1 b2)
     have hlt':∀ x∈e.news,x.t<tE:=fun x hx=>bS (b4 x hx).2.1 b2
     have m0:=hm.part hlt (fun x hx=>(b3 x hx).2) h2
     refine (hd ρ w0 w vs m0 hk hfit).mono fun ex w' ⟨u,ρ',e1,e2,e3,e4⟩=>⟨u,ρ',e1,?_,e3,?_⟩
     all_goals
      have g0:∀ {t b},(uI .e e.hs).get t=some b→∃ c,h.get t=some c∧t<e.nx:=fun hb=>by
       obtain ⟨x,hx,rfl,_⟩:=(wJ .e hlt hb).elim id fun h=>by cases h.2
       obtain ⟨c,k1,_⟩:=Ag (h2 x hx)
       exact ⟨c,k1,(b3 x hx).1⟩
      have unl:∀ {t b},h.get t=some b→(∀ x∈e.hs,x.t≠t)→w'.heap[(ρ t).1]?=w.heap[(ρ t).1]?:=fun {t b} hb hn=>by
       refine e2.old.fr _ (hm.lt hb) (fun t' b' hb' he'=>?_) id
       obtain ⟨x,hx,rfl,_⟩:=(wJ .e hlt hb').elim id fun h=>by cases h.2
       obtain ⟨c,k1,_⟩:=g0 hb'
       exact hn x hx (hm.one _ _ _ _ k1 hb he')
      have same:∀ {t b},h.get t=some b→w'.heap[(ρ t).1]?=w.heap[(ρ t).1]?:=fun {t b} hb=>by
       by_cases hin:∃ x∈e.hs,x.t=t
       · obtain ⟨b0,hb0⟩:=Cu (.e:Tr CB) hlt (.inl hin)
         obtain ⟨b1',hb1⟩:=Cu (uI .e e.hs) hlt' (.inr ⟨b0,hb0⟩)
         have htn:t<e.nx:=(hm.own t b hb).1
         rcases wJ (uI .e e.hs) hlt' hb1 with ⟨y,hy,hyt,_⟩ | ⟨_,k2⟩
         · have:=(b4 y hy).1;omega
         obtain ⟨x,hx,hxt,hxc⟩:=(wJ .e hlt k2).elim id fun h=>by cases h.2
         exact (e2.old.old t b1' hb1 (by rw [←hxc,LH];exact (b3 x hx).2)).2
       exact unl hb fun x hx hxt=>hin ⟨x,hx,hxt⟩
      have cases2:∀ {t b},(uI h e.news).get t=some b→(e.nx≤t∧(uI (uI .e e.hs) e.news).get t=some b∧e.nx≤Rr b∧Rr b<e.nx')∨(t<e.nx∧h.get t=some b):=fun {t b} hb=>by
       rcases wJ h hlt' hb with ⟨x,hx,hxt,hxc⟩ | ⟨_,k2⟩
       · refine .inl ⟨by rw [←hxt];exact (b4 x hx).1,?_,by rw [←hxc,LH];exact (b4 x hx).2.2⟩
         have hn0:(uI .e e.hs).get t=none:=by
          cases hg:(uI (.e:Tr CB) e.hs).get t with
          | none=>rfl
          | some c=>obtain ⟨_,_,q⟩:=g0 hg;have:=(b4 x hx).1;omega
         -- the same list on another memory
         have Qf:∀ (l:List EB),(∀ x∈l,x.t<tE)→∀ {b},(uI h l).get t=some b→(∃ x∈l,x.t=t)→(uI (uI .e e.hs) l).get t=some b:=fun l=>by
          induction l with
          | nil=>intro _ b _ hx;obtain ⟨x,hx,_⟩:=hx;cases hx
          | cons y l ih =>
            intro hl b hb hx
            have hb':((uI h l).set (some y.cb) tE y.t).get t=some b:=hb
            show ((uI (uI .e e.hs) l).set (some y.cb) tE y.t).get t=some b
            rw [eP _ _ _ _ _ (hl y (bP ..))] at hb' ⊢
            by_cases e:t=y.t
            · rw [aR e] at hb' ⊢;exact hb'
            rw [aL e] at hb' ⊢
            obtain ⟨x,hx,hxt⟩:=hx
            rcases dF.1 hx with rfl | hx
            · exact absurd hxt.symm e
            exact ih (fun z hz=>hl z (bB _ hz)) hb' ⟨x,hx,hxt⟩
         exact Qf e.news hlt' hb ⟨x,hx,hxt⟩
       exact .inr ⟨(hm.own t b k2).1,k2⟩
     · refine ⟨e2.le,e2.fit,e2.ext,fun t b hb hs=>?_,fun p hp hun hx=>e2.old.fr p hp (fun t b hb he'=>?_) hx,fun t b hb=>?_,e2.old.sz⟩
       · rcases cases2 hb with ⟨_,_,k3,_⟩ | ⟨_,k2⟩
         · omega
         exact ⟨k2,same k2⟩
       · obtain ⟨c,k1,_⟩:=g0 hb
         exact hun t c k1 he'
       rcases cases2 hb with ⟨_,k2,_⟩ | ⟨k1,k2⟩
       · rcases e2.old.nw t b k2 with k3 | ⟨t',b',k3,k4⟩
         · exact .inl k3
         obtain ⟨c,k5,_⟩:=g0 k3
         exact .inr ⟨t',c,k5,k4⟩
       exact .inr ⟨t,b,k2,by rw [e2.ext t k1]⟩
     have place:∀ {t b},(uI (uI .e e.hs) e.news).get t=some b→e.nx≤t→∀ t' b',h.get t'=some b'→(ρ' t).1≠(ρ t').1:=fun {t b} hb htn t' b' hb' he'=>by
      rcases e2.old.nw t b hb with k3 | ⟨t2,b2,k3,k4⟩
      · have:=hm.lt hb';omega
      obtain ⟨c,k5,k6⟩:=g0 k3
      obtain ⟨b3',k7⟩:=Cu (uI .e e.hs) hlt' (.inr ⟨b2,k3⟩)
      have:=e4.one t t2 _ _ hb k7 (by rw [e2.ext t2 k6];exact k4.symm)
      omega
     refine ⟨e4.upd,fun t b hb=>?_,fun t t' b b' hb hb' he'=>?_,e4.imm,e4.nod,fun c hc=>⟨(e4.kept c hc).1,(e4.kept c hc).2.1,fun t b hb=>?_⟩⟩
     · rcases cases2 hb with ⟨_,k2,_⟩ | ⟨k1,k2⟩
       · exact e4.own t b k2
       obtain ⟨q1,q2,q3,o,q4,q5⟩:=hm.own t b k2
       rw [e2.ext t k1]
       exact ⟨bS q1 e2.le,bS q2 e2.le,q3,o,(same k2).trans q4,q5.up e2.le e2.ext⟩
     · rcases cases2 hb with ⟨j1,k2,_⟩ | ⟨k1,k2⟩ <;> rcases cases2 hb' with ⟨j1',k2',_⟩ | ⟨k1',k2'⟩
       · exact e4.one t t' b b' k2 k2' he'
       · rw [e2.ext t' k1'] at he'
         exact absurd he' (place k2 j1 t' b' k2')
       · rw [e2.ext t k1] at he'
         exact absurd he'.symm (place k2' j1' t b k2)
       rw [e2.ext t k1,e2.ext t' k1'] at he'
       exact hm.one t t' b b' k2 k2' he'
     rcases cases2 hb with ⟨_,k2,_⟩ | ⟨k1,k2⟩
     · exact (e4.kept c hc).2.2 t b k2
     rw [e2.ext t k1];exact (hm.kept c hc).2.2 t b k2
   · exact hr
 | _=>exact hr
def SL (P:Program) (pr:uQ) (mm:List Ent) (F:Nat):Cmd→Res:=Nat.rec (motive:=fun _=>Cmd→Res) (fun _=>.bad 0 []) (fun _ r c=>WS mm c (step P pr (SJ P pr 1000000 r) c)) F
theorem Wb (hpr:zI P Φ pr) {mm:List Ent} (hmm:MemoOk P Φ mm) (F:Nat):Yi P Φ (SL P pr mm F):=by
 induction F with
 | zero=>exact fun c=>Cg c 0 []
 | succ F r=>exact fun c=>OY hmm (Nc hpr (Wa hpr _ r) c)
def SM (P:Program) (pr:uQ) (mm:List Ent) (F:Nat) (c:Cmd):Res:=step P pr (SJ P pr 1000000 (SL P pr mm F)) c
def WT (e:Ent) (r:Res):Bool:=OX e && (match r with
 | .ret v h nx=>LD v e.v && (Nat.beq nx e.nx' && (Fx (Df true h) e.hs && Fx (Df false h) e.news))
 | _=>false)
theorem xI (hpr:zI P Φ pr) {mm:List Ent} (hmm:MemoOk P Φ mm) (F:Nat) (e:Ent) (h:WT e (SM P pr mm F (.call e.f e.args (uI .e e.hs) e.nx))=true):Ax P Φ e:=by
 have H:tA P Φ (.call e.f e.args (uI .e e.hs) e.nx) (SM P pr mm F (.call e.f e.args (uI .e e.hs) e.nx)):=Nc hpr (Wa hpr _ (Wb hpr hmm F)) _
 unfold WT at h
 rw [aC] at h
 obtain ⟨hb,h⟩:=h
 refine ⟨hb,?_⟩
 obtain ⟨b1,b2,b3,b4⟩:=BD hb
 revert H h
 generalize SM P pr mm F (.call e.f e.args (uI .e e.hs) e.nx)=r
 intro H h
 cases r with
 | bad=>cases h
 | ok=>cases h
 | ret v h' nx' =>
   simp only [aC] at h
   obtain ⟨h1,h2,h3,h4⟩:=h
   have e1:=Yo h1
   have e2:=Ec h2
   subst e1 e2
   refine ⟨H.1,fun ρ w0 w vs hm hk hfit=>(H.2 ρ w0 w vs hm hk hfit).mono fun ex w' ⟨u,ρ',k1,k2,k3,k4⟩=>⟨u,ρ',k1,?_,k3,?_⟩⟩
   all_goals
    have hlt:∀ x∈e.hs,x.t<tE:=fun x hx=>bS (b3 x hx).1 (aO b1 b2)
    have hlt':∀ x∈e.news,x.t<tE:=fun x hx=>bS (b4 x hx).2.1 b2
    have key:∀ {t b},(uI (uI .e e.hs) e.news).get t=some b→∃ x:EB,x.t=t∧x.cb=b∧((x∈e.news∧Df false h' x=true)∨(x∈e.hs∧Df true h' x=true∧(uI .e e.hs).get t=some b)):=fun {t b} hb=>by
     rcases wJ (uI .e e.hs) hlt' hb with ⟨x,hx,hxt,hxc⟩ | ⟨_,q⟩
     · exact ⟨x,hxt,hxc,.inl ⟨hx,vU.1 h4 x hx⟩⟩
     obtain ⟨x,hx,hxt,hxc⟩:=(wJ .e hlt q).elim id fun h=>by cases h.2
     exact ⟨x,hxt,hxc,.inr ⟨hx,vU.1 h3 x hx,q⟩⟩
    have has:∀ {t b},(uI (uI .e e.hs) e.news).get t=some b→∃ c,h'.get t=some c∧∀ (s:Nat) (o:Obj),DB e.nx' ρ' s c o→DB e.nx' ρ' s b o:=fun {t b} hb=>by
     obtain ⟨x,rfl,rfl,q⟩:=key hb
     rcases q with ⟨_,q⟩ | ⟨_,q,_⟩
     · obtain ⟨c,q1,_,q2⟩:=Ag q;exact ⟨c,q1,q2 _ _⟩
     obtain ⟨c,q1,_,q2⟩:=Ag q;exact ⟨c,q1,q2 _ _⟩
   · refine ⟨k2.le,k2.fit,k2.ext,fun t b hb hs=>?_,k2.old.fr,fun t b hb=>?_,k2.old.sz⟩
     · obtain ⟨x,rfl,rfl,q⟩:=key hb
       rw [LH] at hs
       rcases q with ⟨q,_⟩ | ⟨q0,q,q3⟩
       · have:=(b4 x q).2.2.1;omega
       obtain ⟨c,q1,q2,_⟩:=Ag q
       exact ⟨q3,(k2.old.old x.t c q1 (by rw [q2 rfl];exact hs)).2⟩
     obtain ⟨c,q1,_⟩:=has hb
     exact k2.old.nw t c q1
   refine ⟨k4.upd,fun t b hb=>?_,fun t t' b b' hb hb' he'=>?_,k4.imm,k4.nod,fun c hc=>⟨(k4.kept c hc).1,(k4.kept c hc).2.1,fun t b hb=>?_⟩⟩
   · obtain ⟨c,q1,q2⟩:=has hb
     obtain ⟨g1,g2,g3,o,g4,g5⟩:=k4.own t c q1
     refine ⟨g1,?_,g3,o,g4,q2 _ _ g5⟩
     obtain ⟨x,rfl,rfl,q⟩:=key hb
     rw [LH]
     rcases q with ⟨q,_⟩ | ⟨q,_⟩
     · exact (b4 x q).2.2.2
     have:=(b3 x q).2;omega
   · obtain ⟨c,q1,_⟩:=has hb
     obtain ⟨c',q1',_⟩:=has hb'
     exact k4.one t t' c c' q1 q1' he'
   obtain ⟨c',q1,_⟩:=has hb
   exact (k4.kept c hc).2.2 t c' q1
theorem MemoOk.nil:MemoOk P Φ []:=fun e h=>yS
abbrev jZ:=@MemoOk.nil
theorem MemoOk.cons {e:Ent} {mm:List Ent} (h:Ax P Φ e) (k:MemoOk P Φ mm):MemoOk P Φ (e :: mm):=fun x hx=>by
 rcases dF.1 hx with rfl | hx
 · exact h
 exact k x hx
abbrev jW:=@MemoOk.cons
theorem Yp {f:Nat} (pr:uQ) (hpr:zI P Φ pr) {mm:List Ent} (hmm:MemoOk P Φ mm) (F:Nat) (h:KN (SL P pr mm F (.call f .nil .e 0))=true) (G:Imm) (hG:Φ G):Does P f [] G [] (fun v G' Ho=>v=.bool true∧G'=G∧Ho=[]):=
 EQ (Wb hpr hmm F _) h G hG
end
end Go.Sl.Ev
namespace Go.Proofs.YtngphgeghfdjbaaGreatDoor
open Go Go.Sl Go.Sl.Ev
section
set_option maxRecDepth 1000000
def dy (l:CV):Option CV:=match l with
 | .cons (.int .u64 c) .nil=>bif Hx (CF c) 0 then none else some (.int .i64 (CF c))
 | _=>none
def tzP:uQ:=[(269,dy)]
theorem Dg:zI Tryz.prog TabOk tzP:=by
 intro f g h
 have h':(bif Nat.beq 269 f then some dy else none)=some g:=h
 rcases sY h' with ⟨h1,h2⟩ | ⟨_,h2⟩
 · have:=aD h1
   subst this
   cases h2
   refine ⟨T.fn269,fun args v hv G hG nx ρ vs hk=>?_⟩
   unfold dy at hv
   split at hv
   · rename_i c
     rcases sY hv with ⟨_,h2⟩ | ⟨h1,h2⟩
     · cases h2
     cases h2
     rw [wM,dM] at h1
     obtain ⟨u,r,rfl,k1,k2⟩:=kT.1 hk.2
     have e1:=gJ.1 k1
     have e2:=DL.nil.1 k2
     subst e1 e2
     exact ⟨_,xT,XV G hG c h1⟩
   cases hv
 cases h2
end
end Go.Proofs.YtngphgeghfdjbaaGreatDoor
end
