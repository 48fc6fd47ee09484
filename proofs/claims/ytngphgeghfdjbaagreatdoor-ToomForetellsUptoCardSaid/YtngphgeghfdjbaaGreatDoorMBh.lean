/- sN of the proof (part 8): what the rows' text needs of the texts that lead to it. -/
import Derived.Test.YtngphgeghfdjbaaGreatDoorMBg
set_option linter.unusedVariables false
set_option linter.unusedSimpArgs false
set_option linter.unusedSectionVars false
set_option maxHeartbeats 4000000
noncomputable section
set_option maxRecDepth 100000
namespace Go.Sl.Ev
open Go Go.Sl
structure Nx (ρ:Pl) (h:Tr CB) (nx:Nat) (w:World) (ρ':Pl) (h':Tr CB) (nx':Nat) (w':World):Prop where
 le:nx≤nx'
 fit:nx'≤rF
 ext:Ext nx ρ ρ'
 old:Iy ρ h nx w ρ' h' w'
theorem Nx.refl {ρ:Pl} {h:Tr CB} {nx:Nat} {w:World} (hf:nx≤rF):Nx ρ h nx w ρ h nx w:=⟨aE _,hf,cK _ _,eQ⟩
theorem Nx.trans {Φ:Imm→Prop} {w0:Bas Φ} {ρ ρ' ρ2:Pl} {h h' h2:Tr CB} {nx nx' nx2:Nat} {w w' w2:World} (hm:Mem ρ w0 h nx w) (a:Nx ρ h nx w ρ' h' nx' w') (b:Nx ρ' h' nx' w' ρ2 h2 nx2 w2):Nx ρ h nx w ρ2 h2 nx2 w2:=
 ⟨aK a.le b.le,b.fit,a.ext.trans b.ext a.le,a.old.trans hm b.old a.le a.ext⟩
def Wp (l:List Oper) (i j:Nat):Prop:=∃ o,l[j]?=some o∧xM o.op=false∧He o i=true
def CP (l:List Oper) (cs:List (Nat×Nat×Obj)) (L:Array Bool) (w:World):Prop:=∀ x∈cs,(∀ j,Wp l x.1 j→L.getD j false=false)→w.heap[x.2.1]?=some x.2.2
def FU (l:List Oper) (L:Array Bool):Prop:=∀ j o,l[j]?=some o→L.getD j false=true→∀ e∈o.after,Region.binds .any e=true→L.getD e.on false=true
def PendOk (l:List Oper) (L:Array Bool) (ρ:Pl) (w:World) (nx:Nat) (pend:List (Nat×Nat×Nat)) (cs:List (Nat×Nat×Obj)):Prop:=
 ∀ x∈cs,(∃ j,Wp l x.1 j∧L.getD j false=true)∨∃ t bound,(t,x.1,bound)∈pend∧t<nx∧(ρ t).1=x.2.1∧bound≤nx∧w.heap[x.2.1]?=some x.2.2
theorem PendOk.cp {l:List Oper} {L:Array Bool} {ρ:Pl} {w:World} {nx:Nat} {pend:List (Nat×Nat×Nat)} {cs:List (Nat×Nat×Obj)} (h:PendOk l L ρ w nx pend cs):CP l cs L w:=fun x hx hw=>by
 rcases h x hx with ⟨j,h1,h2⟩ | ⟨t,b,_,_,_,_,h3⟩
 · rw [hw j h1] at h2;cases h2
 exact h3
structure Early where
 j:Nat
 p:Nat
 o:Obj
 V:Nat→Value
structure EOk (P:Program) (l:List Oper) (ρ:Pl) (h:Tr CB) (a:Act) (w ws:World) (e:Early):Prop where
 ex:∃ oj d,l[e.j]?=some oj∧Hf oj=true∧oj.dst=some d∧a.tmps[d]?=some (e.V e.p)∧∀ w2,(execOp a.eval oj).run P w2=.ok (.value (e.V w2.heap.size)) (w2.alloc e.o)
 lt:e.p<w.heap.size
 at_:w.heap[e.p]?=some e.o
 ge:ws.heap.size≤e.p
 un:∀ t b,h.get t=some b→(ρ t).1≠e.p
structure LR (L:Array Bool) (S:List Early) (Lm:Array Bool):Prop where
 size:Lm.size=L.size
 iff:∀ j,Lm.getD j false=true↔(L.getD j false=true∨∃ e∈S,e.j=j)
 un:∀ e∈S,L.getD e.j true=false
structure RI {Φ:Imm→Prop} (P:Program) (l:List Oper) (n:Nat) (E:Tr CV) (h:Tr CB) (nx:Nat) (pend:List (Nat×Nat×Nat)) (ρ ρs:Pl) (w0:Bas Φ) (a:Act) (w ws:World) (hs:Tr CB) (Dn:Nat) (L Lm:Array Bool) (Rc:List Nat) (S:List Early) (cs:List (Nat×Nat×Obj)):Prop where
 rel:Rel ρ w0 n E h nx a w
 lr:LR L S Lm
 down:FU l Lm
 sub:∀ e∈S,e.j∈Rc
 ndj:(S.map (·.j)).Nodup
 ndp:(S.map (·.p)).Nodup
 eok:∀ e∈S,EOk P l ρ h a w ws e
 pend:PendOk l Lm ρ w nx pend cs
 ms:Mem ρs w0 hs Dn ws
 nxb:Nx ρs hs Dn ws ρ h nx w
def Kept (d:Option Nat) (a a':Act):Prop:=∀ i,d≠some i→a'.tmps[i]?=a.tmps[i]?
def rB (P:Program) (Φ:Imm→Prop):Cmd→Res→Prop
 | .code c n E h nx,.ok x E' h' nx'=>∀ (r:Option Nat) (ρ:Pl) (w0:Bas Φ) (a:Act) (w:World),Rel ρ w0 n E h nx a w→nx≤rF→n≤100000→(r=none∨Mr c=true)→
  ∀ Q:Exit→Act→World→Prop,(∀ ρ' a' w',Nx ρ h nx w ρ' h' nx' w'→Rel ρ' w0 n E' h' nx' a' w'→Q x a' w')→c.wpIn (FF r) 0 P Q a w
 | .loop c n E h nx,.ok x E' h' nx'=>∀ (r:Option Nat) (ρ:Pl) (w0:Bas Φ) (a:Act) (w:World),Rel ρ w0 n E h nx a w→nx≤rF→n≤100000→(r=none∨Mr c=true)→
  ∀ Q:Exit→Act→World→Prop,(∀ ρ' a' w',Nx ρ h nx w ρ' h' nx' w'→Rel ρ' w0 n E' h' nx' a' w'→Q x a' w')→Bw r P c Q a w
 | .ops all l n E h nx,.ok x E' h' nx'=>x=.normal∧∀ (ρ:Pl) (w0:Bas Φ) (a:Act) (w:World),Rel ρ w0 n E h nx a w→nx≤rF→n≤100000→
  ∀ K:Act→World→Prop,(∀ ρ' a' w',Nx ρ h nx w ρ' h' nx' w'→Rel ρ' w0 n E' h' nx' a' w'→K a' w')→rM P all.toArray l a w K
 | .one o n E h nx,.ok x E' h' nx'=>x=.normal∧∀ (ρ:Pl) (w0:Bas Φ) (a:Act) (w:World),Rel ρ w0 n E h nx a w→nx≤rF→n≤100000→
  ∀ K:Act→World→Prop,(∀ ρ' a' w',Nx ρ h nx w ρ' h' nx' w'→Rel ρ' w0 n E' h' nx' a' w'→Kept o.dst a a'→K a' w')→vO P o a w K
 | .call f args h nx,.ret v h' nx'=>uE P f∧∀ (ρ:Pl) (w0:Bas Φ) (w:World) (vs:List Value),Mem ρ w0 h nx w→KL nx ρ args vs→nx≤rF→
  Calls P f vs.toArray w (fun e w'=>∃ u ρ',e=.returned u∧Nx ρ h nx w ρ' h' nx' w'∧Kn nx' ρ' v u∧Mem ρ' w0 h' nx' w')
 | .round t args h nx,.ret v h' nx'=>∀ (ρ:Pl) (w0:Bas Φ) (w:World) (vs:List Value),Mem ρ w0 h nx w→KL nx ρ args vs→nx≤rF→
  ∃ f tmps assign body,(Instr.yield (ρ t).1 vs.toArray).run P w=.ok (.round (ρ t).1 f tmps assign body) w∧
   RoundIn Fence.wide 0 P (ρ t).1 f tmps assign body w (fun e w'=>∃ u ρ',e=.returned u∧Nx ρ h nx w ρ' h' nx' w'∧Kn nx' ρ' v u∧Mem ρ' w0 h' nx' w')
 | .reg l plan pend n E h nx,.ok x E' h' nx'=>x=.normal∧∀ (ρ ρs:Pl) (w0:Bas Φ) (a:Act) (w ws:World) (hs:Tr CB) (Dn:Nat) (L Lm:Array Bool) (Rc:List Nat) (S:List Early) (cs:List (Nat×Nat×Obj)) (f:Nat),RI P l n E h nx pend ρ ρs w0 a w ws hs Dn L Lm Rc S cs→nx≤rF→n≤100000→
  Region.noSelect l.toArray=true→PlanOk l L Rc plan→plan.length=f+S.length→
  ∀ K:Act→World→Prop,(∀ ρ' a' w',Nx ρs hs Dn ws ρ' h' nx' w'→Rel ρ' w0 n E' h' nx' a' w'→K a' w')→gm P l.toArray K (CP l cs) f Lm a w
 | _,.bad _ _=>True
 | _,_=>False
section
variable {P:Program} {Φ:Imm→Prop} {pr:sL} {nx nx' n:Nat} {ρ ρ':Pl} {w0:Bas Φ} {w w':World} {E:Tr CV} {h h':Tr CB} {a:Act}
theorem Slots.up (hs:Slots ρ E nx n a) (hn:nx≤nx') (he:Ext nx ρ ρ'):Slots ρ' E nx' n a:=⟨hs.1,fun i x hx=>by
 obtain ⟨v,h1,h2⟩:=hs.2 i x hx
 exact ⟨v,h1,h2.up hn he⟩⟩
theorem tI (hs:Slots ρ E nx n a) {d:Option Nat} {c:CV} {v:Value} {E':Tr CV} (hn:n≤100000) (hp:vB E n d c=some E') (hk:Kn nx ρ c v):Slots ρ E' nx n (a.put d v):=by
 cases d with
 | none=>cases hp;exact hs
 | some d =>
   have hp':(bif Nat.ble (Nat.succ d) n then some (E.set (some c) rF d) else none)=some E':=hp
   rcases rA hp' with ⟨h1,h2⟩ | ⟨_,h2⟩
   · cases h2
     have hd:d<n:=aU h1
     refine ⟨by show (a.tmps.setIfInBounds d v).size=n;simp [hs.1],fun i x hx=>?_⟩
     rw [dG (some c) rF E d i (by rw [Hb];omega)] at hx
     show ∃ u,(a.tmps.setIfInBounds d v)[i]?=some u∧_
     by_cases e:i=d
     · subst e
       rw [aT rfl] at hx
       cases hx
       exact ⟨v,by simp [hs.1,hd],hk⟩
     rw [aF e] at hx
     obtain ⟨u,h1,h2⟩:=hs.2 i x hx
     exact ⟨u,by rw [fQ (oI e)];exact h1,h2⟩
   cases h2
theorem Hr:Kn nx ρ (.tup .nil) undef:=⟨trivial,oL.2 ⟨[],rfl,rfl⟩⟩
theorem wH (a:Act) (d:Option Nat) (v:Value):(a.put d v).defers=a.defers:=by cases d <;> rfl
theorem zQ (hs:Slots ρ E nx n a) {all:List Oper} {j t:Nat} {b:Bool} (hd:wS all j=some t) (he:E.get t=some (.bool b)):yielded all.toArray a.tmps j=some b:=by
 obtain ⟨v,h1,h2⟩:=hs.2 t _ he
 rw [pO.1 h2.2] at h1
 rw [xJ] at hd
 unfold yielded
 have:(all.toArray[j]?).bind (·.dst)=some t:=by simpa using hd
 rw [this]
 simp [h1]
theorem Hs (hs:Slots ρ E nx n a) {all:List Oper} {j t:Nat} (hd:wS all j=some t) (he:E.get t=some (.tup .nil)):yielded all.toArray a.tmps j=none:=by
 obtain ⟨v,h1,h2⟩:=hs.2 t _ he
 obtain ⟨vs,h3,h4⟩:=oL.1 h2.2
 have:vs=[]:=h3
 subst this
 rw [h4] at h1
 rw [xJ] at hd
 unfold yielded
 have:(all.toArray[j]?).bind (·.dst)=some t:=by simpa using hd
 rw [this]
 simp [h1]
theorem Mem.cong {h2:Tr CB} (hm:Mem ρ w0 h nx w) (e:∀ t,h2.get t=h.get t):Mem ρ w0 h2 nx w:=
 ⟨hm.upd,fun t b ht=>hm.own t b (by rw [←e];exact ht),fun t t' b b' h1 h2=>hm.one t t' b b' (by rw [←e];exact h1) (by rw [←e];exact h2),hm.imm,hm.nod,fun b hb=>⟨(hm.kept b hb).1,(hm.kept b hb).2.1,fun t c ht=>(hm.kept b hb).2.2 t c (by rw [←e];exact ht)⟩⟩
theorem OldX.cong {h2:Tr CB} (ho:Iy ρ h nx w ρ' h' w') (e:∀ t,h2.get t=h'.get t):Iy ρ h nx w ρ' h2 w':=⟨fun t b ht=>ho.old t b (by rw [←e];exact ht),ho.fr,fun t b ht=>ho.nw t b (by rw [←e];exact ht),ho.sz⟩
theorem Kept.put (a:Act) (d:Option Nat) (v:Value):Kept d a (a.put d v):=fun i hi=>by
 cases d with
 | none=>rfl
 | some d =>
   show (a.tmps.setIfInBounds d v)[i]?=_
   rw [fQ (fun e=>hi (by rw [e]))]
abbrev nG:=@Kept.put
theorem Kept.refl (d:Option Nat) (a:Act):Kept d a a:=fun _ _=>rfl
def MZ (P:Program) (Q:Exit→Act→World→Prop) (p:Option Code) (a:Act) (w:World):Prop:=match p with
 | none=>Q .normal a w
 | some c=>c.wpIn (FF none) 0 P Q a w
theorem BQ {g:Operand} {f:Nat} {cap:CV} {ps:List Nat} {asg body:Code} {v:CV} {h':Tr CB} {nx':Nat} {E4:Tr CV} {n4:Nat} {ps4:List Nat} {as4 body4:Code} {st:LoopState} {p0:Option Code} {stm:Nat}
 (hg:sH E g=some (.fn f .nil cap)) (hfit:Nat.ble (Nat.succ nx) rF=true) (H1:rB P Φ (.call f (.cons (.yl nx) cap) (h.set (some (.lp E n ps asg body .ready none nx)) rF nx) (Nat.succ nx)) (.ret v h' nx'))
 (hlp:h'.get nx=some (.lp E4 n4 ps4 as4 body4 st p0 stm)) (hst:Mk st=false) (hfit':Nat.ble (Nat.succ nx') rF=true)
 (ρ:Pl) (w0:Bas Φ) (a:Act) (w:World) (hR:Rel ρ w0 n E h nx a w) (hf:nx≤rF) (hn:n≤100000) (Q:Exit→Act→World→Prop)
 (hQ:∀ ρ' a' w',Nx ρ h nx w ρ' (h'.set none rF nx) (Nat.succ nx') w'→Rel ρ' w0 n E (h'.set none rF nx) (Nat.succ nx') a' w'→MZ P Q p0 a' w') :
 (Code.rangeFunc g ⟨ps⟩ asg body).wpIn (FF none) 0 P Q a w:=by
 obtain ⟨os,hR⟩:=hR
 obtain ⟨isf,H1⟩:=H1
 have hf1:=rG hfit
 refine wpIn_rangeFunc fun fn _=>?_
 obtain ⟨q,hq⟩:∃ q:Loop,q={ state:=.ready,pending:=none,fn,tmps:=a.tmps,params:=ps.toArray,assign:=asg,body,defers:=w.heap.size }:=⟨_,rfl⟩
 obtain ⟨gv,e1,k1⟩:=rC hR.slots hg
 obtain ⟨xs,ys,kx,ky,rfl⟩:=Cl k1
 have hx0:xs=[]:=kx.2
 subst hx0
 obtain ⟨m1,o1⟩:=hR.mem.keep
 have hsz:(w.alloc (.deferred (some []))).heap.size=w.heap.size+1:=World.size_alloc ..
 obtain ⟨ρ1,x1,p1,m2,o2⟩:=m1.new (b:=.lp E n ps asg body .ready none nx) (o:=.loop q) (s:=0) (w':=(w.alloc (.deferred (some []))).alloc (.loop q)) hf1 rfl (sP _ _) (sR _ _) (rY _ _)
  ⟨q,rfl,by rw [hq],by rw [hq],by rw [hq],by rw [hq],by rw [hq],by rw [hq];exact hR.slots.1,fun i x hx=>by rw [hq];exact hR.slots.2 i x hx⟩
 rw [hsz] at p1
 obtain ⟨fnn,hf1',hf2,hf3⟩:=isf
 refine ⟨w.heap.size+1,[mark w.heap.size],(w.alloc (.deferred (some []))).alloc (.loop q),{ target:=.fn (.func f) ys.toArray,args:=#[.func (.yield (w.heap.size+1)) #[] #[]] },(w.alloc (.deferred (some []))).alloc (.loop q),f,
  (.func (.yield (w.heap.size+1)) #[] #[] :: ys).toArray,(w.alloc (.deferred (some []))).alloc (.loop q),?_,?_,?_,?_,fun h=>by simp [FF] at h,?_⟩
 · have:=run_enterLoop_outer (P:=P) (w:=w) fn a.tmps ps.toArray asg body
   rw [hq];exact this
 · have hev:Act.eval a g=.func (.func f) #[] ys.toArray:=sQ e1
   simp only [resolve,hev]
   simp [go_sem]
 · intro f' hf';trivial
 · simp [invoke,vP _ _ hf1' hf2 hf3]
 have hky:KL (nx+1) ρ1 cap ys:=ky.up (cD _) x1
 have hyl:Kn (nx+1) ρ1 (.yl nx) (.func (.yield (w.heap.size+1)) #[] #[]):=⟨bU _,by show _=_;rw [p1]⟩
 have hC:=H1 ρ1 ⟨w0.w,w.heap.size :: (os++w0.ks),w0.G,w0.ok,w0.s⟩ _ (.func (.yield (w.heap.size+1)) #[] #[] :: ys) m2 (nR hyl hky) hf1
 refine uT.2 (hC.mono fun ex w' ⟨u,ρ2,h1,h2,h3,h4⟩=>?_)
 subst h1
 have hb:=h4.own nx _ hlp
 have e3:ρ2 nx=ρ1 nx:=h2.ext nx (bU _)
 rw [e3,p1] at hb
 obtain ⟨_,_,_,o,ho,hdb⟩:=hb
 obtain ⟨q4,rfl,g1,g2,g3,g4,g5,g6,g7⟩:=hdb
 have hend:(Instr.endLoop (w.heap.size+1)).run P w'=.ok q4.pending (w'.putObj (w.heap.size+1) (.loop { q4 with state:=.exhausted })):=run_endLoop ho (by rw [g1];intro hh;subst hh;cases hst)
 have hlt:=(bM.1 ho).1
 have e4:(ρ2 nx).1=w.heap.size+1:=by rw [e3,p1]
 have hfit2:=rG hfit'
 obtain ⟨m3,o3⟩:=h4.write (b':=.lp E4 n4 ps4 as4 body4 .exhausted p0 nx') (o:=.loop { q4 with state:=.exhausted }) (w':=w'.putObj (w.heap.size+1) (.loop { q4 with state:=.exhausted })) qX rfl hlp
  (by rw [e4];exact tB w' _ _) (by rw [e4];exact eP hlt) ⟨_,rfl,rfl,g2,g3,g4,g5,g6,fun i x hx=>g7 i x hx⟩
 have hnx:nx<nx':=h2.le
 obtain ⟨m4,o4⟩:=m3.kill hfit2 (t:=nx) qX
 have hset:∀ t,(h'.set none rF nx).get t=((h'.set (some (CB.lp E4 n4 ps4 as4 body4 .exhausted p0 nx')) rF nx).set none rF nx).get t:=fun t=>by
  rw [dG _ _ _ _ _ qX,dG _ _ _ _ _ qX,dG _ _ _ _ _ qX]
  split <;> rfl
 have m4:=m4.cong hset
 have o4:=o4.cong hset
 have hnxx:Nx ρ h nx w ρ2 (h'.set none rF nx) (Nat.succ nx') (w'.putObj (w.heap.size+1) (.loop { q4 with state:=.exhausted })):=by
  have a1:Nx ρ h nx w ρ h nx (w.alloc (.deferred (some []))):=⟨aE _,hf,cK _ _,o1⟩
  have a2:Nx ρ h nx (w.alloc (.deferred (some []))) ρ1 _ (nx+1) _:=⟨cD _,hf1,x1,o2⟩
  have a3:=(a1.trans hR.mem a2).trans hR.mem h2
  have a4:Nx ρ2 h' nx' w' ρ2 _ (nx'+1) _:=⟨cD _,hfit2,cK _ _,o3⟩
  have a5:=a3.trans hR.mem a4
  exact a5.trans hR.mem ⟨aE _,hfit2,cK _ _,o4⟩
 have hRel:Rel ρ2 w0 n E (h'.set none rF nx) (Nat.succ nx') { a with defers:=[mark w.heap.size]++a.defers } (w'.putObj (w.heap.size+1) (.loop { q4 with state:=.exhausted })):=
  ⟨w.heap.size :: os,hR.slots.up hnxx.le hnxx.ext,by show [mark w.heap.size]++a.defers=_;rw [hR.defers];rfl,m4,fun b hb=>by
   rcases cH.1 hb with rfl | hb
   · exact hR.ss
   exact hR.mks b hb,aK hR.ss hnxx.old.sz⟩
 have H:=hQ _ _ _ hnxx hRel
 rw [←g2] at H
 exact ⟨q4.pending,_,hend,H⟩
theorem vC {ih:Cmd→Res} (H:∀ c,rB P Φ c (ih c)) (c:Code) (n:Nat) (E:Tr CV) (h:Tr CB) (nx:Nat):rB P Φ (.code c n E h nx) (step P pr ih (.code c n E h nx)):=by
 have quiet:∀ (x:Exit) (c:Code),(∀ (r:Option Nat) (a:Act) (w:World) (Q:Exit→Act→World→Prop),Q x a w→c.wpIn (FF r) 0 P Q a w)→rB P Φ (.code c n E h nx) (.ok x E h nx):=fun x c hc r ρ w0 a w hR hf hn hrr =>
  fun Q hQ=>hc r a w Q (hQ ρ a w (Nx.refl hf) hR)
 cases c with
 | skip=>exact quiet .normal _ fun r a w Q hq=>wpIn_skip hq
 | label l=>exact quiet .normal _ fun r a w Q hq=>wpIn_label hq
 | exit id=>exact quiet (.exit id) _ fun r a w Q hq=>wpIn_exit hq
 | ret=>exact quiet .ret _ fun r a w Q hq=>wpIn_ret hq
 | goto l=>trivial
 | refuse s=>trivial
 | rangeFunc g ps asg body =>
   obtain ⟨ps⟩:=ps
   show rB P Φ _ (match sH E g with
    | some (.fn f .nil cap)=>bif Nat.ble (Nat.succ nx) rF then
      (match ih (.call f (.cons (.yl nx) cap) (h.set (some (.lp E n ps asg body .ready none nx)) rF nx) (Nat.succ nx)) with
      | .ret _ h' nx'=>(match h'.get nx with
        | some (.lp _ _ _ _ _ st p _)=>bif Mk st || not (Nat.ble (Nat.succ nx') rF) then .bad 41 [] else
          (match p with
          | none=>.ok .normal E (h'.set none rF nx) (Nat.succ nx')
          | some c=>ih (.code c n E (h'.set none rF nx) (Nat.succ nx')))
        | _=>.bad 42 [])
      | .ok _ _ _ _=>.bad 43 []
      | r=>r) else .bad 44 []
    | _=>.bad 45 [])
   split
   · rename_i f cap hg
     refine rE (rB P Φ _) (fun hfit=>?_) fun _=>trivial
     have H1:=H (.call f (.cons (.yl nx) cap) (h.set (some (.lp E n ps asg body .ready none nx)) rF nx) (Nat.succ nx))
     generalize ih (.call f (.cons (.yl nx) cap) (h.set (some (.lp E n ps asg body .ready none nx)) rF nx) (Nat.succ nx))=q at H1
     cases q with
     | bad=>trivial
     | ok _ _ _ _=>trivial
     | ret v h' nx' =>
       show rB P Φ _ (match h'.get nx with
        | some (.lp _ _ _ _ _ st p _)=>bif Mk st || not (Nat.ble (Nat.succ nx') rF) then .bad 41 [] else
          (match p with
          | none=>.ok .normal E (h'.set none rF nx) (Nat.succ nx')
          | some c=>ih (.code c n E (h'.set none rF nx) (Nat.succ nx')))
        | _=>.bad 42 [])
       split
       · rename_i E4 n4 ps4 as4 body4 st p stm hlp
         refine rE (rB P Φ _) (fun _=>trivial) fun hbz=>?_
         rw [Bool.or_eq_false_iff,Bool.not_eq_false'] at hbz
         have hgo:=BQ (P:=P) (Φ:=Φ) (ps:=ps) (asg:=asg) (body:=body) hg hfit H1 hlp hbz.1 hbz.2
         cases p with
         | none =>
           intro r ρ w0 a w hR hf hn hrr Q hQ
           have hr0:r=none:=hrr.elim id (fun q=>by cases (show (false:Bool)=true from q))
           subst hr0
           exact hgo ρ w0 a w hR hf hn Q fun ρ' a' w' e1 e2=>hQ ρ' a' w' e1 e2
         | some c =>
           show rB P Φ _ (ih (.code c n E (h'.set none rF nx) (Nat.succ nx')))
           have H2:=H (.code c n E (h'.set none rF nx) (Nat.succ nx'))
           generalize ih (.code c n E (h'.set none rF nx) (Nat.succ nx'))=q2 at H2
           cases q2 with
           | bad=>trivial
           | ret _ _ _=>exact H2.elim
           | ok x2 E2 h2 nx2 =>
             intro r ρ w0 a w hR hf hn hrr Q hQ
             have hr0:r=none:=hrr.elim id (fun q=>by cases (show (false:Bool)=true from q))
             subst hr0
             exact hgo ρ w0 a w hR hf hn Q fun ρ' a' w' e1 e2=>H2 none ρ' w0 a' w' e2 e1.fit hn (.inl rfl) Q fun ρ2 a2 w2 f1 f2=>hQ ρ2 a2 w2 (e1.trans hR.mem f1) f2
       trivial
   · trivial
 | region id ops draw =>
   obtain ⟨l⟩:=ops
   cases draw with
   | true =>
     show rB P Φ _ (bif P.follows .mixedOrders then (match Hl l with
      | some p=>ih (.reg l p [] n E h nx)
      | none=>.bad 23 l) else .bad 24 [])
     cases hmx:P.follows .mixedOrders with
     | false=>trivial
     | true =>
       simp only [eY]
       split
       · rename_i p hp
         have H1:=H (.reg l p [] n E h nx)
         generalize ih (.reg l p [] n E h nx)=q at H1
         cases q with
         | bad=>trivial
         | ret v h' nx'=>exact H1.elim
         | ok x E' h' nx' =>
           obtain ⟨rfl,H1⟩:=H1
           obtain ⟨hns,hnd,hpl,hlen⟩:=BF hp
           intro r ρ w0 a w hR hf hn hrr Q hQ
           have hR':Rel ρ w0 n E h nx a w.drew:=by
            obtain ⟨os,hR⟩:=hR
            exact ⟨os,hR.slots,hR.defers,⟨hR.mem.upd.drew,hR.mem.own,hR.mem.one,hR.mem.imm,hR.mem.nod,hR.mem.kept⟩,hR.mks,hR.ss⟩
           have hg:=H1 ρ ρ w0 a w.drew w.drew h nx (Array.replicate l.length false) (Array.replicate l.length false) [] [] [] p.length ⟨hR',⟨rfl,fun j=>⟨.inl,fun h=>h.elim (fun q=>q) fun ⟨_,h,_⟩=>by cases h⟩,fun e he=>by cases he⟩,(fun j o hj hl=>by
            rw [(LM.start l).2,Nat.zero_testBit] at hl;cases hl),(fun e he=>by cases he),jM,jM,(fun e he=>by cases he),(fun x hx=>by cases hx),hR'.mem,Nx.refl hf⟩ hf hn hns hpl rfl (Q .normal) fun ρ' a' w' e1 e2=>hQ ρ' a' w' ⟨e1.le,e1.fit,e1.ext,⟨e1.old.old,e1.old.fr,e1.old.nw,e1.old.sz⟩⟩ e2
           rw [hlen] at hg
           have:=Ep (r:=r) (n:=0) (by simpa using hnd) _ _ _ _ hg
           exact wpIn_region_any hmx (by simpa using this)
       · trivial
   | false =>
     show rB P Φ _ (bif l.all sA then ih (.ops l l n E h nx) else .bad 2 [])
     cases hd:l.all sA with
     | false=>trivial
     | true =>
       show rB P Φ _ (ih (.ops l l n E h nx))
       have H1:=H (.ops l l n E h nx)
       generalize ih (.ops l l n E h nx)=q at H1
       cases q with
       | bad=>trivial
       | ret v h' nx'=>exact H1.elim
       | ok x E' h' nx' =>
         obtain ⟨rfl,H1⟩:=H1
         intro r ρ w0 a w hR hf hn hrr Q hQ
         exact wpIn_region_lit (wL l a w hd (H1 ρ w0 a w hR hf hn _ hQ))
 | scope c =>
   show rB P Φ _ (match ih (.code c n E h nx) with
    | .ok x E h nx=>(match x with
      | .normal=>.ok .normal E h nx
      | .ret=>.ok .ret E h nx
      | .exit id=>.ok (.exit id) E h nx
      | _=>.bad 22 [])
    | r=>r)
   have H1:=H (.code c n E h nx)
   generalize ih (.code c n E h nx)=q at H1
   cases q with
   | bad=>trivial
   | ret v h' nx'=>exact H1.elim
   | ok x E' h' nx' =>
     have go:(∀ Q:Exit→Act→World→Prop,∀ a w,Q x a w→Le Q x a w)→rB P Φ (.code (.scope c) n E h nx) (.ok x E' h' nx'):=fun hx r ρ w0 a w hR hf hn hrr Q hQ =>
      Ew (H1 r ρ w0 a w hR hf hn hrr _ fun ρ' a' w' e1 e2=>hx Q _ _ (hQ ρ' a' w' e1 e2))
     cases x with
     | normal=>exact go fun Q a w hq=>hq
     | ret=>exact go fun Q a w hq=>hq
     | exit id=>exact go fun Q a w hq=>hq
     | _=>trivial
 | loop c =>
   show rB P Φ _ (ih (.loop c n E h nx))
   have H1:=H (.loop c n E h nx)
   generalize ih (.loop c n E h nx)=q at H1
   cases q with
   | bad=>trivial
   | ret v h' nx'=>exact H1.elim
   | ok x E' h' nx' =>
     intro r ρ w0 a w hR hf hn hrr Q hQ b k cs hro hb' hr
     obtain ⟨e,a',w',hq,harr⟩:=H1 r ρ w0 a w hR hf hn hrr Q hQ b k cs hro hb' hr
     exact ⟨e,a',w',hq,.of_steps (.one (kQ hb' hr rfl) stepR_loop) harr⟩
 | cond c x y =>
   show rB P Φ _ (match sH E c with
    | some (.bool t)=>ih (.code (bif t then x else y) n E h nx)
    | _=>.bad 1 [])
   split
   · rename_i t ht
     have H1:=H (.code (bif t then x else y) n E h nx)
     generalize ih (.code (bif t then x else y) n E h nx)=q at H1
     cases q with
     | bad=>trivial
     | ret v h' nx'=>exact H1.elim
     | ok x' E' h' nx' =>
       intro r ρ w0 a w hR hf hn hrr Q hQ
       obtain ⟨v,e1,g1⟩:=rC hR.slots ht
       have e2:a.eval c=.bool t:=by rw [←pO.1 g1.2];exact sQ e1
       refine wpIn_cond e2 ?_
       have:=H1 r ρ w0 a w hR hf hn (hrr.imp id fun q=>by have q':(Mr x && Mr y)=true:=q;rw [aA] at q';cases t <;> first | exact q'.1 | exact q'.2) Q hQ
       cases t <;> exact this
   · trivial
 | seq x y =>
   show rB P Φ _ (match ih (.code x n E h nx) with
    | .ok x E h nx=>(match x with
      | .normal=>ih (.code y n E h nx)
      | x=>.ok x E h nx)
    | r=>r)
   have H1:=H (.code x n E h nx)
   generalize ih (.code x n E h nx)=q at H1
   cases q with
   | bad=>trivial
   | ret v h' nx'=>exact H1.elim
   | ok x' E' h' nx' =>
     have pass:x'≠.normal→rB P Φ (.code (.seq x y) n E h nx) (.ok x' E' h' nx'):=fun hx=>by
      intro r ρ w0 a w hR hf hn hrr Q hQ
      refine wpIn_seq (H1 r ρ w0 a w hR hf hn (hrr.imp id fun q=>(aA _ _▸(show (Mr x && Mr y)=true from q)).1) _ fun ρ' a' w' e1 e2=>?_)
      have:=hQ ρ' a' w' e1 e2
      cases x' <;> first | exact absurd rfl hx | exact this
     cases x' with
     | normal =>
       show rB P Φ _ (ih (.code y n E' h' nx'))
       have H2:=H (.code y n E' h' nx')
       generalize ih (.code y n E' h' nx')=q2 at H2
       cases q2 with
       | bad=>trivial
       | ret v h2 nx2=>exact H2.elim
       | ok x2 E2 h2 nx2 =>
         intro r ρ w0 a w hR hf hn hrr Q hQ
         refine wpIn_seq (H1 r ρ w0 a w hR hf hn (hrr.imp id fun q=>(aA _ _▸(show (Mr x && Mr y)=true from q)).1) _ fun ρ' a' w' e1 e2=>?_)
         exact H2 r ρ' w0 a' w' e2 e1.fit hn (hrr.imp id fun q=>(aA _ _▸(show (Mr x && Mr y)=true from q)).2) Q fun ρ2 a2 w2 f1 f2=>hQ ρ2 a2 w2 (e1.trans hR.mem f1) f2
     | _=>exact pass Cv
 | block id c =>
   show rB P Φ _ (match ih (.code c n E h nx) with
    | .ok x E h nx=>(match x with
      | .exit id'=>bif Nat.beq id' id then .ok .normal E h nx else .ok (.exit id') E h nx
      | x=>.ok x E h nx)
    | r=>r)
   have H1:=H (.code c n E h nx)
   generalize ih (.code c n E h nx)=q at H1
   cases q with
   | bad=>trivial
   | ret v h' nx'=>exact H1.elim
   | ok x' E' h' nx' =>
     have go:∀ x2,(∀ (Q:Exit→Act→World→Prop) a w,Q x2 a w→Exit.inBlock id Q x' a w)→rB P Φ (.code (.block id c) n E h nx) (.ok x2 E' h' nx'):=fun x2 hx r ρ w0 a w hR hf hn hrr Q hQ =>
      wpIn_block (H1 r ρ w0 a w hR hf hn hrr _ fun ρ' a' w' e1 e2=>hx Q _ _ (hQ ρ' a' w' e1 e2))
     cases x' with
     | exit id' =>
       show rB P Φ _ (bif Nat.beq id' id then .ok .normal E' h' nx' else .ok (.exit id') E' h' nx')
       cases hb:Nat.beq id' id with
       | true =>
         have e:=aB hb
         exact go .normal fun Q a w hq=>by simp only [Exit.inBlock,e,dN];exact hq
       | false =>
         have e:=Rk hb
         exact go (.exit id') fun Q a w hq=>by simp only [Exit.inBlock,e,dO];exact hq
     | normal=>exact go _ fun Q a w hq=>hq
     | ret=>exact go _ fun Q a w hq=>hq
     | goto l=>exact go _ fun Q a w hq=>hq
     | panic ch=>exact go _ fun Q a w hq=>hq
     | outgrown=>exact go _ fun Q a w hq=>hq
theorem Bj {r:Option Nat} {c:Code} {Q:Exit→Act→World→Prop} {a:Act} {w:World} (h:c.wpIn (FF r) 0 P (Exit.then (Bw r P c Q) Q) a w):Bw r P c Q a w:=by
 intro b k cs hro hb' hr
 obtain ⟨x,a₁,w₁,hq,harr⟩:=h b (.inLoop c :: k) cs hro hb' hr
 cases x with
 | normal =>
   obtain ⟨e₂,a₂,w₂,hq₂,harr₂⟩:=hq b k cs hro hb' hr
   exact ⟨e₂,a₂,w₂,hq₂,.of_steps (pV harr (.one (kQ hb' hr rfl) stepR_inLoop)) harr₂⟩
 | exit id=>exact ⟨_,a₁,w₁,hq,.pass (x:=.inLoop c) rfl (fun _ _=>.inl rV) harr⟩
 | goto l=>exact ⟨_,a₁,w₁,hq,.pass (x:=.inLoop c) rfl (fun _ _=>.inl rV) harr⟩
 | ret=>exact ⟨_,a₁,w₁,hq,.pass (x:=.inLoop c) rfl (fun _ _=>.inl rV) harr⟩
 | panic ch=>exact ⟨_,a₁,w₁,hq,.pass (x:=.inLoop c) rfl (fun _ _=>.inl rV) harr⟩
 | outgrown=>exact ⟨_,a₁,w₁,hq,.pass (x:=.inLoop c) rfl (fun _ _=>.inl rV) harr⟩
theorem Rm {op:Op} {t:Nat} {c:CV} (hr:AX E op=some t) (hq:qv P E h op=some c):∃ b,h.get t=some b:=by
 unfold AX at hr
 split at hr
 · rename_i T x
   split at hr
   · rename_i t' o hx
     cases hr
     have hq':(match sH E x with
      | some (.ptr t o)=>match h.get t with
        | some (.cells l _ _ _)=>bif sY P T then Vx l o else
          (match JI P T with
          | some k=>bif Nat.beq (rU (sB l o k)) k then some (.agg (sB l o k)) else none
          | none=>none)
        | _=>none
      | _=>none)=some c:=hq
     rw [hx] at hq'
     simp only at hq'
     split at hq'
     · rename_i hb;exact ⟨_,hb⟩
     cases hq'
   cases hr
 · rename_i T x i cc
   split at hr
   · rename_i t' hx
     cases hr
     have hq':OA P E h T x i cc=some c:=hq
     unfold OA at hq'
     rw [hx] at hq'
     simp only at hq'
     split at hq'
     · split at hq'
       · rename_i l st hb;exact ⟨_,hb⟩
       · rename_i l st hb;exact ⟨_,hb⟩
       cases hq'
     cases hq'
   cases hr
 cases hr
theorem step_loop {ih:Cmd→Res} (H:∀ c,rB P Φ c (ih c)) (c:Code) (n:Nat) (E:Tr CV) (h:Tr CB) (nx:Nat):rB P Φ (.loop c n E h nx) (step P pr ih (.loop c n E h nx)):=by
 show rB P Φ _ (match ih (.code c n E h nx) with
  | .ok x E h nx=>(match x with
    | .normal=>ih (.loop c n E h nx)
    | x=>.ok x E h nx)
  | r=>r)
 have H1:=H (.code c n E h nx)
 generalize ih (.code c n E h nx)=q at H1
 cases q with
 | bad=>trivial
 | ret v h' nx'=>exact H1.elim
 | ok x' E' h' nx' =>
   have pass:x'≠.normal→rB P Φ (.loop c n E h nx) (.ok x' E' h' nx'):=fun hx r ρ w0 a w hR hf hn hrr Q hQ=>by
    refine Bj (H1 r ρ w0 a w hR hf hn hrr _ fun ρ' a' w' e1 e2=>?_)
    have:=hQ ρ' a' w' e1 e2
    cases x' <;> first | exact absurd rfl hx | exact this
   cases x' with
   | normal =>
     show rB P Φ _ (ih (.loop c n E' h' nx'))
     have H2:=H (.loop c n E' h' nx')
     generalize ih (.loop c n E' h' nx')=q2 at H2
     cases q2 with
     | bad=>trivial
     | ret v h2 nx2=>exact H2.elim
     | ok x2 E2 h2 nx2 =>
       intro r ρ w0 a w hR hf hn hrr Q hQ
       refine Bj (H1 r ρ w0 a w hR hf hn hrr _ fun ρ' a' w' e1 e2=>?_)
       exact H2 r ρ' w0 a' w' e2 e1.fit hn hrr Q fun ρ2 a2 w2 f1 f2=>hQ ρ2 a2 w2 (e1.trans hR.mem f1) f2
   | _=>exact pass Cv
theorem xD {ih:Cmd→Res} (H:∀ c,rB P Φ c (ih c)) (o:Oper) (n:Nat) (E:Tr CV) (h:Tr CB) (nx:Nat):rB P Φ (.one o n E h nx) (step P pr ih (.one o n E h nx)):=by
 obtain ⟨dst,op,ty,pos,after,g⟩:=o
 show rB P Φ _ (match qv P E h op with
  | some c=>(match vB E n dst c with | some E=>.ok .normal E h nx | none=>.bad 7 [])
  | none=>match wm P E h nx op with
    | .val c h nx=>(match vB E n dst c with | some E=>.ok .normal E h nx | none=>.bad 8 [])
    | .unit h nx=>(match dst with | none=>.ok .normal E h nx | some _=>.bad 10 [])
    | .bad=>Dj ih E n h nx dst op)
 split
 · rename_i c hq
   split
   · rename_i E' hp
     refine ⟨rfl,fun ρ w0 a w hR hf hn K hK=>?_⟩
     obtain ⟨ob,hob⟩:∃ ob:Nat→Obj,∀ t b,h.get t=some b→w.heap[(ρ t).1]?=some (ob t)∧DB nx ρ (ρ t).2 b (ob t):=by
      refine ⟨fun t=>(w.heap[(ρ t).1]?).getD default,fun t b hb=>?_⟩
      obtain ⟨_,_,_,o,h1,h2⟩:=hR.mem.own t b hb
      exact ⟨by show _=some ((w.heap[(ρ t).1]?).getD default);rw [h1];rfl,by show DB _ _ _ _ ((w.heap[(ρ t).1]?).getD default);rw [h1];exact h2⟩
     obtain ⟨v,k1,k2⟩:=Tf (ob:=ob) hR.slots (fun t b _ hb=>(hob t b hb).2) hq
     have hr:(execOp a.eval ⟨dst,op,ty,pos,after,g⟩).run P w=.ok (.value v) w:=by
      refine k2 w (fun t ht=>?_) dst ty pos after g
      obtain ⟨b,hb⟩:=Rm ht hq
      exact (hob t b hb).1
     unfold vO
     rw [hr]
     exact hK ρ _ w (Nx.refl hf) (hR.put (tI hR.slots hn hp k1)) (nG _ _ _)
   trivial
 have hw:∀ (ρ:Pl) (w0:Bas Φ) (a:Act) (w:World),Slots ρ E nx n a→Mem ρ w0 h nx w→nx≤rF→Wd P op ρ w0 h nx a w (wm P E h nx op):=fun ρ w0 a w hR hm hf=>MT hR hm hf
 revert hw
 generalize wm P E h nx op=q
 intro hw
 cases q with
 | val c h' nx' =>
   show rB P Φ _ (match vB E n dst c with | some E=>.ok .normal E h' nx' | none=>.bad 8 [])
   split
   · rename_i E' hp
     refine ⟨rfl,fun ρ w0 a w hR hf hn K hK=>?_⟩
     obtain ⟨os,hR⟩:=hR
     obtain ⟨k1,v,w',ρ',e1,e2,e3,e4,e5,e6⟩:=hw ρ (w0.plus os) a w hR.slots hR.mem hf
     unfold vO
     rw [e6 dst ty pos after g]
     exact hK ρ' _ w' ⟨k1,e4,e1,e5⟩ ⟨os,tI (hR.slots.up k1 e1) hn hp e2,(wH _ _ _).trans hR.defers,e3,hR.mks,aK hR.ss e5.sz⟩ (nG _ _ _)
   · trivial
 | unit h' nx' =>
   show rB P Φ _ (match dst with | none=>.ok .normal E h' nx' | some _=>.bad 10 [])
   cases dst with
   | some d=>trivial
   | none =>
     refine ⟨rfl,fun ρ w0 a w hR hf hn K hK=>?_⟩
     obtain ⟨os,hR⟩:=hR
     obtain ⟨k1,w',ρ',e1,e3,e4,e5,e6⟩:=hw ρ (w0.plus os) a w hR.slots hR.mem hf
     unfold vO
     rw [e6 ty pos after g]
     exact hK ρ' _ w' ⟨k1,e4,e1,e5⟩ ⟨os,hR.slots.up k1 e1,hR.defers,e3,hR.mks,aK hR.ss e5.sz⟩ (Kept.refl _ _)
 | bad =>
   show rB P Φ _ (Dj ih E n h nx dst op)
   unfold Dj
   split
   · rename_i f args ats _
     split
     · rename_i g' fst cap hfv
       split
       · rename_i l hl
         have H1:=H (.call g' (xA fst (xA l cap)) h nx)
         generalize ih (.call g' (xA fst (xA l cap)) h nx)=q at H1
         cases q with
         | bad=>trivial
         | ok _ _ _ _=>trivial
         | ret v h' nx' =>
           show rB P Φ _ (match vB E n dst v with | some E=>.ok .normal E h' nx' | none=>.bad 11 [])
           split
           · rename_i E' hp
             obtain ⟨⟨fn,f1,f2,f3⟩,H1⟩:=H1
             refine ⟨rfl,fun ρ w0 a w hR hf hn K hK=>?_⟩
             obtain ⟨os,hR⟩:=hR
             obtain ⟨fv,e1,k1⟩:=rC hR.slots hfv
             obtain ⟨xs,ys,k2,k3,rfl⟩:=Cl k1
             obtain ⟨vs,e2,k4⟩:=Dy hR.slots hl
             have hC:=H1 ρ (w0.plus os) w (xs++vs++ys) hR.mem (by rw [cV];exact yQ k2 (yQ k4 k3)) hf
             have hrun:(execOp a.eval ⟨dst,.call ⟨.value f,⟨args⟩,ats⟩,ty,pos,after,g⟩).run P w=.ok (.enter g' (xs++vs++ys).toArray) w:=by
              have hargs:(args.map a.eval)=vs:=(lookN a w).evals e2
              simp [execOp,resolve,Deferred.ofValue,invoke,sQ e1,hargs,vP w _ f1 f2 f3]
             unfold vO
             rw [hrun]
             refine hC.mono fun e w' ⟨u,ρ',q1,q2,q3,q4⟩=>⟨u,q1,?_⟩
             exact hK ρ' _ w' q2 ⟨os,tI (hR.slots.up q2.le q2.ext) hn hp q3,(wH _ _ _).trans hR.defers,q4,hR.mks,aK hR.ss q2.old.sz⟩ (nG _ _ _)
           trivial
       trivial
     · rename_i t hfv
       split
       · rename_i l hl
         have H1:=H (.round t l h nx)
         generalize ih (.round t l h nx)=q at H1
         cases q with
         | bad=>trivial
         | ok _ _ _ _=>trivial
         | ret v h' nx' =>
           show rB P Φ _ (match vB E n dst v with | some E=>.ok .normal E h' nx' | none=>.bad 51 [])
           split
           · rename_i E' hp
             refine ⟨rfl,fun ρ w0 a w hR hf hn K hK=>?_⟩
             obtain ⟨os,hR⟩:=hR
             obtain ⟨fv,e1,k1⟩:=rC hR.slots hfv
             have e3:fv=.func (.yield (ρ t).1) #[] #[]:=k1.2
             subst e3
             obtain ⟨vs,e2,k4⟩:=Dy hR.slots hl
             obtain ⟨f',tmps,assign,body,hy,hC⟩:=H1 ρ (w0.plus os) w vs hR.mem k4 hf
             have hrun:(execOp a.eval ⟨dst,.call ⟨.value f,⟨args⟩,ats⟩,ty,pos,after,g⟩).run P w=.ok (.round (ρ t).1 f' tmps assign body) w:=by
              have hargs:(args.map a.eval)=vs:=(lookN a w).evals e2
              simp [execOp,resolve,Deferred.ofValue,invoke,sQ e1,hargs,hy]
             unfold vO
             rw [hrun]
             refine hC.mono fun e w' ⟨u,ρ',q1,q2,q3,q4⟩=>⟨u,q1,?_⟩
             exact hK ρ' _ w' q2 ⟨os,tI (hR.slots.up q2.le q2.ext) hn hp q3,(wH _ _ _).trans hR.defers,q4,hR.mks,aK hR.ss q2.old.sz⟩ (nG _ _ _)
           trivial
       trivial
     trivial
   trivial
end
section
variable {P:Program} {Φ:Imm→Prop} {pr:sL}
theorem JB {nx n:Nat} {ρ:Pl} (hn:n≤100000):∀ {ps:List Nat} {args:CV} {vs:List Value} {E E1:Tr CV} {tmps:Array Value},KL nx ρ args vs→OD n ps args E=some E1→tmps.size=n→(∀ i x,E.get i=some x→∃ v,tmps[i]?=some v∧Kn nx ρ x v)→
 ps.length=vs.length∧((ps.zip vs).foldl (fun t (p:Nat×Value)=>t.setIfInBounds p.1 p.2) tmps).size=n∧∀ i x,E1.get i=some x→∃ v,((ps.zip vs).foldl (fun t (p:Nat×Value)=>t.setIfInBounds p.1 p.2) tmps)[i]?=some v∧Kn nx ρ x v:=by
 intro ps
 induction ps with
 | nil =>
   intro args vs E E1 tmps hk hp hs he
   cases args with
   | nil =>
     have hp':some E=some E1:=hp
     cases hp'
     have:vs=[]:=hk.2
     subst this
     exact ⟨rfl,by simpa using hs,by simpa using he⟩
   | _=>exact absurd (show none=some E1 from hp) rV
 | cons p ps ih =>
   intro args vs E E1 tmps hk hp hs he
   cases args with
   | cons a b =>
     have hp':(bif Nat.ble (Nat.succ p) n then OD n ps b (E.set (some a) rF p) else none)=some E1:=hp
     rcases rA hp' with ⟨h1,h2⟩ | ⟨_,h2⟩
     · have hpn:p<n:=aU h1
       obtain ⟨⟨b1,b2⟩,v,r,rfl,k1,k2⟩:=hk
       obtain ⟨q1,q2,q3⟩:=ih (E:=E.set (some a) rF p) (tmps:=tmps.setIfInBounds p v) ⟨b2,k2⟩ h2 (by simpa using hs) (fun i x hx=>by
        rw [dG (some a) rF E p i (by rw [Hb];omega)] at hx
        by_cases e:i=p
        · subst e
          rw [aT rfl] at hx
          cases hx
          exact ⟨v,by simp [hs,hpn],b1,k1⟩
        rw [aF e] at hx
        obtain ⟨u,g1,g2⟩:=he i x hx
        exact ⟨u,by rw [fQ (oI e)];exact g1,g2⟩)
       exact ⟨by simp [q1],by simpa using q2,by simpa using q3⟩
     · cases h2
   | _=>exact absurd (show none=some E1 from hp) rV
theorem Wq {ρ:Pl} {w0:Bas Φ} {h:Tr CB} {nx t n4 stm:Nat} {w:World} {E4:Tr CV} {ps4:List Nat} {as4 body4:Code} {st:LoopState} {p:Option Code} (hm:Mem ρ w0 h nx w) (hlp:h.get t=some (.lp E4 n4 ps4 as4 body4 st p stm)) (hfit:Nat.ble (Nat.succ nx) rF=true) (c:Option Code) :
 ∃ w',(Instr.endRound (ρ t).1 c).run P w=.ok (.bool c.isNone) w'∧Nx ρ h nx w ρ (h.set (some (.lp E4 n4 ps4 as4 body4 (CM c) c nx)) rF t) (Nat.succ nx) w'∧Mem ρ w0 (h.set (some (.lp E4 n4 ps4 as4 body4 (CM c) c nx)) rF t) (Nat.succ nx) w':=by
 obtain ⟨_,_,_,o,ho,q,rfl,g1,g2,g3,g4,g5,g6,g7⟩:=hm.own t _ hlp
 have hf:=rG hfit
 have hlt:=(bM.1 ho).1
 obtain ⟨m3,o3⟩:=hm.write (b':=.lp E4 n4 ps4 as4 body4 (CM c) c nx) (o:=.loop { q with state:=if c.isNone then .ready else .done,pending:=c }) (w':=w.putObj (ρ t).1 (.loop { q with state:=if c.isNone then .ready else .done,pending:=c })) qX rfl hlp
  (tB w _ _) (eP hlt) ⟨_,rfl,by cases c <;> rfl,rfl,g3,g4,g5,g6,fun i x hx=>g7 i x hx⟩
 exact ⟨_,run_endRound c ho,⟨cD _,hf,cK _ _,o3⟩,m3⟩
theorem Ht {ih:Cmd→Res} (H:∀ c,rB P Φ c (ih c)) (t:Nat) (args:CV) (h:Tr CB) (nx:Nat):rB P Φ (.round t args h nx) (step P pr ih (.round t args h nx)):=by
 show rB P Φ _ (match h.get t with
  | some (.lp E n ps asg body st _ _)=>bif Oz st && (Mr asg && (Mr body && Nat.ble n 100000)) then
    (match OD n ps args E with
    | some E1=>match ih (.code asg n E1 h nx) with
      | .ok .normal E2 h2 nx2=>(match h2.get t with
        | some (.lp E0 n0 ps0 as0 body0 st0 p0 _)=>bif Oz st0 && Nat.ble (Nat.succ nx2) rF then
          (match ih (.code body n E2 (h2.set (some (.lp E0 n0 ps0 as0 body0 .busy p0 nx2)) rF t) (Nat.succ nx2)) with
          | .ok x _ h3 nx3=>(match h3.get t with
            | some (.lp E4 n4 ps4 as4 body4 _ _ _)=>bif Nat.ble (Nat.succ nx3) rF then
              (match Wo x with
              | some none=>.ret (.bool true) (h3.set (some (.lp E4 n4 ps4 as4 body4 .ready none nx3)) rF t) (Nat.succ nx3)
              | some (some c)=>.ret (.bool false) (h3.set (some (.lp E4 n4 ps4 as4 body4 .done (some c) nx3)) rF t) (Nat.succ nx3)
              | none=>.bad 46 []) else .bad 47 []
            | _=>.bad 48 [])
          | .ret _ _ _=>.bad 49 []
          | r=>r) else .bad 50 []
        | _=>.bad 54 [])
      | .ok _ _ _ _=>.bad 55 []
      | .ret _ _ _=>.bad 56 []
      | r=>r
    | none=>.bad 57 []) else .bad 58 []
  | _=>.bad 59 [])
 split
 · rename_i E n ps asg body st p stm hlp
   refine rE (rB P Φ _) (fun hb=>?_) fun _=>trivial
   simp only [aA] at hb
   obtain ⟨hb1,hb2,hb3,hb4⟩:=hb
   have hn:=rG hb4
   split
   · rename_i E1 hps
     have H1:=H (.code asg n E1 h nx)
     generalize ih (.code asg n E1 h nx)=q at H1
     cases q with
     | bad=>trivial
     | ret _ _ _=>trivial
     | ok x E2 h2 nx2 =>
       cases x with
       | normal =>
         show rB P Φ _ (match h2.get t with
          | some (.lp E0 n0 ps0 as0 body0 st0 p0 _)=>bif Oz st0 && Nat.ble (Nat.succ nx2) rF then
            (match ih (.code body n E2 (h2.set (some (.lp E0 n0 ps0 as0 body0 .busy p0 nx2)) rF t) (Nat.succ nx2)) with
            | .ok x _ h3 nx3=>(match h3.get t with
              | some (.lp E4 n4 ps4 as4 body4 _ _ _)=>bif Nat.ble (Nat.succ nx3) rF then
                (match Wo x with
                | some none=>.ret (.bool true) (h3.set (some (.lp E4 n4 ps4 as4 body4 .ready none nx3)) rF t) (Nat.succ nx3)
                | some (some c)=>.ret (.bool false) (h3.set (some (.lp E4 n4 ps4 as4 body4 .done (some c) nx3)) rF t) (Nat.succ nx3)
                | none=>.bad 46 []) else .bad 47 []
              | _=>.bad 48 [])
            | .ret _ _ _=>.bad 49 []
            | r=>r) else .bad 50 []
          | _=>.bad 54 [])
         split
         · rename_i E0 n0 ps0 as0 body0 st0 p0 stm0 hlp0
           refine rE (rB P Φ _) (fun hb=>?_) fun _=>trivial
           rw [aA] at hb
           obtain ⟨hb5,hb6⟩:=hb
           have hf6:=rG hb6
           have H2:=H (.code body n E2 (h2.set (some (.lp E0 n0 ps0 as0 body0 .busy p0 nx2)) rF t) (Nat.succ nx2))
           generalize ih (.code body n E2 (h2.set (some (.lp E0 n0 ps0 as0 body0 .busy p0 nx2)) rF t) (Nat.succ nx2))=q2 at H2
           cases q2 with
           | bad=>trivial
           | ret _ _ _=>trivial
           | ok x3 E3 h3 nx3 =>
             show rB P Φ _ (match h3.get t with
              | some (.lp E4 n4 ps4 as4 body4 _ _ _)=>bif Nat.ble (Nat.succ nx3) rF then
                (match Wo x3 with
                | some none=>.ret (.bool true) (h3.set (some (.lp E4 n4 ps4 as4 body4 .ready none nx3)) rF t) (Nat.succ nx3)
                | some (some c)=>.ret (.bool false) (h3.set (some (.lp E4 n4 ps4 as4 body4 .done (some c) nx3)) rF t) (Nat.succ nx3)
                | none=>.bad 46 []) else .bad 47 []
              | _=>.bad 48 [])
             split
             · rename_i E4 n4 ps4 as4 body4 st4 p4 stm4 hlp4
               refine rE (rB P Φ _) (fun hb7=>?_) fun _=>trivial
               have go:∀ (c:Option Code),Wo x3=some c→∀ (ρ:Pl) (w0:Bas Φ) (w:World) (vs:List Value),Mem ρ w0 h nx w→KL nx ρ args vs→nx≤rF→
                ∃ f tmps assign body,(Instr.yield (ρ t).1 vs.toArray).run P w=.ok (.round (ρ t).1 f tmps assign body) w∧
                 RoundIn Fence.wide 0 P (ρ t).1 f tmps assign body w (fun e w'=>∃ u ρ',e=.returned u∧Nx ρ h nx w ρ' (h3.set (some (.lp E4 n4 ps4 as4 body4 (CM c) c nx3)) rF t) (Nat.succ nx3) w'∧Kn (Nat.succ nx3) ρ' (.bool c.isNone) u∧Mem ρ' w0 (h3.set (some (.lp E4 n4 ps4 as4 body4 (CM c) c nx3)) rF t) (Nat.succ nx3) w'):=by
                intro c hc ρ w00 w vs hm hk hf
                obtain ⟨W0,ks0,G0,ok0,s0⟩:=w00
                replace hm:=hm.base (s':=w.heap.size)
                obtain ⟨w0,hw0⟩:∃ w0:Bas Φ,w0=⟨W0,ks0,G0,ok0,w.heap.size⟩:=⟨_,rfl⟩
                rw [←hw0] at hm
                obtain ⟨htn,_,_,o,ho,q,rfl,g1,g2,g3,g4,g5,g6,g7⟩:=hm.own t _ hlp
                obtain ⟨z1,z2,z3⟩:=JB hn hk hps g6 g7
                refine ⟨_,_,_,_,run_yield ho (by rw [g3];simp [z1]),?_⟩
                rw [g4,g5,g3]
                have htm:(ps.toArray.zip vs.toArray).foldl (fun tmps (x:Nat×Value)=>tmps.setIfInBounds x.1 x.2) q.tmps=(ps.zip vs).foldl (fun t (p:Nat×Value)=>t.setIfInBounds p.1 p.2) q.tmps:=rV
                refine roundIn_of_wpIn (F:=Fence.wide) (n:=0) trivial ?_
                have hR:Rel ρ w0 n E1 h nx { tmps:=(ps.toArray.zip vs.toArray).foldl (fun tmps (x:Nat×Value)=>tmps.setIfInBounds x.1 x.2) q.tmps,defers:=[] } w:=by
                 rw [htm]
                 exact ⟨[],⟨z2,z3⟩,rfl,hm,fun b hb=>(by cases hb),by rw [hw0];exact aE _⟩
                refine H1 (some (ρ t).1) ρ w0 _ w hR hf hn (.inr hb2) _ fun ρ2 a2 w2 e1 e2=>?_
                have m2:=e2.mem
                have e3:ρ2 t=ρ t:=e1.ext t htn
                obtain ⟨_,_,_,o2,ho2,q2,rfl,j1,j2,j3,j4,j5,j6,j7⟩:=m2.own t _ hlp0
                rw [e3] at ho2
                have hlt:=(bM.1 ho2).1
                refine ⟨_,run_beginRound ho2 (by rw [j1];cases st0 <;> first | rfl | cases hb5),?_⟩
                obtain ⟨os,e2⟩:=e2
                obtain ⟨m3,o3⟩:=e2.mem.write (b':=.lp E0 n0 ps0 as0 body0 .busy p0 nx2) (o:=.loop { q2 with state:=.busy }) (w':=w2.putObj (ρ t).1 (.loop { q2 with state:=.busy })) qX rfl hlp0
                 (by rw [e3];exact tB w2 _ _) (by rw [e3];exact eP hlt) ⟨_,rfl,rfl,j2,j3,j4,j5,j6,fun i x hx=>j7 i x hx⟩
                have a4:Nx ρ2 h2 nx2 w2 ρ2 (h2.set (some (.lp E0 n0 ps0 as0 body0 .busy p0 nx2)) rF t) (Nat.succ nx2) (w2.putObj (ρ t).1 (.loop { q2 with state:=.busy })):=⟨cD _,hf6,cK _ _,o3⟩
                have hR2:Rel ρ2 w0 n E2 (h2.set (some (.lp E0 n0 ps0 as0 body0 .busy p0 nx2)) rF t) (Nat.succ nx2) a2 (w2.putObj (ρ t).1 (.loop { q2 with state:=.busy })):=⟨os,e2.slots.up (cD _) (cK _ _),e2.defers,m3,e2.mks,aK e2.ss a4.old.sz⟩
                refine H2 (some (ρ t).1) ρ2 w0 _ _ hR2 hf6 hn (.inr hb3) _ fun ρ3 a3 w3 f1 f2=>?_
                have htn2:t<nx2:=bG htn e1.le
                have e5:ρ3 t=ρ t:=(f1.ext t (Nat.lt_succ_of_lt htn2)).trans e3
                obtain ⟨w4,k1,k2,k3⟩:=Wq (P:=P) f2.mem hlp4 hb7 c
                rw [e5] at k1
                have hnx:=(((e1.trans hm a4).trans hm f1).trans hm k2)
                have fin:∃ v w',(Instr.endRound (ρ t).1 c).run P w3=.ok v w'∧∃ u ρ',Ending.returned v=.returned u∧Nx ρ h nx w ρ' (h3.set (some (.lp E4 n4 ps4 as4 body4 (CM c) c nx3)) rF t) (Nat.succ nx3) w'∧Kn (Nat.succ nx3) ρ' (.bool c.isNone) u∧Mem ρ' ⟨W0,ks0,G0,ok0,s0⟩ (h3.set (some (.lp E4 n4 ps4 as4 body4 (CM c) c nx3)) rF t) (Nat.succ nx3) w':=
                 ⟨_,w4,k1,_,ρ3,rfl,hnx,Ed,by rw [hw0] at k3;exact k3.base⟩
                cases x3 with
                | normal=>cases hc;exact fin
                | ret=>cases hc;exact fin
                | exit id=>cases hc;exact fin
                | goto l=>cases hc
                | panic ch=>cases hc
                | outgrown=>cases hc
               cases hx:Wo x3 with
               | none=>trivial
               | some c =>
                 cases c with
                 | none=>exact go none hx
                 | some c=>exact go (some c) hx
             trivial
         · trivial
       | _=>trivial
   trivial
 trivial
end
section
variable {P:Program} {Φ:Imm→Prop} {pr:sL}
theorem Tl {ih:Cmd→Res} (H:∀ c,rB P Φ c (ih c)) {all rest:List Oper} {o:Oper} {n:Nat} {E:Tr CV} {h:Tr CB} {nx:Nat}
 (hw:∀ (ρ:Pl) (w0:Bas Φ) (a:Act) (w:World),Rel ρ w0 n E h nx a w→Region.wanted o (yielded all.toArray a.tmps)=true) :
 rB P Φ (.ops all (o :: rest) n E h nx) (match ih (.one o n E h nx) with | .ok x E h nx=>ih (.ops all rest n E h nx) | r=>r):=by
 have H1:=H (.one o n E h nx)
 generalize ih (.one o n E h nx)=q at H1
 cases q with
 | bad=>trivial
 | ret v h' nx'=>exact H1.elim
 | ok x E' h' nx' =>
   obtain ⟨rfl,H1⟩:=H1
   show rB P Φ _ (ih (.ops all rest n E' h' nx'))
   have H2:=H (.ops all rest n E' h' nx')
   generalize ih (.ops all rest n E' h' nx')=q2 at H2
   cases q2 with
   | bad=>trivial
   | ret v h2 nx2=>exact H2.elim
   | ok x2 E2 h2 nx2 =>
     obtain ⟨rfl,H2⟩:=H2
     refine ⟨rfl,fun ρ w0 a w hR hf hn K hK=>?_⟩
     unfold rM
     rw [aT (hw ρ w0 a w hR)]
     exact H1 ρ w0 a w hR hf hn _ fun ρ' a' w' e1 e2 _=>H2 ρ' w0 a' w' e2 e1.fit hn K fun ρ2 a2 w2 f1 f2=>hK ρ2 a2 w2 (e1.trans hR.mem f1) f2
theorem Tm {ih:Cmd→Res} (H:∀ c,rB P Φ c (ih c)) {all rest:List Oper} {o:Oper} {n:Nat} {E:Tr CV} {h:Tr CB} {nx:Nat}
 (hw:∀ (ρ:Pl) (w0:Bas Φ) (a:Act) (w:World),Rel ρ w0 n E h nx a w→Region.wanted o (yielded all.toArray a.tmps)=false) :
 rB P Φ (.ops all (o :: rest) n E h nx) (match vB E n o.dst (.tup .nil) with | some E=>ih (.ops all rest n E h nx) | none=>.bad 4 []):=by
 split
 · rename_i E' hp
   have H2:=H (.ops all rest n E' h nx)
   generalize ih (.ops all rest n E' h nx)=q2 at H2
   cases q2 with
   | bad=>trivial
   | ret v h2 nx2=>exact H2.elim
   | ok x2 E2 h2 nx2 =>
     obtain ⟨rfl,H2⟩:=H2
     refine ⟨rfl,fun ρ w0 a w hR hf hn K hK=>?_⟩
     unfold rM
     rw [aF (by rw [hw ρ w0 a w hR];simp)]
     exact H2 ρ w0 _ w (hR.put (tI hR.slots hn hp Hr)) hf hn K hK
 trivial
theorem Bk {ih:Cmd→Res} (H:∀ c,rB P Φ c (ih c)) (all l:List Oper) (n:Nat) (E:Tr CV) (h:Tr CB) (nx:Nat):rB P Φ (.ops all l n E h nx) (step P pr ih (.ops all l n E h nx)):=by
 cases l with
 | nil=>exact ⟨rfl,fun ρ w0 a w hR hf hn K hK=>hK ρ a w (Nx.refl hf) hR⟩
 | cons o rest =>
   show rB P Φ _ (match o.guard with
    | none=>(match ih (.one o n E h nx) with
      | .ok x E h nx=>ih (.ops all rest n E h nx)
      | r=>r)
    | some (j,want)=>(match wS all j with
      | some t=>(match E.get t with
        | some (.bool b)=>bif IX b want then
         (match ih (.one o n E h nx) with
         | .ok x E h nx=>ih (.ops all rest n E h nx)
         | r=>r)
          else (match vB E n o.dst (.tup .nil) with | some E=>ih (.ops all rest n E h nx) | none=>.bad 4 [])
        | some (.tup .nil)=>(match vB E n o.dst (.tup .nil) with | some E=>ih (.ops all rest n E h nx) | none=>.bad 4 [])
        | _=>.bad 5 [])
      | none=>.bad 6 []))
   split
   · rename_i hg
     exact Tl H fun ρ w0 a w hR=>by simp [Region.wanted,hg]
   rename_i j want hg
   split
   · rename_i t ht
     split
     · rename_i b hb
       cases hx:IX b want with
       | true =>
         have e:b=want:=by cases b <;> cases want <;> first | rfl | cases hx
         exact Tl H fun ρ w0 a w hR=>by simp [Region.wanted,hg,zQ hR.slots ht hb,e]
       | false =>
         have e:b≠want:=by cases b <;> cases want <;> first | (cases hx;done) | exact rI
         exact Tm H fun ρ w0 a w hR=>by simp [Region.wanted,hg,zQ hR.slots ht hb,e]
     · rename_i hb
       exact Tm H fun ρ w0 a w hR=>by simp [Region.wanted,hg,Hs hR.slots ht hb]
     trivial
   trivial
theorem FV {nx:Nat} {ρ:Pl} {l:CV} {vs:List Value} (hk:KL nx ρ l vs):∀ (i:Nat) (E:Tr CV),i+vs.length≤100000→∀ (j:Nat) (x:CV),(Ox l i E).get j=some x→(i≤j∧∃ v,vs[j - i]?=some v∧Kn nx ρ x v)∨E.get j=some x:=by
 refine jZ (motive:=fun l vs=>∀ (i:Nat) (E:Tr CV),i+vs.length≤100000→∀ (j:Nat) (x:CV),(Ox l i E).get j=some x→(i≤j∧∃ v,vs[j - i]?=some v∧Kn nx ρ x v)∨E.get j=some x) ?_ ?_ hk
 · intro i E _ j x hx;exact .inr hx
 intro a b v vs hv hvs ih i E hi j x hx
 have hx':(Ox b (Nat.succ i) (E.set (some a) rF i)).get j=some x:=hx
 rw [bH] at hi
 rcases ih (i+1) _ qX j x hx' with ⟨h1,u,h2,h3⟩ | h1
 · refine .inl ⟨by omega,u,?_,h3⟩
   rw [show j - i=(j - (i+1))+1 by omega]
   simpa using h2
 rw [dG (some a) rF E i j (by rw [Hb];omega)] at h1
 by_cases e:j=i
 · rw [aT e] at h1
   cases h1
   exact .inl ⟨by omega,v,by subst e;simp,hv⟩
 rw [aF e] at h1;exact .inr h1
section
variable {nx n:Nat} {ρ:Pl} {w0:Bas Φ} {w:World} {E:Tr CV} {h:Tr CB} {a:Act}
theorem FW (hR:Rel ρ w0 n E h nx a w) {x:ResultVar} {c:CV} (hc:IU P E h x=some c):∃ v,Kn nx ρ c v∧(vV a.tmps x).run P w=.ok v w:=by
 cases x with
 | tmp t =>
   obtain ⟨v,h1,h2⟩:=hR.slots.2 t c hc
   exact ⟨v,h2,by simp [vV,h1]⟩
 | cell t T =>
   have hc':qv P E h (.load T (.tmp t))=some c:=hc
   obtain ⟨ob,hob⟩:∃ ob:Nat→Obj,∀ t b,h.get t=some b→w.heap[(ρ t).1]?=some (ob t)∧DB nx ρ (ρ t).2 b (ob t):=by
    refine ⟨fun t=>(w.heap[(ρ t).1]?).getD default,fun t b hb=>?_⟩
    obtain ⟨_,_,_,o,h1,h2⟩:=hR.mem.own t b hb
    exact ⟨by show _=some ((w.heap[(ρ t).1]?).getD default);rw [h1];rfl,by show DB _ _ _ _ ((w.heap[(ρ t).1]?).getD default);rw [h1];exact h2⟩
   obtain ⟨v,k1,k2⟩:=Tf (ob:=ob) hR.slots (fun t b _ hb=>(hob t b hb).2) hc'
   have hr:=k2 w (fun t ht=>by
    obtain ⟨b,hb⟩:=Rm ht hc'
    exact (hob t b hb).1) none 0 "" #[] none
   refine ⟨v,k1,?_⟩
   have hp:∃ ad,a.eval (.tmp t)=.pointer (some ad):=by
    have hx:∃ tt o,sH E (.tmp t)=some (.ptr tt o):=by
     have hq':(match sH E (.tmp t) with
      | some (.ptr t o)=>match h.get t with
        | some (.cells l _ _ _)=>bif sY P T then Vx l o else
          (match JI P T with
          | some k=>bif Nat.beq (rU (sB l o k)) k then some (.agg (sB l o k)) else none
          | none=>none)
        | _=>none
      | _=>none)=some c:=hc'
     split at hq'
     · rename_i tt o hx;exact ⟨tt,o,hx⟩
     cases hq'
    obtain ⟨tt,o,hx⟩:=hx
    obtain ⟨u,e1,g1⟩:=rC hR.slots hx
    have:=kO.1 g1.2
    subst this
    exact ⟨_,sQ e1⟩
   obtain ⟨ad,had⟩:=hp
   have had':a.tmps.getD t undef=.pointer (some ad):=had
   simp only [vV,had',asAddr]
   simp only [execOp,had,Instr.loadAt,Instr.sureAddr] at hr
   simp only [aY,bB,aG] at hr ⊢
   generalize (loadVar T ad).run P w=q at hr ⊢
   cases q with
   | ok u w'=>simp only [aG,bB,Result.ok.injEq,Next.value.injEq] at hr;obtain ⟨rfl,rfl⟩:=hr;rfl
   | halt x w'=>cases hr
theorem Tn (hR:Rel ρ w0 n E h nx a w):∀ {l:List ResultVar} {c:CV},IW P E h l=some c→∃ vs,KL nx ρ c vs∧(l.mapM (vV a.tmps)).run P w=.ok vs w:=by
 intro l
 induction l with
 | nil=>intro c hc;cases hc;exact ⟨[],lT,by simp⟩
 | cons x l ih =>
   intro c hc
   have hc':(match IU P E h x with | some a=>(match IW P E h l with | some b=>some (.cons a b) | none=>none) | none=>none)=some c:=hc
   split at hc'
   · rename_i c1 h1
     split at hc'
     · rename_i c2 h2
       cases hc'
       obtain ⟨v,k1,r1⟩:=FW hR h1
       obtain ⟨vs,k2,r2⟩:=ih h2
       exact ⟨v :: vs,nR k1 k2,by simp [List.mapM_cons,r1,r2]⟩
     cases hc'
   cases hc'
theorem FX (hR:Rel ρ w0 n E h nx a w) {fn:Func} {c:CV} (hc:Oy P E h fn.results.toList=some c):∃ v,Kn nx ρ c v∧(results fn a.tmps).run P w=.ok v w:=by
 unfold Oy at hc
 have key:∀ vs,(fn.results.toList.mapM (vV a.tmps)).run P w=.ok vs w→(results fn a.tmps).run P w=.ok (if h:vs.toArray.size=1 then vs.toArray[0] else .tuple vs.toArray) w:=fun vs hvs=>by
  rw [vW]
  have e1:fn.results.mapM (vV a.tmps)=List.toArray <$> (fn.results.toList.mapM (vV a.tmps)):=by rw [Array.mapM_eq_mapM_toList]
  rw [e1,map_eq_pure_bind]
  simp only [aY,hvs,aG,bB]
 split at hc
 · rename_i c1 h1
   cases hc
   obtain ⟨vs,k1,r1⟩:=Tn hR h1
   obtain ⟨v,vs',rfl,k2,k3⟩:=k1.inv_cons
   rw [k3.inv_nil] at r1
   exact ⟨v,k2,by rw [key _ r1];simp⟩
 · rename_i c1 hne h1
   cases hc
   obtain ⟨vs,k1,r1⟩:=Tn hR h1
   refine ⟨.tuple vs.toArray,⟨k1.1,oL.2 ⟨vs,k1.2,rfl⟩⟩,?_⟩
   rw [key _ r1]
   have:¬vs.toArray.size=1:=fun hs=>by
    have hl:vs.length=1:=by simpa using hs
    rw [←rX k1] at hl
    revert k1 hl hne
    cases c1 <;> first | (intro hne k1 hl;cases hl;done) | skip
    rename_i x y
    intro hne k1 hl
    obtain ⟨v,vs',rfl,k2,k3⟩:=k1.inv_cons
    have hy:rU y=0:=Nat.succ.inj hl
    cases y <;> first | exact absurd rfl (hne _) | (exact absurd k3.2 id) | (cases hy)
   rw [dif_neg this]
 cases hc
end
end
section
variable {P:Program} {Φ:Imm→Prop} {pr:sL}
theorem Kf {ops:Array Oper} {K:Act→World→Prop} {C C':Array Bool→World→Prop} (hC:∀ L w,C' L w→C L w):∀ (f:Nat) (L:Array Bool) (a:Act) (w:World),gm P ops K C' f L a w→gm P ops K C f L a w
 | 0,_,_,_,h=>⟨hC _ _ h.1,h.2⟩
 | f+1,_,_,_,h=>⟨hC _ _ h.1,h.2.1,fun i hi=>Eo (fun a w h=>Kf hC f _ a w h) (h.2.2 i hi)⟩
theorem Pb {n nx:Nat} {ρ:Pl} {E:Tr CV} {a:Act} {l:List Oper} {o:Oper} {g:Bool} (hs:Slots ρ E nx n a) (h:GW l E o=some g):Region.wanted o (yielded l.toArray a.tmps)=g:=by
 unfold GW at h
 split at h
 · rename_i hg;cases h;simp [Region.wanted,hg]
 rename_i j want hg
 split at h
 · rename_i t ht
   split at h
   · rename_i b hb
     cases h
     have:=zQ hs ht hb
     simp only [Region.wanted,hg,this]
     cases b <;> cases want <;> rfl
   · rename_i hb
     cases h
     have:=Hs hs ht hb
     simp [Region.wanted,hg,this]
   cases h
 cases h
theorem xE {l:List Oper} {L:Array Bool} {i:Nat} (hd:FU l L) (hi:i∈Region.ready .any l.toArray L):FU l (L.setIfInBounds i true):=fun j o hj hl e he hb=>by
 by_cases hji:i=j
 · subst hji
   obtain ⟨_,o',ho',h2⟩:=dQ.1 hi
   have ho:l.toArray[i]?=some o:=by simpa using hj
   rw [ho] at ho';cases ho'
   exact nT (h2 e he hb)
 rw [fW false hji] at hl
 exact nT (hd j o hj hl e he hb)
theorem Pc {l:List Oper} {L:Array Bool} {i j:Nat} (hd:FU l L) (hi:i∈Region.ready .any l.toArray L) (hw:Wp l i j):L.getD j false=false:=by
 obtain ⟨o,ho,_,he⟩:=hw
 obtain ⟨e,he1,he2,he3⟩:=Hm.1 he
 cases hl:L.getD j false with
 | false=>rfl
 | true =>
   have h1:=hd j o ho hl e he1 he2
   rw [he3] at h1
   obtain ⟨h0,o',ho',_⟩:=dQ.1 hi
   have hlt:i<l.toArray.size:=(bM.1 ho').1
   rcases aR i L.size with hs | hs
   · simp [hs] at h0 h1;rw [h0] at h1;cases h1
   simp [iU hs] at h1
theorem Kg {o:Oper}:∀ {pend:List (Nat×Nat×Nat)} {x:Nat×Nat×Nat},x∈pend→(not (xM o.op) && He o x.2.1)=false→x∈rL o pend:=by
 intro pend
 induction pend with
 | nil=>intro x h _;cases h
 | cons y pend ih =>
   intro x h hx
   show x∈(bif not (xM o.op) && He o y.2.1 then rL o pend else y :: rL o pend)
   rcases cH.1 h with rfl | h
   · rw [hx];exact bC
   cases (not (xM o.op) && He o y.2.1) with
   | true=>exact ih h hx
   | false=>exact aV _ (ih h hx)
theorem sX {A:Array Bool} {j:Nat}:A.getD j true=false↔j<A.size∧A.getD j false=false:=by
 rcases aR j A.size with h | h
 · simp [h]
 simp [iU h];omega
theorem Hu {R:List Nat} {L:Array Bool} {k:Nat}:(Hn R L).size=L.size∧((Hn R L).getD k false=true↔L.getD k false=true∨(k∈R∧k<L.size)):=by
 induction R with
 | nil=>exact ⟨rfl,fun h=>.inl h,fun h=>h.elim (fun q=>q) fun q=>by cases q.1⟩
 | cons j R ih =>
   obtain ⟨h1,h2⟩:=ih
   refine ⟨by show ((Hn R L).setIfInBounds j true).size=_;simp [h1],?_⟩
   show ((Hn R L).setIfInBounds j true).getD k false=true↔_
   by_cases e:j=k
   · subst e
     rcases aR j L.size with h | h
     · have:j<(Hn R L).size:=by rw [h1];exact h
       simp [this,h]
     have h3:¬j<(Hn R L).size:=by rw [h1];omega
     have h4:((Hn R L).setIfInBounds j true).getD j false=(Hn R L).getD j false:=by
      rw [eG,eG,iU (by simp;omega),iU qX]
     rw [h4,h2]
     constructor
     · rintro (h5 | h5)
       · exact .inl h5
       omega
     rintro (h5 | h5)
     · exact .inl h5
     omega
   rw [fW false e,h2]
   constructor
   · rintro (h5 | h5)
     · exact .inl h5
     exact .inr ⟨aV _ h5.1,h5.2⟩
   rintro (h5 | h5)
   · exact .inl h5
   rcases cH.1 h5.1 with h6 | h6
   · exact absurd h6.symm e
   exact .inr ⟨h6,h5.2⟩
section lists
variable {l:List Oper} {L Lm:Array Bool} {S:List Early} {i:Nat}
theorem LR.unl (h:LR L S Lm) {j:Nat} (hj:Lm.getD j true=false):L.getD j true=false∧∀ e∈S,e.j≠j:=by
 obtain ⟨h1,h2⟩:=sX.1 hj
 refine ⟨sX.2 ⟨by rw [←h.size];exact h1,?_⟩,fun e he hej=>?_⟩
 · cases hl:L.getD j false with
   | false=>rfl
   | true=>rw [(h.iff j).2 (.inl hl)] at h2;cases h2
 rw [(h.iff j).2 (.inr ⟨e,he,hej⟩)] at h2;cases h2
theorem LR.up (h:LR L S Lm) (hi:i∈Region.ready .any l.toArray L) (hn:∀ e∈S,e.j≠i):i∈Region.ready .any l.toArray Lm:=by
 obtain ⟨h1,o,ho,h2⟩:=dQ.1 hi
 obtain ⟨h3,h4⟩:=sX.1 h1
 refine dQ.2 ⟨sX.2 ⟨by rw [h.size];exact h3,?_⟩,o,ho,fun e he hb=>(h.iff _).2 (.inl (h2 e he hb))⟩
 cases hl:Lm.getD i false with
 | false=>rfl
 | true =>
   rcases (h.iff i).1 hl with h5 | ⟨e,h5,h6⟩
   · rw [h4] at h5;cases h5
   exact absurd h6 (hn e h5)
theorem LR.set (h:LR L S Lm) (hi:i<L.size) (hn:∀ e∈S,e.j≠i):LR (L.setIfInBounds i true) S (Lm.setIfInBounds i true):=by
 refine ⟨by simp [h.size],fun j=>?_,fun e he=>?_⟩
 · by_cases e:i=j
   · subst e
     have h1:i<Lm.size:=by rw [h.size];exact hi
     simp [hi,h1]
   rw [fW false e,fW false e];exact h.iff j
 rw [fW true (fun e2=>hn e he e2.symm)];exact h.un e he
theorem LR.nil (h:LR L [] Lm) {j:Nat} (hj:j∈Region.ready .any l.toArray Lm):j∈Region.ready .any l.toArray L:=by
 obtain ⟨h1,o,ho,h2⟩:=dQ.1 hj
 refine dQ.2 ⟨(h.unl h1).1,o,ho,fun e he hb=>?_⟩
 rcases (h.iff _).1 (h2 e he hb) with h3 | ⟨x,h3,_⟩
 · exact h3
 cases h3
theorem LR.early (h:LR L S Lm) {j p:Nat} {o:Obj} {V:Nat→Value} (hj:Lm.getD j true=false):LR L (⟨j,p,o,V⟩ :: S) (Lm.setIfInBounds j true):=by
 obtain ⟨h1,h2⟩:=sX.1 hj
 refine ⟨by simp [h.size],fun k=>?_,fun e he=>?_⟩
 · by_cases e:j=k
   · subst e
     simp [h1]
   rw [fW false e,h.iff k]
   constructor
   · rintro (h5 | ⟨x,h5,h6⟩)
     · exact .inl h5
     exact .inr ⟨x,aV _ h5,h6⟩
   rintro (h5 | ⟨x,h5,h6⟩)
   · exact .inl h5
   rcases cH.1 h5 with rfl | h5
   · exact absurd h6 e
   exact .inr ⟨x,h5,h6⟩
 rcases cH.1 he with rfl | he
 · exact (h.unl hj).1
 exact h.un e he
theorem Ws {e:Early} (he:e∈S):∃ A B,S=A++e :: B:=List.append_of_mem he
theorem LR.adopt {A B:List Early} {e:Early} (h:LR L (A++e :: B) Lm) (hnd:((A++e :: B).map (·.j)).Nodup):LR (L.setIfInBounds e.j true) (A++B) Lm:=by
 have hu:=(sX.1 (h.un e rV)).1
 have hne:∀ x,x∈A++B→x.j≠e.j:=fun x hx hxe=>by
  rw [oR,bK] at hnd
  have h1:=nQ.1 hnd
  have h2:=iW.1 h1.2.1
  rcases eD.1 hx with h3 | h3
  · exact h1.2.2 x.j (dD.2 ⟨x,h3,rfl⟩) e.j (bC ..) hxe
  exact h2.1 (dD.2 ⟨x,h3,hxe⟩)
 refine ⟨by simp [h.size],fun k=>?_,fun x hx=>?_⟩
 · rw [h.iff k]
   by_cases e2:e.j=k
   · subst e2
     simp [hu]
     exact .inr ⟨e,.inr (.inl rfl),rfl⟩
   rw [fW false e2]
   constructor
   · rintro (h5 | ⟨x,h5,h6⟩)
     · exact .inl h5
     rcases eD.1 h5 with h7 | h7
     · exact .inr ⟨x,fY _ h7,h6⟩
     rcases cH.1 h7 with rfl | h7
     · exact absurd h6 e2
     exact .inr ⟨x,gU _ h7,h6⟩
   rintro (h5 | ⟨x,h5,h6⟩)
   · exact .inl h5
   rcases eD.1 h5 with h7 | h7
   · exact .inr ⟨x,fY _ h7,h6⟩
   exact .inr ⟨x,gU _ (aV _ h7),h6⟩
 rw [fW true (fun e2=>hne x hx e2.symm)]
 refine h.un x ?_
 rcases eD.1 hx with h3 | h3
 · exact fY _ h3
 exact gU _ (aV _ h3)
theorem Rn {Rc R:List Nat} (h:LR L S Lm) (hr:RaceOk l L Rc i R) (hs:∀ e∈S,e.j∈Rc) (hn:∀ e∈S,e.j≠i) {j:Nat} (hj:j∈Region.ready .any l.toArray Lm):j=i∨j∈R:=by
 by_cases hR:j∈R
 · exact .inr hR
 refine .inl (hr.only j ?_)
 obtain ⟨h1,o,ho,h2⟩:=dQ.1 hj
 obtain ⟨h3,h4⟩:=sX.1 (h.unl h1).1
 refine dQ.2 ⟨sX.2 ⟨by rw [(Hu (k:=0)).1];exact h3,?_⟩,o,ho,fun e he hb=>Hu.2.2 ?_⟩
 · cases hl:(Hn R L).getD j false with
   | false=>rfl
   | true =>
     rcases Hu.2.1 hl with h5 | h5
     · rw [h4] at h5;cases h5
     exact absurd h5.1 hR
 rcases (h.iff _).1 (h2 e he hb) with h5 | ⟨x,h5,h6⟩
 · exact .inl h5
 rw [←h6]
 refine .inr ⟨?_,(sX.1 (h.un x h5)).1⟩
 rcases hr.sub x.j (hs x h5) with h7 | h7
 · exact absurd h7 (hn x h5)
 exact h7
theorem Pe:∀ {xs ys:List Nat},xs.Nodup→(∀ x∈xs,x∈ys)→xs.length≤ys.length
 | [],_,_,_=>aZ _
 | x :: xs,ys,hn,h=>by
   obtain ⟨h1,h2⟩:=iW.1 hn
   have hx:=h x (bC ..)
   have:=Pe (ys:=ys.erase x) h2 fun y hy=>(List.mem_erase_of_ne (fun e=>h1 (by rw [←e];exact hy))).2 (h y (aV _ hy))
   rw [List.length_erase_of_mem hx] at this
   have:0<ys.length:=List.length_pos_of_mem hx
   rw [bH];omega
theorem PlanOk.cover:∀ {p:List (Nat×Pk)} {L:Array Bool} {Rc:List Nat},PlanOk l L Rc p→∀ k∈Rc,k∈p.map (·.1)
 | [],_,_,h,k,hk=>by rw [h.2] at hk;cases hk
 | (i,.look) :: p,_,_,h,k,hk=>aV _ (PlanOk.cover h.2 k hk)
 | (i,.only) :: p,_,_,h,k,hk=>by rw [h.1] at hk;cases hk
 | (i,.race R) :: p,_,_,h,k,hk=>by
   rcases h.1.sub k hk with rfl | h2
   · exact bC ..
   · exact aV _ (PlanOk.cover h.2.2 k h2)
 | (i,.make R) :: p,_,_,h,k,hk=>by
   rcases h.1.sub k hk with rfl | h2
   · exact bC ..
   exact aV _ (PlanOk.cover h.2.2 k h2)
abbrev qH:=@PlanOk.cover
theorem Hv {p:List (Nat×Pk)} {Rc:List Nat} (hp:PlanOk l L Rc p) (hs:∀ e∈S,e.j∈Rc) (hn:(S.map (·.j)).Nodup):S.length≤p.length:=by
 have:=Pe hn (ys:=p.map (·.1)) fun x hx=>by
  obtain ⟨e,he,rfl⟩:=dD.1 hx
  exact hp.cover _ (hs e he)
 simpa using this
end lists
section
variable {l:List Oper} {ρ ρ':Pl} {h h':Tr CB} {nx nx' n:Nat} {a a':Act} {w w' ws:World} {e:Early} {E:Tr CV} {w0:Bas Φ}
theorem yL {o:Oper} (h:Hf o=true):(∀ cs b,o.op≠.select cs b)∧xM o.op=false∧o.guard=none∧(∃ xs,MV o.op=some xs)∧BD o.op=true∧∀ d,o.dst=some d→∀ x∈o.op.operands,x≠.tmp d:=by
 unfold Hf at h
 rw [aA] at h
 obtain ⟨h1,h2⟩:=h
 have hg:o.guard=none:=by
  split at h2
  · assumption
  cases h2
 have hd:∀ d,o.dst=some d→∀ x∈o.op.operands,x≠.tmp d:=fun d hd x hx hxd=>by
  rw [hg,hd] at h2
  simp only [cW] at h2
  have h3:Wj (isT d) o.op.operands.toList=true:=Hd.2 ⟨x,by simpa using hx,by rw [hxd];show Nat.beq d d=true;simp⟩
  rw [h3] at h2;cases h2
 obtain ⟨dst,op,ty,pos,after,g⟩:=o
 refine ⟨fun cs b e=>?_,?_,hg,?_,h1,hd⟩
 · have e':op=.select cs b:=e
   subst e';cases h1
 · cases op <;> first | rfl | cases h1
 cases op <;> first | exact ⟨_,rfl⟩ | skip
 case makeMap T x=>cases x <;> first | exact ⟨_,rfl⟩ | cases h1
 all_goals cases h1
theorem Kh {dst:Option Nat} (hk:Kept dst a a') {x:Operand} (hx:∀ d,dst=some d→x≠.tmp d):a'.eval x=a.eval x:=by
 cases x with
 | tmp t =>
   show a'.tmps.getD t undef=a.tmps.getD t undef
   rw [eG,eG,hk t (fun e=>hx t e rfl)]
 | _=>rfl
theorem EOk.keep (he:EOk P l ρ h a w ws e) {o:Oper} (hk:Kept o.dst a a') (hap:∀ oj,l[e.j]?=some oj→oj.apart l.toArray o=true) (hfr:Iy ρ h nx w ρ' h' w'):EOk P l ρ' h' a' w' ws e:=by
 obtain ⟨⟨oj,d,h1,h2,h3,h4,h5⟩,g1,g2,g3,g4⟩:=he
 obtain ⟨q1,q2,q3⟩:=Oper.apart_spec (hap oj h1)
 refine ⟨⟨oj,d,h1,h2,h3,?_,fun w2=>?_⟩,bG g1 hfr.sz,(hfr.fr _ g1 g4 id).trans g2,g3,fun t b ht e2=>?_⟩
 · rw [hk d (fun e2=>q2 d h3 e2)];exact h4
 · rw [←h5 w2,execOp_congr oj (yL h2).1 fun x hx=>Kh hk fun d' hd hxd=>?_]
   subst hxd
   exact q3 d' hd (fY _ (List.mem_filterMap.2 ⟨.tmp d',by simpa using hx,rfl⟩))
 rcases hfr.nw t b ht with h6 | ⟨t',b',h6,h7⟩
 · omega
 exact g4 t' b' h6 (h7.trans e2)
theorem Pf (hs:Slots ρ E nx n a) {d:Nat} (hd:E.get d=none) (v:Value):Slots ρ E nx n (a.put (some d) v):=by
 refine ⟨by show (a.tmps.setIfInBounds d v).size=n;simp [hs.1],fun i x hx=>?_⟩
 obtain ⟨u,h1,h2⟩:=hs.2 i x hx
 refine ⟨u,?_,h2⟩
 show (a.tmps.setIfInBounds d v)[i]?=some u
 rw [fQ (fun e=>by subst e;rw [hd] at hx;cases hx)];exact h1
theorem Ki {R:List Nat} (hR:∀ j∈R,∀ d,wS l j=some d→d<rF):∀ i x,(rT l R E).get i=some x→E.get i=some x:=by
 induction R with
 | nil=>exact fun i x h=>h
 | cons j R ih =>
   intro i x hx
   have hx':(match wS l j with | some d=>(rT l R E).set none rF d | none=>rT l R E).get i=some x:=hx
   have ih':=ih fun k hk=>hR k (aV _ hk)
   split at hx'
   · rename_i d hd
     rw [dG _ _ _ _ _ (hR j (bC ..) d hd)] at hx'
     split at hx'
     · cases hx'
     exact ih' i x hx'
   exact ih' i x hx'
theorem Hw {R:List Nat} (hR:∀ j∈R,∀ d,wS l j=some d→d<rF) {j d:Nat} (hj:j∈R) (hd:wS l j=some d):(rT l R E).get d=none:=by
 induction R with
 | nil=>cases hj
 | cons k R ih =>
   show (match wS l k with | some d=>(rT l R E).set none rF d | none=>rT l R E).get d=none
   have hR':∀ j∈R,∀ d,wS l j=some d→d<rF:=fun k hk=>hR k (aV _ hk)
   rcases cH.1 hj with rfl | hj
   · rw [hd]
     simp only
     rw [dG _ _ _ _ _ (hR _ (bC ..) d hd),aT rfl]
   have:=ih hR' hj
   split
   · rename_i d' hd'
     rw [dG _ _ _ _ _ (hR k (bC ..) d' hd')]
     split
     · rfl
     exact this
   exact this
theorem Rel.less {E':Tr CV} (hR:Rel ρ w0 n E h nx a w) (hE:∀ i x,E'.get i=some x→E.get i=some x):Rel ρ w0 n E' h nx a w:=by
 obtain ⟨os,hR⟩:=hR
 exact ⟨os,⟨hR.slots.1,fun i x hx=>hR.slots.2 i x (hE i x hx)⟩,hR.defers,hR.mem,hR.mks,hR.ss⟩
end
theorem Cp {l:List Oper} {Lm:Array Bool} {ρ ρ':Pl} {w w':World} {nx nx':Nat} {pend pend':List (Nat×Nat×Nat)} {cs:List (Nat×Nat×Obj)} {i:Nat} (hp:PendOk l Lm ρ w nx pend cs) (hn:nx≤nx') (he:Ext nx ρ ρ') (hw:∀ (b:Nat) (o:Obj),w.heap[b]?=some o→w'.heap[b]?=some o)
 (hpe:∀ t k b,(t,k,b)∈pend→(t,k,b)∈pend'∨(Wp l k i∧(Lm.setIfInBounds i true).getD i false=true)):PendOk l (Lm.setIfInBounds i true) ρ' w' nx' pend' cs:=fun x hx=>by
 rcases hp x hx with ⟨k,h1,h2⟩ | ⟨t,b,h1,h2,h3,h4,h5⟩
 · exact .inl ⟨k,h1,nT h2⟩
 rcases hpe _ _ _ h1 with h6 | h6
 · exact .inr ⟨t,b,h6,bG h2 hn,by rw [he t h2];exact h3,aK h4 hn,hw _ _ h5⟩
 exact .inl ⟨i,h6.1,h6.2⟩
theorem Rp {A:Array Bool} {i:Nat} (h:A.getD i true=false):(A.setIfInBounds i true).getD i false=true:=by
 have:=(sX.1 h).1
 simp [this]
theorem alloc_old {w:World} {o:Obj}:∀ (b:Nat) (x:Obj),w.heap[b]?=some x→(w.alloc o).heap[b]?=some x:=fun b x h=>by
 rw [(sP w o).same b (bM.1 h).1 id];exact h
theorem To {l:List Oper} {R Rc:List Nat} {n i nx pl:Nat} {E:Tr CV} {h:Tr CB} {pend:List (Nat×Nat×Nat)} {ρ ρs:Pl} {w0:Bas Φ} {ws:World} {hs:Tr CB} {Dn:Nat} {L:Array Bool} {cs:List (Nat×Nat×Obj)} {K:Act→World→Prop}
 (hf:nx≤rF) (hn:n≤100000) (hro:RaceOk l L Rc i R) (hkill:∀ j∈R,∀ d,wS l j=some d→E.get d=none) (hrq:vN P l R n E h nx=true) (hcov:∀ (S:List Early),(∀ e∈S,e.j∈Rc∨e.j∈R)→(∀ e∈S,e.j≠i)→(S.map (·.j)).Nodup→S.length≤pl)
 (go:∀ (a:Act) (w:World) (Lm:Array Bool) (S:List Early) (f:Nat),RI P l n E h nx pend ρ ρs w0 a w ws hs Dn L Lm (Rc++R) S cs→(∀ e∈S,e.j≠i)→pl=f+S.length→i∈Region.ready .any l.toArray Lm→stp P l.toArray i (gm P l.toArray K (CP l cs) f (Lm.setIfInBounds i true)) a w) :
 ∀ (f:Nat) (a:Act) (w:World) (Lm:Array Bool) (S:List Early),RI P l n E h nx pend ρ ρs w0 a w ws hs Dn L Lm (Rc++R) S cs→(∀ e∈S,e.j≠i)→pl+1=f+S.length→gm P l.toArray K (CP l cs) f Lm a w:=by
 intro f
 induction f with
 | zero =>
   intro a w Lm S hI hni hl
   have:=hcov S (fun e he=>eD.1 (hI.sub e he)) hni hI.ndj
   omega
 | succ f ih =>
   intro a w Lm S hI hni hl
   have hir:=hI.lr.up hro.rd hni
   have hsub:∀ e∈S,e.j=i∨e.j∈R:=fun e he=>by
    rcases eD.1 (hI.sub e he) with h1 | h1
    · exact hro.sub _ h1
    exact .inr h1
   refine ⟨hI.pend.cp,fun he=>(by rw [he] at hir;cases hir),fun j hj=>?_⟩
   have hro':RaceOk l L (Rc++R) i R:=⟨hro.rd,fun k hk=>(eD.1 hk).elim (hro.sub k) .inr,hro.ni,hro.mks,hro.only⟩
   rcases Rn hI.lr hro' hI.sub hni hj with rfl | hjR
   · exact go a w Lm S f hI hni qX hj
   obtain ⟨oj,e1,e2,e3,e4,e5⟩:=hro.mks j hjR
   have e1':l.toArray[j]?=some oj:=by simpa using e1
   obtain ⟨s1,s2,s3,⟨xs,s4⟩,_,s6⟩:=yL e2
   have hq:=tE.1 hrq j hjR
   obtain ⟨oj',e6,e7⟩:=xL hq
   rw [e1] at e6;cases e6
   rw [aA] at e7
   obtain ⟨e7,e8⟩:=e7
   obtain ⟨dst,op,ty,pos,after,g⟩:=oj
   cases dst with
   | none=>cases e7
   | some d =>
     have hdn:d<n:=rG e7
     have hEd:E.get d=none:=hkill j hjR d (by rw [xJ,e1];rfl)
     split at e8
     · rename_i c h' nx' hw
       obtain ⟨b,s,o,V,_,_,_,_,_,_,hex⟩:=BN hI.rel.slots s4 hw
       obtain ⟨m1,o1⟩:=hI.rel.mem.grow (sP w o)
       have hji:j≠i:=fun e=>hro.ni (by rw [←e];exact hjR)
       have hjun:=(dQ.1 hj).1
       have hjS:=(hI.lr.unl hjun).2
       have hstp:∀ Q:Act→World→Prop,Q (a.put (some d) (V w.heap.size)) (w.alloc o)→stp P l.toArray j Q a w:=fun Q hQ=>by
        unfold stp
        simp only [e1']
        have hg:g=none:=s3
        subst hg
        simp only [Region.wanted,dN]
        unfold vO
        rw [hex w (some d) ty pos after none]
        exact hQ
       refine hstp _ (ih (a.put (some d) (V w.heap.size)) (w.alloc o) (Lm.setIfInBounds j true) (⟨j,w.heap.size,o,V⟩ :: S) ?_ ?_ (by rw [bH];omega))
       · refine ⟨?_,hI.lr.early hjun,xE hI.down hj,?_,?_,?_,?_,?_,hI.ms,hI.nxb.trans hI.ms ⟨aE _,hf,cK _ _,o1⟩⟩
         · obtain ⟨os,hR⟩:=hI.rel
           obtain ⟨m2,_⟩:=hR.mem.grow (sP w o)
           exact ⟨os,Pf hR.slots hEd _,(wH _ _ _).trans hR.defers,m2,hR.mks,aK hR.ss o1.sz⟩
         · intro e he
           rcases cH.1 he with rfl | he
           · exact gU _ hjR
           exact hI.sub e he
         · rw [bK]
           exact iW.2 ⟨fun h=>by obtain ⟨e,he,h⟩:=dD.1 h;exact hjS e he h,hI.ndj⟩
         · rw [bK]
           refine iW.2 ⟨fun h=>?_,hI.ndp⟩
           obtain ⟨e,he,h⟩:=dD.1 h
           have:=(hI.eok e he).lt
           simp only at h
           omega
         · intro e he
           rcases cH.1 he with rfl | he
           · refine ⟨⟨_,d,e1,e2,rfl,?_,fun w2=>?_⟩,?_,rY w o,aK hI.nxb.old.sz (aE _),fun t b ht=>?_⟩
             · have hsz:d<a.tmps.size:=by rw [hI.rel.slots.1];exact hdn
               show (a.tmps.setIfInBounds d _)[d]?=_
               simp [hsz]
             · rw [←hex w2 (some d) ty pos after g]
               rw [execOp_congr (ρ:=(a.put (some d) (V w.heap.size)).eval) (ρ':=a.eval) _ s1 fun x hx=>Kh (nG a (some d) _) fun d' hd' hxd=>s6 d' hd' x hx hxd]
             · show w.heap.size<_;rw [sR];omega
             have:=hI.rel.mem.lt ht
             show (ρ t).1≠w.heap.size
             omega
           refine (hI.eok e he).keep (o:=⟨some d,op,ty,pos,after,g⟩) (nG _ _ _) (fun ok hok=>?_) o1
           obtain ⟨ok',f1,f2,f3,f4,f5⟩:=hro.mks e.j ((hsub e he).resolve_left (hni e he))
           rw [hok] at f1;cases f1
           exact f5 j hjR (fun e2=>hjS e he e2.symm) _ e1
         exact Cp hI.pend (aE _) (cK _ _) alloc_old fun t k b h=>.inl h
       intro e he
       rcases cH.1 he with rfl | he
       · exact hji
       exact hni e he
     cases e8
theorem Kj {l:List Oper} {R:List Nat} {n nx:Nat} {E:Tr CV} {h:Tr CB} (hn:n≤100000) (hrq:vN P l R n E h nx=true):∀ j∈R,∀ d,wS l j=some d→d<rF:=fun j hj d hd=>by
 obtain ⟨o,h1,h2⟩:=xL (tE.1 hrq j hj)
 rw [xJ,h1] at hd
 have hd':o.dst=some d:=hd
 rw [aA,hd'] at h2
 have h3:d+1≤n:=rG h2.1
 rw [Hb];omega
theorem Pg {ih:Cmd→Res} (H:∀ c,rB P Φ c (ih c)) (l:List Oper) (i:Nat) (plan:List (Nat×Pk)) (pend:List (Nat×Nat×Nat)) (n:Nat) (E:Tr CV) (h:Tr CB) (nx:Nat):rB P Φ (.reg l ((i,.look) :: plan) pend n E h nx) (step P pr ih (.reg l ((i,.look) :: plan) pend n E h nx)):=by
 show rB P Φ _ (match zT l i with
  | some o=>(match GW l E o with
    | some g=>(bif g then (match qv P E h o.op with
     | some c=>(match vB E n o.dst c with
       | some E'=>ih (.reg l plan (match AX E o.op with | some t=>(t,i,nx) :: pend | none=>pend) n E' h nx)
       | none=>.bad 25 [o])
     | none=>.bad 26 [o])
     else (match vB E n o.dst (.tup .nil) with | some E=>ih (.reg l plan pend n E h nx) | none=>.bad 27 [o]))
    | none=>.bad 30 [o])
  | none=>.bad 31 [])
 split
 · rename_i o ho
   rw [uJ] at ho
   have ho':l.toArray[i]?=some o:=by simpa using ho
   split
   · rename_i g hg
     -- what an operation that only looks comes to
     have first:∀ {E':Tr CV} {pend':List (Nat×Nat×Nat)} (cs':Pl→World→List (Nat×Nat×Obj)→List (Nat×Nat×Obj)),
      (∀ (ρ:Pl) (w0:Bas Φ) (a:Act) (w:World) (cs:List (Nat×Nat×Obj)),Rel ρ w0 n E h nx a w→n≤100000→∃ (v:Value) (Cq:World→Prop),yl P l.toArray o a Cq v∧Slots ρ E' nx n (a.put o.dst v)∧
       (∀ L w',(∀ j,Wp l i j→L.getD j false=false)→CP l (cs' ρ w cs) L w'→Cq w')∧(∀ L w',CP l (cs' ρ w cs) L w'→CP l cs L w')∧(∀ L,PendOk l L ρ w nx pend cs→PendOk l L ρ w nx pend' (cs' ρ w cs)))→
      rB P Φ (.reg l ((i,.look) :: plan) pend n E h nx) (ih (.reg l plan pend' n E' h nx)):=fun {E' pend'} cs' hlook=>by
      have H2:=H (.reg l plan pend' n E' h nx)
      generalize ih (.reg l plan pend' n E' h nx)=q2 at H2
      cases q2 with
      | bad=>trivial
      | ret v h2 nx2=>exact H2.elim
      | ok x2 E2 h2 nx2 =>
        obtain ⟨rfl,H2⟩:=H2
        refine ⟨rfl,fun ρ ρs w0 a w ws hs Dn L Lm Rc S cs f hI hf hn hns hpl hlen K hK=>?_⟩
        obtain ⟨⟨o',ho2,hlk,hrd,hfree⟩,hpl2⟩:=hpl
        rw [ho] at ho2;cases ho2
        obtain ⟨v,Cq,hy,hsl,hc1,hc2,hc3⟩:=hlook ρ w0 a w cs hI.rel hn
        have hle:=Hv hpl2 hI.sub hI.ndj
        rw [bH] at hlen
        obtain ⟨f,rfl⟩:∃ f',f=f'+1:=⟨f - 1,by omega⟩
        have hSi:∀ e∈S,e.j≠i:=fun e he hei=>by
         obtain ⟨oj,d,h1,h2,_⟩:=(hI.eok e he).ex
         rw [hei,ho] at h1;cases h1
         rw [(yL h2).2.1] at hlk;cases hlk
        have hrdm:=hI.lr.up hrd hSi
        refine Kf hc2 _ _ _ _ ?_
        have hdn2:=xE hI.down hrdm
        have hset:∀ L w',CP l (cs' ρ w cs) (L.setIfInBounds i true) w'→CP l (cs' ρ w cs) L w':=fun L w' hcp x hx hw=>hcp x hx fun j hj=>by
         have hne:i≠j:=fun e=>by
          subst e
          obtain ⟨o2,h1,h2,_⟩:=hj
          rw [ho] at h1;cases h1
          rw [hlk] at h2;cases h2
         rw [fW false hne];exact hw j hj
        have hnoi:∀ e∈S,∀ oj,l[e.j]?=some oj→o.apart l.toArray oj=true:=fun e he oj hoj=>by
         refine hfree e.j oj (by simpa using hoj) (hSi e he) (hI.lr.un e he) fun x hx hb hxi=>?_
         have h1:=hI.down e.j oj hoj ((hI.lr.iff e.j).2 (.inr ⟨e,he,rfl⟩)) x hx hb
         rw [hxi] at h1
         rw [(sX.1 (dQ.1 hrdm).1).2] at h1;cases h1
        have hg2:gm P l.toArray K (CP l (cs' ρ w cs)) f (Lm.setIfInBounds i true) (a.put o.dst v) w:=by
         refine H2 ρ ρs w0 (a.put o.dst v) w ws hs Dn _ _ Rc S _ f ⟨hI.rel.put hsl,hI.lr.set (sX.1 (dQ.1 hrd).1).1 hSi,hdn2,hI.sub,hI.ndj,hI.ndp,fun e he=>?_,?_,hI.ms,hI.nxb⟩ hf hn hns hpl2 qX K hK
         · refine (hI.eok e he).keep (nx:=nx) (o:=o) (nG a o.dst v) (fun oj hoj=>?_) eQ
           obtain ⟨q1,q2,q3⟩:=Oper.apart_spec (hnoi e he oj hoj)
           unfold Oper.apart
           rw [aA]
           constructor
           · cases hd:oj.dst with
             | none=>rfl
             | some d =>
               simp only [aA,cW,bne_iff_ne]
               refine ⟨?_,fun e2=>q2 d e2 hd⟩
               have:=q3 d hd
               simpa using this
           cases hd:o.dst with
           | none=>rfl
           | some d =>
             have:=q1 d hd
             simpa using this
         intro x hx
         rcases hc3 Lm hI.pend x hx with ⟨j,h1,h2⟩ | h1
         · exact .inl ⟨j,h1,nT h2⟩
         exact .inr h1
        refine Nc (Wr:=(List.range l.length).filter fun j=>match l[j]? with | some oj=>!xM oj.op && He oj i | none=>false) (Cq:=Cq) ho' hns ?_ hset ?_ f Lm a w (fun j oj hj hne hun hno=>hfree j oj hj hne (hI.lr.unl hun).1 hno) ?_ hrdm hy hg2
        · intro L' w' hL hcp
          refine hc1 L' w' (fun j hj=>hL j ?_) hcp
          obtain ⟨o2,h1,h2,h3⟩:=hj
          refine fP.2 ⟨oY.2 (aJ.1 h1).1,?_⟩
          simp [h1,h2,h3]
        · intro j hj oj hoj
          obtain ⟨_,h2⟩:=fP.1 hj
          have h1:l[j]?=some oj:=by simpa using hoj
          simp only [h1,aA] at h2
          exact Hm.1 h2.2
        intro j hj
        obtain ⟨h1,h2⟩:=fP.1 hj
        have hlt:=oY.1 h1
        rw [aD hlt] at h2
        simp only [aA,cW] at h2
        exact Pc hI.down hrdm ⟨_,aD hlt,h2.1,h2.2⟩
     cases g with
     | false =>
       simp only [kL]
       split
       · rename_i E' hp
         refine first (fun _ _ cs=>cs) fun ρ w0 a w cs hR hn=>⟨undef,fun _=>True,.inr ⟨Pb hR.slots hg,rfl⟩,tI hR.slots hn hp Hr,fun _ _ _ _=>trivial,fun _ _ h=>h,fun _ h=>h⟩
       · trivial
     | true =>
       simp only [eY]
       split
       · rename_i c hq
         split
         · rename_i E' hp
           cases hrd:AX E o.op with
           | none =>
             refine first (fun _ _ cs=>cs) fun ρ w0 a w cs hR hn=>?_
             obtain ⟨v,k1,k2⟩:=Tf (ob:=fun _=>default) hR.slots (fun t b ht _=>by rw [hrd] at ht;cases ht) hq
             exact ⟨v,fun _=>True,.inl ⟨Pb hR.slots hg,fun w' _=>k2 w' (fun t ht=>by rw [hrd] at ht;cases ht) o.dst o.type o.pos o.after o.guard⟩,tI hR.slots hn hp k1,fun _ _ _ _=>trivial,fun _ _ h=>h,fun _ h=>h⟩
           | some t =>
             refine first (fun ρ w cs=>(i,(ρ t).1,(w.heap[(ρ t).1]?).getD default) :: cs) fun ρ w0 a w cs hR hn=>?_
             obtain ⟨b,hb⟩:=Rm hrd hq
             obtain ⟨htn,_,_,ob,hob,hdb⟩:=hR.mem.own t b hb
             have hget:(w.heap[(ρ t).1]?).getD default=ob:=by rw [hob];rfl
             obtain ⟨v,k1,k2⟩:=Tf (ob:=fun _=>ob) hR.slots (fun t' b' ht hb'=>by rw [hrd] at ht;cases ht;rw [hb] at hb';cases hb';exact hdb) hq
             refine ⟨v,fun w'=>w'.heap[(ρ t).1]?=some ob,.inl ⟨Pb hR.slots hg,fun w' hw'=>k2 w' (fun t' ht=>by rw [hrd] at ht;cases ht;exact hw') o.dst o.type o.pos o.after o.guard⟩,tI hR.slots hn hp k1,?_,?_,?_⟩
             · intro L w' hL hcp
               have:=hcp _ bC hL
               rw [this,hget]
             · intro L w' hcp x hx;exact hcp x (aV _ hx)
             intro L hpo x hx
             rcases cH.1 hx with rfl | hx
             · exact .inr ⟨t,nx,bC,htn,rfl,aE _,by rw [hget];exact hob⟩
             rcases hpo x hx with h1 | ⟨t',b',h1,h2⟩
             · exact .inl h1
             exact .inr ⟨t',b',aV _ h1,h2⟩
         trivial
       trivial
   trivial
 trivial
theorem Kk {l:List Oper} {Lm:Array Bool} {ρ ρ':Pl} {h h':Tr CB} {nx nx':Nat} {w w':World} {pend:List (Nat×Nat×Nat)} {cs:List (Nat×Nat×Obj)} {j:Nat} {o:Oper} (ho:l[j]?=some o) (hrd:Lm.getD j true=false) (hpo:PendOk l Lm ρ w nx pend cs)
 (e1:Nx ρ h nx w ρ' h' nx' w') (hkp:uS h' (rL o pend)=true):PendOk l (Lm.setIfInBounds j true) ρ' w' nx' (rL o pend) cs:=by
 intro x hx
 rcases hpo x hx with ⟨k,h1,h2⟩ | ⟨t',b',h1,h2,h3,h4,h5⟩
 · exact .inl ⟨k,h1,nT h2⟩
 cases hE:(not (xM o.op) && He o x.1) with
 | false =>
   have hmem:=Kg h1 hE
   have hk:=(tE.1 hkp) _ hmem
   simp only at hk
   split at hk
   · rename_i bb hbb
     have hst:Ly bb<b':=rG hk
     obtain ⟨_,g2⟩:=e1.old.old t' bb hbb qX
     exact .inr ⟨t',b',hmem,bG h2 e1.le,by rw [e1.ext t' h2];exact h3,aK h4 e1.le,by rw [←h3,g2,h3];exact h5⟩
   · cases hk
 | true =>
   rw [aA,cW] at hE
   exact .inl ⟨j,⟨o,ho,hE.1,hE.2⟩,Rp hrd⟩
theorem Cs {l:List Oper} {Lm:Array Bool} {pend:List (Nat×Nat×Nat)} {j:Nat} {o:Oper} (ho:l[j]?=some o) (hl:Lm.getD j false=true):∀ t k b,(t,k,b)∈pend→(t,k,b)∈rL o pend∨(Wp l k j∧Lm.getD j false=true):=fun t k b hm=>by
 cases hE:(not (xM o.op) && He o k) with
 | false=>exact .inl (Kg hm hE)
 | true =>
   rw [aA,cW] at hE
   exact .inr ⟨⟨o,ho,hE.1,hE.2⟩,hl⟩
theorem Ph {ih:Cmd→Res} (H:∀ c,rB P Φ c (ih c)) (l:List Oper) (i:Nat) (plan:List (Nat×Pk)) (pend:List (Nat×Nat×Nat)) (n:Nat) (E:Tr CV) (h:Tr CB) (nx:Nat):rB P Φ (.reg l ((i,.only) :: plan) pend n E h nx) (step P pr ih (.reg l ((i,.only) :: plan) pend n E h nx)):=by
 show rB P Φ _ (match zT l i with
  | some o=>(match GW l E o with
    | some g=>(bif g then (match ih (.one o n E h nx) with
     | .ok _ E h nx=>bif uS h (rL o pend) then ih (.reg l plan (rL o pend) n E h nx) else .bad 28 [o]
     | r=>r)
     else (match vB E n o.dst (.tup .nil) with | some E=>ih (.reg l plan (rL o pend) n E h nx) | none=>.bad 29 [o]))
    | none=>.bad 30 [o])
  | none=>.bad 31 [])
 split
 · rename_i o ho
   rw [uJ] at ho
   have ho':l.toArray[i]?=some o:=by simpa using ho
   split
   · rename_i g hg
     cases g with
     | false =>
       simp only [kL]
       split
       · rename_i E' hp
         have H2:=H (.reg l plan (rL o pend) n E' h nx)
         generalize ih (.reg l plan (rL o pend) n E' h nx)=q2 at H2
         cases q2 with
         | bad=>trivial
         | ret v h2 nx2=>exact H2.elim
         | ok x2 E2 h2 nx2 =>
           obtain ⟨rfl,H2⟩:=H2
           refine ⟨rfl,fun ρ ρs w0 a w ws hs Dn L Lm Rc S cs f hI hf hn hns hpl hlen K hK=>?_⟩
           obtain ⟨rfl,⟨o',ho2,hrd,honly⟩,hpl2⟩:=hpl
           have hS:S=[]:=fR.2 fun e he=>by cases hI.sub e he
           subst hS
           have hrdm:=hI.lr.up hrd (fun e he=>by cases he)
           rw [bH] at hlen
           obtain ⟨f,rfl⟩:∃ f',f=f'+1:=⟨f - 1,by simp only [cE] at hlen;omega⟩
           refine ⟨hI.pend.cp,fun he=>(by rw [he] at hrdm;cases hrdm),fun j hj=>?_⟩
           have e:=honly j (hI.lr.nil hj)
           subst e
           unfold stp
           simp only [ho']
           rw [Pb hI.rel.slots hg]
           simp only [kP,dO]
           have hjun:=(dQ.1 hj).1
           refine H2 ρ ρs w0 _ w ws hs Dn _ _ [] [] cs f ⟨hI.rel.put (tI hI.rel.slots hn hp Hr),hI.lr.set (sX.1 (dQ.1 hrd).1).1 (fun e he=>by cases he),xE hI.down hj,(fun e he=>by cases he),jM,jM,(fun e he=>by cases he),?_,hI.ms,hI.nxb⟩ hf hn hns hpl2 (by simpa using hlen) K hK
           exact Cp hI.pend (aE _) (cK _ _) (fun b x h=>h) (Cs (Lm:=Lm.setIfInBounds j true) ho (Rp hjun))
       · trivial
     | true =>
       simp only [eY]
       have H1:=H (.one o n E h nx)
       generalize ih (.one o n E h nx)=q1 at H1
       cases q1 with
       | bad=>trivial
       | ret v h' nx'=>exact H1.elim
       | ok x E' h' nx' =>
         obtain ⟨rfl,H1⟩:=H1
         show rB P Φ _ (bif uS h' (rL o pend) then ih (.reg l plan (rL o pend) n E' h' nx') else .bad 28 [o])
         cases hkp:uS h' (rL o pend) with
         | false=>trivial
         | true =>
           simp only [eY]
           have H2:=H (.reg l plan (rL o pend) n E' h' nx')
           generalize ih (.reg l plan (rL o pend) n E' h' nx')=q2 at H2
           cases q2 with
           | bad=>trivial
           | ret v h2 nx2=>exact H2.elim
           | ok x2 E2 h2 nx2 =>
             obtain ⟨rfl,H2⟩:=H2
             refine ⟨rfl,fun ρ ρs w0 a w ws hs Dn L Lm Rc S cs f hI hf hn hns hpl hlen K hK=>?_⟩
             obtain ⟨rfl,⟨o',ho2,hrd,honly⟩,hpl2⟩:=hpl
             have hS:S=[]:=fR.2 fun e he=>by cases hI.sub e he
             subst hS
             have hrdm:=hI.lr.up hrd (fun e he=>by cases he)
             rw [bH] at hlen
             obtain ⟨f,rfl⟩:∃ f',f=f'+1:=⟨f - 1,by simp only [cE] at hlen;omega⟩
             refine ⟨hI.pend.cp,fun he=>(by rw [he] at hrdm;cases hrdm),fun j hj=>?_⟩
             have e:=honly j (hI.lr.nil hj)
             subst e
             unfold stp
             simp only [ho']
             rw [Pb hI.rel.slots hg]
             simp only [dN]
             refine H1 ρ w0 a w hI.rel hf hn _ fun ρ' a' w' e1 e2 _=>?_
             exact H2 ρ' ρs w0 a' w' ws hs Dn _ _ [] [] cs f ⟨e2,hI.lr.set (sX.1 (dQ.1 hrd).1).1 (fun e he=>by cases he),xE hI.down hj,(fun e he=>by cases he),jM,jM,(fun e he=>by cases he),Kk ho (dQ.1 hj).1 hI.pend e1 hkp,hI.ms,hI.nxb.trans hI.ms e1⟩ e1.fit hn hns hpl2 (by simpa using hlen) K hK
   trivial
 trivial
theorem Hx {A B:List Early} {e:Early} (g:Early→Nat) (h:((A++e :: B).map g).Nodup):((A++B).map g).Nodup∧∀ x∈A++B,g x≠g e:=by
 rw [oR,bK] at h
 obtain ⟨h1,h2,h3⟩:=nQ.1 h
 obtain ⟨h4,h5⟩:=iW.1 h2
 refine ⟨by rw [oR];exact nQ.2 ⟨h1,h5,fun a ha b hb=>h3 a ha b (aV _ hb)⟩,fun x hx=>?_⟩
 rcases eD.1 hx with h6 | h6
 · exact h3 _ (dD.2 ⟨x,h6,rfl⟩) _ (bC ..)
 exact fun e2=>h4 (dD.2 ⟨x,h6,e2⟩)
theorem Pj {ih:Cmd→Res} (H:∀ c,rB P Φ c (ih c)) (l:List Oper) (i:Nat) (R:List Nat) (plan:List (Nat×Pk)) (pend:List (Nat×Nat×Nat)) (n:Nat) (E:Tr CV) (h:Tr CB) (nx:Nat):rB P Φ (.reg l ((i,.race R) :: plan) pend n E h nx) (step P pr ih (.reg l ((i,.race R) :: plan) pend n E h nx)):=by
 show rB P Φ _ (match zT l i with
  | some o=>bif vN P l R n (rT l R E) h nx then (match ih (.one o n (rT l R E) h nx) with
   | .ok _ E h nx=>bif uS h (rL o pend) then ih (.reg l plan (rL o pend) n E h nx) else .bad 28 [o]
   | r=>r) else .bad 32 [o]
  | none=>.bad 31 [])
 split
 · rename_i o ho
   rw [uJ] at ho
   have ho':l.toArray[i]?=some o:=by simpa using ho
   refine rE (rB P Φ _) (fun hrq=>?_) fun _=>trivial
   have H1:=H (.one o n (rT l R E) h nx)
   generalize ih (.one o n (rT l R E) h nx)=q1 at H1
   cases q1 with
   | bad=>trivial
   | ret v h' nx'=>exact H1.elim
   | ok x E' h' nx' =>
     obtain ⟨rfl,H1⟩:=H1
     show rB P Φ _ (bif uS h' (rL o pend) then ih (.reg l plan (rL o pend) n E' h' nx') else .bad 28 [o])
     refine rE (rB P Φ _) (fun hkp=>?_) fun _=>trivial
     have H2:=H (.reg l plan (rL o pend) n E' h' nx')
     generalize ih (.reg l plan (rL o pend) n E' h' nx')=q2 at H2
     cases q2 with
     | bad=>trivial
     | ret v h2 nx2=>exact H2.elim
     | ok x2 E2 h2 nx2 =>
       obtain ⟨rfl,H2⟩:=H2
       refine ⟨rfl,fun ρ ρs w0 a w ws hs Dn L Lm Rc S cs f hI hf hn hns hpl hlen K hK=>?_⟩
       obtain ⟨hro,⟨o',ho2,hgd,hnm⟩,hpl2⟩:=hpl
       rw [ho] at ho2;cases ho2
       have hlt:=Kj hn hrq
       have hSi:∀ e∈S,e.j≠i:=fun e he hei=>by
        obtain ⟨oj,d,h1,h2,_⟩:=(hI.eok e he).ex
        rw [hei,ho] at h1;cases h1
        rw [(yL h2).2.2.2.2.1] at hnm;cases hnm
       refine To (E:=rT l R E) (pl:=plan.length) hf hn hro (fun j hj d hd=>Hw hlt hj hd) hrq ?_ ?_ f a w Lm S ⟨hI.rel.less (Ki hlt),hI.lr,hI.down,fun e he=>fY _ (hI.sub e he),hI.ndj,hI.ndp,hI.eok,hI.pend,hI.ms,hI.nxb⟩ hSi (by rw [←hlen,bH])
       · intro S hs hni hnd
         exact Hv hpl2 (fun e he=>(hs e he).elim (fun h=>(hro.sub _ h).resolve_left (hni e he)) id) hnd
       intro a w Lm S f hI hSi hlen hir
       have hsR:∀ e∈S,e.j∈R:=fun e he=>(eD.1 (hI.sub e he)).elim (fun h=>(hro.sub _ h).resolve_left (hSi e he)) id
       unfold stp
       simp only [ho',Region.wanted,hgd,dN]
       refine H1 ρ w0 a w hI.rel hf hn _ fun ρ' a' w' e1 e2 e3=>?_
       refine H2 ρ' ρs w0 a' w' ws hs Dn _ _ R S cs f ⟨e2,hI.lr.set (sX.1 (dQ.1 hro.rd).1).1 hSi,xE hI.down hir,hsR,hI.ndj,hI.ndp,fun e he=>?_,Kk ho (dQ.1 hir).1 hI.pend e1 hkp,hI.ms,hI.nxb.trans hI.ms e1⟩ e1.fit hn hns hpl2 hlen K hK
       refine (hI.eok e he).keep e3 (fun oj hoj=>?_) e1.old
       obtain ⟨ok',f1,f2,f3,f4,f5⟩:=hro.mks e.j (hsR e he)
       rw [hoj] at f1;cases f1
       exact f4 o ho
 trivial
theorem Ml {nx:Nat} {ρ:Pl} {s:Nat} {b:CB} {o:Obj} (h:DB nx ρ s b o):∀ x,o≠.deferred x:=fun x e=>by
 subst e
 cases b with
 | cells l ty op st=>obtain ⟨vs,junk,_,h2,_⟩:=h;cases h2
 | ro l ty st=>obtain ⟨vs,fz,_,h2⟩:=h;cases h2
 | mapI l st=>exact absurd (show Obj.deferred x=sC l from h) (by unfold sC;intro h;cases h)
 | mapK l st=>exact absurd (show Obj.deferred x=sC l from h) (by unfold sC;intro h;cases h)
 | it l pos st=>obtain ⟨bs,_,h2⟩:=h;cases h2
 | lp E n ps asg body q p st=>obtain ⟨q,h1,_⟩:=h;cases h1
theorem Mem.adopt {ρ:Pl} {w0:Bas Φ} {h:Tr CB} {nx:Nat} {w:World} (hm:Mem ρ w0 h nx w) (hf:nx<rF) {b:CB} {o:Obj} {s p:Nat} (hst:Ly b=nx) (hp:w0.w.heap.size≤p) (ho:w.heap[p]?=some o) (hun:∀ t b,h.get t=some b→(ρ t).1≠p) (hb:DB nx ρ s b o) :
 ∃ ρ',Ext nx ρ ρ'∧ρ' nx=(p,s)∧Mem ρ' w0 (h.set (some b) rF nx) (nx+1) w:=by
 have hext:Ext nx ρ (fun t=>if t=nx then (p,s) else ρ t):=fun t ht=>by simp [qI ht]
 have get:=fun j=>dG (some b) rF h nx j hf
 refine ⟨fun t=>if t=nx then (p,s) else ρ t,hext,by simp,⟨hm.upd,?_,?_,hm.imm,hm.nod,fun c hc=>?_⟩⟩
 · intro t b' ht
   rw [get] at ht
   by_cases e:t=nx
   · subst e
     rw [aT rfl] at ht
     cases ht
     simp only [dN]
     exact ⟨by omega,by omega,hp,o,ho,hb.up (cD _) hext⟩
   rw [aF e] at ht
   obtain ⟨h1,hs1,h2,o',h3,h4⟩:=hm.own t b' ht
   simp only [e,dO]
   exact ⟨by omega,by omega,h2,o',h3,h4.up (cD _) hext⟩
 · intro t t' b1 b2 h1 h2 he
   rw [get] at h1 h2
   by_cases e:t=nx <;> by_cases e':t'=nx
   · rw [e,e']
   · rw [aF e'] at h2
     simp only [e,e',dN,dO] at he
     exact absurd he.symm (hun _ _ h2)
   · rw [aF e] at h1
     simp only [e,e',dN,dO] at he
     exact absurd he (hun _ _ h1)
   rw [aF e] at h1
   rw [aF e'] at h2
   simp only [e,e',dO] at he
   exact hm.one t t' b1 b2 h1 h2 he
 obtain ⟨k1,k2,k3⟩:=hm.kept c hc
 refine ⟨k1,k2,fun t b' ht=>?_⟩
 rw [get] at ht
 by_cases e:t=nx
 · simp only [e,dN]
   intro e2
   rw [e2,k2] at ho
   cases ho
   exact Ml hb _ rfl
 rw [aF e] at ht
 simp only [e,dO]
 exact k3 t b' ht
theorem Nx.adopt {ρs ρ ρ':Pl} {hs h:Tr CB} {Dn nx p s:Nat} {ws w:World} {b:CB} (hn:Nx ρs hs Dn ws ρ h nx w) (hf:nx<rF) (hst:Ly b=nx) (he:Ext nx ρ ρ') (hp:ρ' nx=(p,s)) (hge:ws.heap.size≤p) (hlt:∀ t c,h.get t=some c→t<nx):Nx ρs hs Dn ws ρ' (h.set (some b) rF nx) (nx+1) w:=by
 have get:=fun j=>dG (some b) rF h nx j hf
 refine ⟨qJ hn.le,hf,hn.ext.trans he hn.le,⟨fun t c ht hst'=>?_,hn.old.fr,fun t c ht=>?_,hn.old.sz⟩⟩
 · rw [get] at ht
   by_cases e:t=nx
   · rw [aT e] at ht;cases ht
     have:=hn.le
     omega
   rw [aF e] at ht
   exact hn.old.old t c ht hst'
 rw [get] at ht
 by_cases e:t=nx
 · rw [e,hp];exact .inl hge
 rw [aF e] at ht
 rw [he t (hlt t c ht)]
 exact hn.old.nw t c ht
theorem Pm {ih:Cmd→Res} (H:∀ c,rB P Φ c (ih c)) (l:List Oper) (i:Nat) (R:List Nat) (plan:List (Nat×Pk)) (pend:List (Nat×Nat×Nat)) (n:Nat) (E:Tr CV) (h:Tr CB) (nx:Nat):rB P Φ (.reg l ((i,.make R) :: plan) pend n E h nx) (step P pr ih (.reg l ((i,.make R) :: plan) pend n E h nx)):=by
 show rB P Φ _ (match zT l i with
  | some o=>bif vN P l R n (rT l R E) h nx then (match wm P (rT l R E) h nx o.op with
   | .val c h nx=>(match vB (rT l R E) n o.dst c with | some E=>ih (.reg l plan (rL o pend) n E h nx) | none=>.bad 33 [o])
   | _=>.bad 34 [o]) else .bad 35 [o]
  | none=>.bad 31 [])
 split
 · rename_i o ho
   rw [uJ] at ho
   have ho':l.toArray[i]?=some o:=by simpa using ho
   refine rE (rB P Φ _) (fun hrq=>?_) fun _=>trivial
   split
   · rename_i c h' nx' hw
     split
     · rename_i E' hp
       have H2:=H (.reg l plan (rL o pend) n E' h' nx')
       generalize ih (.reg l plan (rL o pend) n E' h' nx')=q2 at H2
       cases q2 with
       | bad=>trivial
       | ret v h2 nx2=>exact H2.elim
       | ok x2 E2 h2 nx2 =>
         obtain ⟨rfl,H2⟩:=H2
         refine ⟨rfl,fun ρ ρs w0 a w ws hs Dn L Lm Rc S cs f hI hf hn hns hpl hlen K hK=>?_⟩
         obtain ⟨hro,⟨o',ho2,hmk⟩,hpl2⟩:=hpl
         rw [ho] at ho2;cases ho2
         obtain ⟨s1,s2,s3,⟨xs,s4⟩,_,s6⟩:=yL hmk
         have hlt:=Kj hn hrq
         have hI':=hI.rel.less (Ki (E:=E) hlt)
         by_cases hin:∃ e∈S,e.j=i
         · -- it was run ahead
           obtain ⟨e,he,hei⟩:=hin
           obtain ⟨A,B,rfl⟩:=Ws he
           obtain ⟨b,s,ob,V,rfl,rfl,hft,hstb,hdb,hkn,hex⟩:=BN hI'.slots s4 hw
           obtain ⟨⟨oj,d,h1,h2,h3,h4,h5⟩,g1,g2,g3,g4⟩:=hI.eok e he
           rw [hei,ho] at h1;cases h1
           obtain ⟨dst,op,ty,pos,after,g⟩:=o
           have hsame:∀ w2:World,e.V w2.heap.size=V w2.heap.size∧w2.alloc e.o=w2.alloc ob:=fun w2=>by
            have q1:=h5 w2
            rw [hex w2 dst ty pos after g] at q1
            simp only [Result.ok.injEq,Next.value.injEq] at q1
            exact ⟨q1.1.symm,q1.2.symm⟩
           have hV:∀ k:Nat,e.V k=V k:=fun k=>by
            have:=(hsame { w with heap:=Array.replicate k default }).1
            simpa using this
           have hob:e.o=ob:=by
            have h9:=(hsame w).2
            have h10:(w.alloc e.o).heap[w.heap.size]?=(w.alloc ob).heap[w.heap.size]?:=by rw [h9]
            rw [rY,rY] at h10
            exact oQ h10
           have hm:=hI.rel.mem
           obtain ⟨os,hR⟩:=hI'
           obtain ⟨ρ',x1,x2,m2⟩:=hR.mem.adopt (s:=s) (p:=e.p) (o:=ob) hft hstb (aK (show (w0.plus os).w.heap.size≤ws.heap.size from hI.ms.upd.size) g3) (by rw [←hob];exact g2) g4 hdb
           obtain ⟨nd1,nd2⟩:=Hx (·.j) hI.ndj
           obtain ⟨nd3,nd4⟩:=Hx (·.p) hI.ndp
           have hsub:∀ x∈A++B,x∈A++e :: B:=fun x hx=>(eD.1 hx).elim (fun h=>fY _ h) fun h=>gU _ (aV _ h)
           have hdn:∃ E1,E1=E'∧Slots ρ' E1 (nx+1) n a:=by
            have hd':dst=some d:=h3
            subst hd'
            have hp':(bif Nat.ble (Nat.succ d) n then some ((rT l R E).set (some c) rF d) else none)=some E':=hp
            rcases rA hp' with ⟨q1,q2⟩ | ⟨_,q2⟩
            · cases q2
              have hsl:=hR.slots.up (cD _) x1
              refine ⟨_,rfl,hsl.1,fun k x hx=>?_⟩
              have hdn:=rG q1
              rw [dG (some c) rF _ d k (by rw [Hb];omega)] at hx
              by_cases e2:k=d
              · subst e2
                rw [aT rfl] at hx
                cases hx
                exact ⟨_,h4,by rw [hV];exact hkn ρ' e.p x2⟩
              rw [aF e2] at hx
              exact hsl.2 k x hx
            cases q2
           obtain ⟨E1,rfl,hsl⟩:=hdn
           refine H2 ρ' ρs w0 a w ws hs Dn _ Lm R (A++B) cs f ⟨⟨os,hsl,hR.defers,m2,hR.mks,hR.ss⟩,?_,hI.down,?_,nd1,nd3,fun x hx=>?_,?_,hI.ms,hI.nxb.adopt hft hstb x1 x2 g3 fun t c ht=>(hm.own t c ht).1⟩ hft hn hns hpl2 ?_ K hK
           · have:=hI.lr.adopt hI.ndj
             rw [hei] at this;exact this
           · intro x hx
             exact (hro.sub _ (hI.sub x (hsub x hx))).resolve_left (fun e2=>nd2 x hx (e2.trans hei.symm))
           · obtain ⟨f1,f2,f3,f4,f5⟩:=hI.eok x (hsub x hx)
             refine ⟨f1,f2,f3,f4,fun t b' ht=>?_⟩
             rw [dG (some b) rF h nx t hft] at ht
             by_cases e2:t=nx
             · rw [e2,x2];exact fun e3=>nd4 x hx e3.symm
             rw [aF e2] at ht
             rw [x1 t (hm.own t b' ht).1];exact f5 t b' ht
           · intro x hx
             rcases hI.pend x hx with h6 | ⟨t,b',h6,h7,h8,h9,h10⟩
             · exact .inl h6
             rcases Cs (Lm:=Lm) ho ((hI.lr.iff i).2 (.inr ⟨e,he,hei⟩)) _ _ _ h6 with h11 | h11
             · exact .inr ⟨t,b',h11,Nat.lt_succ_of_lt h7,by rw [x1 t h7];exact h8,qJ h9,h10⟩
             exact .inl ⟨i,h11.1,h11.2⟩
           simp only [aQ,bH] at hlen ⊢;omega
         -- it is run now
         have hSi:∀ e∈S,e.j≠i:=fun e he hei=>hin ⟨e,he,hei⟩
         refine To (E:=rT l R E) (pl:=plan.length) hf hn hro (fun j hj d hd=>Hw hlt hj hd) hrq ?_ ?_ f a w Lm S ⟨hI',hI.lr,hI.down,fun e he=>fY _ (hI.sub e he),hI.ndj,hI.ndp,hI.eok,hI.pend,hI.ms,hI.nxb⟩ hSi (by rw [←hlen,bH])
         · intro S hs hni hnd
           exact Hv hpl2 (fun e he=>(hs e he).elim (fun h=>(hro.sub _ h).resolve_left (hni e he)) id) hnd
         intro a w Lm S f hI hSi hlen hir
         have hsR:∀ e∈S,e.j∈R:=fun e he=>(eD.1 (hI.sub e he)).elim (fun h=>(hro.sub _ h).resolve_left (hSi e he)) id
         obtain ⟨b,s,ob,V,rfl,rfl,hft,hstb,hdb,hkn,hex⟩:=BN hI.rel.slots s4 hw
         obtain ⟨dst,op,ty,pos,after,g⟩:=o
         obtain ⟨os,hR⟩:=hI.rel
         obtain ⟨ρ',x1,x2,m2,o2⟩:=hR.mem.new (s:=s) hft hstb (sP w ob) (sR w ob) (rY w ob) hdb
         have hg:g=none:=s3
         subst hg
         unfold stp
         simp only [ho',Region.wanted,dN]
         unfold vO
         rw [hex w dst ty pos after none]
         have e1:Nx ρ h nx w ρ' (h.set (some b) rF nx) (nx+1) (w.alloc ob):=⟨cD _,hft,x1,o2⟩
         refine H2 ρ' ρs w0 _ _ ws hs Dn _ _ R S cs f ⟨⟨os,tI (hR.slots.up (cD _) x1) hn hp (hkn ρ' _ x2),(wH _ _ _).trans hR.defers,m2,hR.mks,aK hR.ss o2.sz⟩,hI.lr.set (sX.1 (dQ.1 hro.rd).1).1 hSi,xE hI.down hir,hsR,hI.ndj,hI.ndp,fun e he=>?_,?_,hI.ms,hI.nxb.trans hI.ms e1⟩ hft hn hns hpl2 hlen K hK
         · refine (hI.eok e he).keep (o:=⟨dst,op,ty,pos,after,none⟩) (nG _ _ _) (fun oj hoj=>?_) o2
           obtain ⟨ok',f1,f2,f3,f4,f5⟩:=hro.mks e.j (hsR e he)
           rw [hoj] at f1;cases f1
           exact f4 _ ho
         exact Cp hI.pend (cD _) x1 alloc_old (Cs (Lm:=Lm.setIfInBounds i true) ho (Rp (dQ.1 hir).1))
     trivial
   trivial
 trivial
theorem xF {ih:Cmd→Res} (H:∀ c,rB P Φ c (ih c)) (l:List Oper) (plan:List (Nat×Pk)) (pend:List (Nat×Nat×Nat)) (n:Nat) (E:Tr CV) (h:Tr CB) (nx:Nat):rB P Φ (.reg l plan pend n E h nx) (step P pr ih (.reg l plan pend n E h nx)):=by
 cases plan with
 | nil =>
   refine ⟨rfl,fun ρ ρs w0 a w ws hs Dn L Lm Rc S cs f hI hf hn hns hpl hlen K hK=>?_⟩
   obtain ⟨h1,rfl⟩:=hpl
   have hS:S=[]:=fR.2 fun e he=>by cases hI.sub e he
   subst hS
   have hf0:f=0:=by simpa using hlen.symm
   subst hf0
   have hnil:Region.ready .any l.toArray Lm=[]:=fR.2 fun j hj=>by
    have h3:=hI.lr.nil hj
    rw [h1] at h3
    cases h3
   exact ⟨hI.pend.cp,hnil,hK ρ a w hI.nxb hI.rel⟩
 | cons q plan =>
   obtain ⟨i,k⟩:=q
   cases k with
   | look=>exact Pg H l i plan pend n E h nx
   | only=>exact Ph H l i plan pend n E h nx
   | race R=>exact Pj H l i R plan pend n E h nx
   | make R=>exact Pm H l i R plan pend n E h nx
end
section
variable {P:Program} {Φ:Imm→Prop} {pr:sL}
def wI (P:Program) (Φ:Imm→Prop) (pr:sL):Prop:=∀ f g,RN pr f=some g→uE P f∧∀ args v,g args=some v→∀ G,Φ G→∀ nx ρ vs,KL nx ρ args vs→∃ u,Kn nx ρ v u∧Does P f vs G [] (fun x G' Ho=>x=u∧G'=G∧Ho=[])
theorem Kl {fn:Func} {n nx':Nat} {ρ':Pl} {w0:Bas Φ} {E':Tr CV} {h':Tr CB} {a:Act} {v:CV} {R:Ending→World→Prop} (hs:Slots ρ' E' nx' n a) (hv:Oy P E' h' fn.results.toList=some v) :
 ∀ (os:List Nat) (w:World),w0.s≤w.heap.size→Mem ρ' (w0.plus os) h' nx' w→(∀ w' u,Kn nx' ρ' v u→Mem ρ' w0 h' nx' w'→OldX (·∈os) ρ' h' nx' w ρ' h' w'→R (.returned u) w')→LeavesInM (FF none) 0 P fn a.tmps R (os.map mark) .returning w
 | [],w,hss,hm,hK=>by
   have hR:Rel ρ' w0 n E' h' nx' { a with defers:=[] } w:=⟨[],hs,rfl,hm,fun b hb=>(by cases hb),hss⟩
   obtain ⟨u,k1,k2⟩:=FX hR hv
   exact ⟨u,k2,hK w u k1 hm eQ⟩
 | b :: os,w,hss,hm,hK=>by
   have hb:=(hm.kept b (bC ..)).2.1
   obtain ⟨m2,o2⟩:=hm.shut
   refine ⟨by simp,.inl ⟨b,_,rfl,run_takeDeferred hb,Kl hs hv os _ (aK hss o2.sz) m2 fun w' u q1 q2 q3=>hK w' u q1 q2 ?_⟩⟩
   exact ⟨fun t c hc hst=>⟨(q3.old t c hc hst).1,(q3.old t c hc hst).2.trans (o2.old t c (q3.old t c hc hst).1 hst).2⟩,fun p hp hu hx=>(q3.fr p (bG hp o2.sz) hu (fun e=>hx (aV _ e))).trans (o2.fr p hp hu (fun e=>hx (by rw [e];exact bC ..))),fun t b' hb'=>.inr ⟨t,b',hb',rfl⟩,aK o2.sz q3.sz⟩
theorem Km {ih:Cmd→Res} (hpr:wI P Φ pr) (H:∀ c,rB P Φ c (ih c)) (f:Nat) (args:CV) (h:Tr CB) (nx:Nat):rB P Φ (.call f args h nx) (step P pr ih (.call f args h nx)):=by
 show rB P Φ _ (match RN pr f with
  | some g=>(match g args with | some v=>.ret v h nx | none=>.bad 60 [])
  | none=>match OC P f with
  | some fn=>(match fn.body with
    | some c=>bif Nat.ble (rU args) fn.ntmps && Nat.ble fn.ntmps 100000 then (match ih (.code c fn.ntmps (Ox args 0 .e) h nx) with
      | .ok x E h nx=>(match x with
        | .normal=>(match Oy P E h fn.results.toList with | some v=>.ret v h nx | none=>.bad 16 [])
        | .ret=>(match Oy P E h fn.results.toList with | some v=>.ret v h nx | none=>.bad 16 [])
        | _=>.bad 17 [])
      | .ret _ _ _=>.bad 18 []
      | r=>r) else .bad 19 []
    | none=>.bad 20 [])
  | none=>.bad 21 [])
 split
 · rename_i g hg
   split
   · rename_i v hv
     obtain ⟨p1,p2⟩:=hpr f g hg
     refine ⟨p1,fun ρ w0 w vs hm hk hfit=>?_⟩
     obtain ⟨u,k1,k2⟩:=p2 args v hv w0.G w0.ok nx ρ vs hk
     have hw:HoldH [] w0.G w:=⟨fun t b o ht=>zU,fun t t' b o o' ht=>zU,fun b o hb=>(hm.upd.same b (bM.1 (hm.imm b o hb)).1 id).trans (hm.imm b o hb),fun t b o ht=>zU⟩
     refine (k2 w hw).mono fun x w' ⟨v',G',Ho,h1,h2,h3,h4,h5,h6,h7⟩=>?_
     obtain ⟨rfl,_,_⟩:=h7
     have hu:Upd (fun _=>False) w w':=h4.mono fun k hk hx=>by obtain ⟨t,o,ht⟩:=hx;cases ht
     obtain ⟨m1,o1⟩:=hm.grow hu
     exact ⟨v',ρ,h1,⟨aE _,hfit,cK _ _,o1⟩,k1,m1⟩
   trivial
 split
 · rename_i fn hfn
   obtain ⟨hf,hname⟩:=IT hfn
   split
   · rename_i c hb
     cases hl:Nat.ble (rU args) fn.ntmps && Nat.ble fn.ntmps 100000 with
     | false=>trivial
     | true =>
       simp only [aA] at hl
       have hl1:=rG hl.1
       have hl2:=rG hl.2
       simp only [eY]
       have H1:=H (.code c fn.ntmps (Ox args 0 .e) h nx)
       generalize ih (.code c fn.ntmps (Ox args 0 .e) h nx)=q at H1
       cases q with
       | bad=>trivial
       | ret _ _ _=>trivial
       | ok x E' h' nx' =>
         have go:(x=.normal∨x=.ret)→rB P Φ (.call f args h nx) (match Oy P E' h' fn.results.toList with | some v=>.ret v h' nx' | none=>.bad 16 []):=fun hx=>by
          split
          · rename_i v hv
            refine ⟨⟨fn,hf,by rw [hb];rfl,hname⟩,fun ρ w00 w vs hm hk hfit=>?_⟩
            obtain ⟨W0,ks0,G0,ok0,s0⟩:=w00
            replace hm:=hm.base (s':=w.heap.size)
            obtain ⟨w0,hw0⟩:∃ w0:Bas Φ,w0=⟨W0,ks0,G0,ok0,w.heap.size⟩:=⟨_,rfl⟩
            rw [←hw0] at hm
            have hlen:=rX hk
            have hR:Rel ρ w0 fn.ntmps (Ox args 0 .e) h nx { tmps:=vs.toArray++Array.replicate (fn.ntmps - vs.toArray.size) undef,defers:=[] } w:=by
             refine ⟨[],⟨by simp;omega,fun i y hy=>?_⟩,rfl,hm,fun b hb=>(by cases hb),by rw [hw0];exact aE _⟩
             rcases FV hk 0 .e qX i y hy with ⟨_,u,h1,h2⟩ | h1
             · refine ⟨u,?_,h2⟩
               have h1':vs[i]?=some u:=by simpa using h1
               have hlt:i<vs.length:=(aJ.1 h1').1
               show (vs.toArray++Array.replicate (fn.ntmps - vs.toArray.size) undef)[i]?=some u
               rw [nI (by simpa using hlt)]
               simpa using h1'
             cases h1
            refine uT.1 (callsIn_of_wp_marks (F:=FF none) (n:=0) hf hb trivial (H1 none ρ w0 _ w hR hfit hl2 (.inl rfl) _ fun ρ' a' w' e1 e2=>?_))
            obtain ⟨os,e2⟩:=e2
            have key:LeavesInM (FF none) 0 P fn a'.tmps (fun e w'=>∃ u ρ',e=.returned u∧Nx ρ h nx w ρ' h' nx' w'∧Kn nx' ρ' v u∧Mem ρ' ⟨W0,ks0,G0,ok0,s0⟩ h' nx' w') a'.defers .returning w':=by
             rw [e2.defers]
             exact Kl e2.slots hv os w' e2.ss e2.mem fun w2 u q1 q2 q3=>⟨u,ρ',rfl,⟨e1.le,e1.fit,e1.ext,Dh hm e1.old q3 (fun p hp=>by have:=e2.mks p hp;rw [hw0] at this;exact this) e1.le e1.ext⟩,q1,by rw [hw0] at q2;exact q2.base⟩
            rcases hx with rfl | rfl <;> exact key
          trivial
         cases x with
         | normal=>exact go (.inl rfl)
         | ret=>exact go (.inr rfl)
         | _=>trivial
   trivial
 trivial
theorem run_ok (hpr:wI P Φ pr) (fuel:Nat):∀ c,rB P Φ c (run P pr fuel c):=by
 induction fuel with
 | zero=>intro c;show rB P Φ c (.bad 0 []);cases c <;> trivial
 | succ fuel ih =>
   intro c
   show rB P Φ c (step P pr (run P pr fuel) c)
   cases c with
   | code c n E h nx=>exact vC ih c n E h nx
   | loop c n E h nx=>exact step_loop ih c n E h nx
   | ops all l n E h nx=>exact Bk ih all l n E h nx
   | one o n E h nx=>exact xD ih o n E h nx
   | call f args h nx=>exact Km hpr ih f args h nx
   | round t args h nx=>exact Ht ih t args h nx
   | reg l plan pend n E h nx=>exact xF ih l plan pend n E h nx
def BR (r:Res):Bool:=match r with | .ret (.bool b) _ _=>b | _=>false
theorem Wt {f:Nat} {q:Res} (H:rB P Φ (.call f .nil .e 0) q) (h:BR q=true) (G:Imm) (hG:Φ G):Does P f [] G [] (fun v G' Ho=>v=.bool true∧G'=G∧Ho=[]):=by
 intro w hw
 cases q with
 | bad=>cases h
 | ok _ _ _ _=>cases h
 | ret v h' nx' =>
   cases v with
   | bool b =>
     have hb:b=true:=h
     subst hb
     have hm:Mem (fun _=>(0,0)) (⟨w,[],G,hG,0⟩:Bas Φ) .e 0 w:=⟨jF _ _,fun t b ht=>zU,fun t t' b b' ht=>zU,fun b o hb=>hw.imm b o hb,jM,fun b hb=>by cases hb⟩
     refine (H.2 (fun _=>(0,0)) ⟨w,[],G,hG,0⟩ w [] hm lT (aZ _)).mono fun e w' ⟨u,ρ',h1,h2,h3,h4⟩=>?_
     have h5:=pO.1 h3.2
     subst h5
     refine ⟨.bool true,G,[],h1,⟨fun t b o ht=>zU,fun t t' b o o' ht=>zU,fun b o hb=>?_,fun t b o ht=>zU⟩,cC _,h4.upd.mono fun k hk hx=>hx.elim,fun b h0 h1=>absurd h1 h0,fun t b o ht=>zU,rfl,rfl,rfl⟩
     rw [h4.upd.same b (hw.ltG hb) id];exact hw.imm b o hb
   | _=>cases h
end
structure Gt where
 run:Tr CV→Option CV
structure St where
 run:CV→Tr CV→Tr CV
def gt (f:Nat):Nat→Gt:=
 Nat.rec (motive:=fun _=>Nat→Gt) (fun _=>⟨fun _=>none⟩) (fun _ ih k=>Nat.rec (motive:=fun _=>Gt) ⟨fun E=>Tr.rec (motive:=fun _=>Option CV) none (fun x _ _ _ _ _ _ _ _=>x) E⟩
  (fun m _=>s4 (⟨fun E=>Tr.rec (motive:=fun _=>Option CV) none (fun _ a _ _ _ _ _ _ _=>(ih (Nat.div m 4)).run a) E⟩:Gt) ⟨fun E=>Tr.rec (motive:=fun _=>Option CV) none (fun _ _ b _ _ _ _ _ _=>(ih (Nat.div m 4)).run b) E⟩
   ⟨fun E=>Tr.rec (motive:=fun _=>Option CV) none (fun _ _ _ c _ _ _ _ _=>(ih (Nat.div m 4)).run c) E⟩ ⟨fun E=>Tr.rec (motive:=fun _=>Option CV) none (fun _ _ _ _ d _ _ _ _=>(ih (Nat.div m 4)).run d) E⟩ (Nat.mod m 4)) k) f
def st (f:Nat):Nat→St:=
 Nat.rec (motive:=fun _=>Nat→St) (fun _=>⟨fun _ E=>E⟩) (fun _ ih k=>Nat.rec (motive:=fun _=>St) ⟨fun v E=>Tr.rec (motive:=fun _=>Tr CV) (.n (some v) .e .e .e .e) (fun _ a b c d _ _ _ _=>.n (some v) a b c d) E⟩
  (fun m _=>s4 (⟨fun v E=>Tr.rec (motive:=fun _=>Tr CV) (.n none ((ih (Nat.div m 4)).run v .e) .e .e .e) (fun x a b c d _ _ _ _=>.n x ((ih (Nat.div m 4)).run v a) b c d) E⟩:St)
   ⟨fun v E=>Tr.rec (motive:=fun _=>Tr CV) (.n none .e ((ih (Nat.div m 4)).run v .e) .e .e) (fun x a b c d _ _ _ _=>.n x a ((ih (Nat.div m 4)).run v b) c d) E⟩
   ⟨fun v E=>Tr.rec (motive:=fun _=>Tr CV) (.n none .e .e ((ih (Nat.div m 4)).run v .e) .e) (fun x a b c d _ _ _ _=>.n x a b ((ih (Nat.div m 4)).run v c) d) E⟩
   ⟨fun v E=>Tr.rec (motive:=fun _=>Tr CV) (.n none .e .e .e ((ih (Nat.div m 4)).run v .e)) (fun x a b c d _ _ _ _=>.n x a b c ((ih (Nat.div m 4)).run v d)) E⟩ (Nat.mod m 4)) k) f
theorem NA:∀ (f k:Nat) (E:Tr CV),k<f→(gt f k).run E=E.get k:=by
 intro f
 induction f with
 | zero=>intro k E h;omega
 | succ f ih =>
   intro k E h
   cases k with
   | zero=>cases E <;> rfl
   | succ m =>
     have hm:Nat.div m 4<f:=by show m / 4<f;omega
     show (s4 (⟨fun E=>Tr.rec (motive:=fun _=>Option CV) none (fun _ a _ _ _ _ _ _ _=>(gt f (Nat.div m 4)).run a) E⟩:Gt) ⟨fun E=>Tr.rec (motive:=fun _=>Option CV) none (fun _ _ b _ _ _ _ _ _=>(gt f (Nat.div m 4)).run b) E⟩
      ⟨fun E=>Tr.rec (motive:=fun _=>Option CV) none (fun _ _ _ c _ _ _ _ _=>(gt f (Nat.div m 4)).run c) E⟩ ⟨fun E=>Tr.rec (motive:=fun _=>Option CV) none (fun _ _ _ _ d _ _ _ _=>(gt f (Nat.div m 4)).run d) E⟩ (Nat.mod m 4)).run E=_
     rcases Qx m with h1 | h1 | h1 | h1 <;> rw [h1] <;> cases E with
      | e=>rfl
      | n x a b c d=>rw [Gl,h1];exact ih _ _ hm
theorem NB (v:CV):∀ (f k:Nat) (E:Tr CV),(st f k).run v E=E.set (some v) f k:=by
 intro f
 induction f with
 | zero=>intro k E;rfl
 | succ f ih =>
   intro k E
   cases k with
   | zero=>cases E <;> rfl
   | succ m =>
     show (s4 (⟨fun v E=>Tr.rec (motive:=fun _=>Tr CV) (.n none ((st f (Nat.div m 4)).run v .e) .e .e .e) (fun x a b c d _ _ _ _=>.n x ((st f (Nat.div m 4)).run v a) b c d) E⟩:St)
      ⟨fun v E=>Tr.rec (motive:=fun _=>Tr CV) (.n none .e ((st f (Nat.div m 4)).run v .e) .e .e) (fun x a b c d _ _ _ _=>.n x a ((st f (Nat.div m 4)).run v b) c d) E⟩
      ⟨fun v E=>Tr.rec (motive:=fun _=>Tr CV) (.n none .e .e ((st f (Nat.div m 4)).run v .e) .e) (fun x a b c d _ _ _ _=>.n x a b ((st f (Nat.div m 4)).run v c) d) E⟩
      ⟨fun v E=>Tr.rec (motive:=fun _=>Tr CV) (.n none .e .e .e ((st f (Nat.div m 4)).run v .e)) (fun x a b c d _ _ _ _=>.n x a b c ((st f (Nat.div m 4)).run v d)) E⟩ (Nat.mod m 4)).run v E=_
     cases E with
     | e=>rw [On,Gn];rcases Qx m with h1 | h1 | h1 | h1 <;> rw [h1] <;> simp only [HU,HV,HW,HX,ih]
     | n x a b c d=>rw [Gn];rcases Qx m with h1 | h1 | h1 | h1 <;> rw [h1] <;> simp only [HU,HV,HW,HX,ih]
abbrev Kt:=Tr CV→Tr CB→Nat→Res
abbrev Kx:=Exit→Tr CV→Tr CB→Nat→Res
def Ct (run:Kt→Res) (S:Tr CV→Tr CB→Nat→Prop):Prop:=(∃ why o,∀ k,run k=.bad why o)∨∃ E' h' nx',(∀ k,run k=k E' h' nx')∧S E' h' nx'
def Hz (run:Kx→Res) (S:Exit→Tr CV→Tr CB→Nat→Prop):Prop:=(∃ why o,∀ k,run k=.bad why o)∨∃ x E' h' nx',(∀ k,run k=k x E' h' nx')∧S x E' h' nx'
structure Co where
 run:(Cmd→Res)→Tr CV→Tr CB→Nat→Kt→Res
structure Cd where
 run:(Cmd→Res)→Tr CV→Tr CB→Nat→Kx→Res
section
variable (P:Program) (Φ:Imm→Prop)
def Rq (ih:Cmd→Res):Prop:=∀ c,rB P Φ c (ih c)
def Rr (co:Co) (o:Oper) (n:Nat):Prop:=∀ ih,Rq P Φ ih→∀ E h nx,Ct (co.run ih E h nx) (fun E' h' nx'=>rB P Φ (.one o n E h nx) (.ok .normal E' h' nx'))
def Wu (cd:Cd) (c:Code) (n:Nat):Prop:=∀ ih,Rq P Φ ih→∀ E h nx,Hz (cd.run ih E h nx) (fun x E' h' nx'=>rB P Φ (.code c n E h nx) (.ok x E' h' nx'))
end
def Ko (P:Program) (pr:sL) (o:Oper) (n:Nat):Co:=⟨fun ih E h nx k=>match step P pr ih (.one o n E h nx) with
 | .ok _ E h nx=>k E h nx
 | .ret _ _ _=>.bad 70 []
 | .bad w a=>.bad w a⟩
def BS (c:Cmd):Bool:=match c with | .ops ..=>true | .one ..=>true | .reg ..=>true | .code ..=>true | .loop ..=>true | _=>false
def BT (P:Program) (pr:sL) (ih:Cmd→Res) (F:Nat):Cmd→Res:=Nat.rec (motive:=fun _=>Cmd→Res) (fun _=>.bad 71 []) (fun _ r c=>step P pr (fun c=>bif BS c then r c else ih c) c) F
def Pn (P:Program) (pr:sL) (c:Code) (n:Nat):Cd:=⟨fun ih E h nx k=>match BT P pr ih 10000 (.code c n E h nx) with
 | .ok x E h nx=>k x E h nx
 | .ret _ _ _=>.bad 72 []
 | .bad w a=>.bad w a⟩
section
variable {P:Program} {Φ:Imm→Prop} {pr:sL}
theorem Ia (hpr:wI P Φ pr) {ih:Cmd→Res} (H:Rq P Φ ih):Rq P Φ (step P pr ih):=fun c=>by
 cases c with
 | code c n E h nx=>exact vC H c n E h nx
 | loop c n E h nx=>exact step_loop H c n E h nx
 | ops all l n E h nx=>exact Bk H all l n E h nx
 | one o n E h nx=>exact xD H o n E h nx
 | call f args h nx=>exact Km hpr H f args h nx
 | round t args h nx=>exact Ht H t args h nx
 | reg l plan pend n E h nx=>exact xF H l plan pend n E h nx
theorem wQ:Rq P Φ (fun _=>.bad 0 []):=fun c=>by cases c <;> trivial
theorem yM (c:Cmd) (w:Nat) (a:List Oper):rB P Φ c (.bad w a):=by cases c <;> trivial
theorem vD (o:Oper) (n:Nat):Rr P Φ (Ko P pr o n) o n:=fun ih H E h nx=>by
 have H1:=xD (pr:=pr) H o n E h nx
 show Ct (fun k=>match step P pr ih (.one o n E h nx) with | .ok _ E h nx=>k E h nx | .ret _ _ _=>.bad 70 [] | .bad w a=>.bad w a) _
 generalize step P pr ih (.one o n E h nx)=q at H1
 cases q with
 | bad w a=>exact .inl ⟨w,a,fun k=>rfl⟩
 | ret v h' nx'=>exact .inl ⟨70,[],fun k=>rfl⟩
 | ok x E' h' nx' =>
   have hx:x=.normal:=H1.1
   subst hx
   exact .inr ⟨E',h',nx',fun k=>rfl,H1⟩
theorem BU (hpr:wI P Φ pr) {ih:Cmd→Res} (H:Rq P Φ ih) (F:Nat):Rq P Φ (BT P pr ih F):=by
 induction F with
 | zero=>intro c;exact yM c 71 []
 | succ F r =>
   refine Ia hpr fun c=>?_
   show rB P Φ c (bif BS c then BT P pr ih F c else ih c)
   cases BS c with
   | true=>exact r c
   | false=>exact H c
theorem Bl (hpr:wI P Φ pr) (c:Code) (n:Nat):Wu P Φ (Pn P pr c n) c n:=fun ih H E h nx=>by
 have H1:=BU hpr H 10000 (.code c n E h nx)
 show Hz (fun k=>match BT P pr ih 10000 (.code c n E h nx) with | .ok x E h nx=>k x E h nx | .ret _ _ _=>.bad 72 [] | .bad w a=>.bad w a) _
 generalize BT P pr ih 10000 (.code c n E h nx)=q at H1
 cases q with
 | bad w a=>exact .inl ⟨w,a,fun k=>rfl⟩
 | ret v h' nx'=>exact .inl ⟨72,[],fun k=>rfl⟩
 | ok x E' h' nx'=>exact .inr ⟨x,E',h',nx',fun k=>rfl,H1⟩
end
def Mm:Operand→Gt
 | .tmp t=>gt (Nat.succ t) t
 | .const v=>Option.rec (motive:=fun _=>Gt) ⟨fun _=>none⟩ (fun c=>⟨fun _=>some c⟩) (GQ v)
 | .func f=>⟨fun _=>some (.fn f .nil .nil)⟩
 | .global _=>⟨fun _=>none⟩
theorem uO (x:Operand) (E:Tr CV):(Mm x).run E=sH E x:=by
 cases x with
 | tmp t=>exact NA _ _ _ (bU t)
 | const v =>
   show (Option.rec (motive:=fun _=>Gt) ⟨fun _=>none⟩ (fun c=>⟨fun _=>some c⟩) (GQ v):Gt).run E=GQ v
   cases GQ v <;> rfl
 | func f=>rfl
 | global g=>rfl
def Rs (n:Nat):Option Nat→Option St
 | none=>some ⟨fun _ E=>E⟩
 | some d=>bif Nat.ble (Nat.succ d) n then some (st rF d) else none
theorem Eh {n:Nat} {d:Option Nat} {p:St} (h:Rs n d=some p) (E:Tr CV) (v:CV):vB E n d v=some (p.run v E):=by
 cases d with
 | none=>cases h;rfl
 | some d =>
   have h':(bif Nat.ble (Nat.succ d) n then some (st rF d) else none)=some p:=h
   rcases rA h' with ⟨h1,h2⟩ | ⟨_,h2⟩
   · cases h2
     show (bif Nat.ble (Nat.succ d) n then some (E.set (some v) rF d) else none)=_
     rw [h1,NB];rfl
   cases h2
structure Bi where
 run:IntKind→Int→Int→Option CV
def NC:BinOp→Bi
 | .add=>⟨fun k m n=>bo .add k m n⟩
 | o=>⟨fun k m n=>bo o k m n⟩
def xG (P:Program) (pr:sL) (o:Oper) (n:Nat) (p:St) (f:Tr CV→Tr CB→Option CV):Co:=
 ⟨fun ih E h nx k=>Option.rec (motive:=fun _=>Res) ((Ko P pr o n).run ih E h nx k) (fun c=>k (p.run c E) h nx) (f E h)⟩
def zR (P:Program) (pr:sL) (o:Oper) (n:Nat) (p:St) (f:Tr CV→Tr CB→Nat→Ro):Co:=
 ⟨fun ih E h nx k=>Ro.rec (motive:=fun _=>Res) ((Ko P pr o n).run ih E h nx k) (fun c h nx=>k (p.run c E) h nx) (fun h nx=>match o.dst with | none=>k E h nx | some _=>.bad 10 []) (f E h nx)⟩
def BV (o:Oper) (n:Nat):Co:=
 ⟨fun ih E h nx k=>match Dj ih E n h nx o.dst o.op with | .ok _ E h nx=>k E h nx | .ret _ _ _=>.bad 70 [] | .bad w a=>.bad w a⟩
def GX (a b:Option CV) (f:IntKind→Int→Int→Option CV):Option CV:=
 Option.rec (motive:=fun _=>Option CV) none (fun a=>match a with
  | .int k m=>Option.rec (motive:=fun _=>Option CV) none (fun b=>match b with | .int k' n=>bif Xb k k' then f k m n else none | _=>none) b
  | _=>none) a
def BW (P:Program) (pr:sL) (o:Oper) (n:Nat):Co:=match Rs n o.dst with
 | some p=>match o.op with
   | .move x=>xG P pr o n p (fun E _=>(Mm x).run E)
   | .assign x=>xG P pr o n p (fun E _=>(Mm x).run E)
   | .extract x i=>xG P pr o n p (fun E _=>match (Mm x).run E with | some (.tup l)=>Ci l i | _=>none)
   | .nilCheck x=>xG P pr o n p (fun E _=>match (Mm x).run E with | some (.ptr t o)=>some (.ptr t o) | _=>none)
   | .fieldAddr s x f=>(match NS P s f with
     | some j=>xG P pr o n p (fun E _=>match (Mm x).run E with | some (.ptr t o)=>some (.ptr t (Nat.add o j)) | _=>none)
     | none=>Ko P pr o n)
   | .load T x=>bif sY P T then xG P pr o n p (fun E h=>match (Mm x).run E with | some (.ptr t o)=>(match h.get t with | some (.cells l _ _ _)=>Vx l o | _=>none) | _=>none) else Ko P pr o n
   | .pick c x y=>xG P pr o n p (fun E _=>match (Mm c).run E with | some (.bool b)=>Bool.rec (motive:=fun _=>Option CV) ((Mm y).run E) ((Mm x).run E) b | _=>none)
   | .unOp .not _ x=>xG P pr o n p (fun E _=>match (Mm x).run E with | some (.bool b)=>some (.bool (not b)) | _=>none)
   | .convert s t x=>(match P.underlying t with
     | some (.int k')=>(match P.underlying s with
       | some _=>xG P pr o n p (fun E _=>match (Mm x).run E with | some (.int _ m)=>some (.int k' (wr k' m)) | _=>none)
       | none=>Ko P pr o n)
     | _=>Ko P pr o n)
   | .indexAddr T x i=>(match Jy P T with
     | some (_,sz')=>xG P pr o n p (fun E _=>match (Mm i).run E with
       | some (.int _ m)=>(match (Mm x).run E with | some (.sl t o n sz _)=>bif Nat.beq sz sz' && (tS 0 m && not (tS n m)) then some (.ptr t (Nat.add o (Nat.mul m.toNat sz'))) else none | _=>none)
       | _=>none)
     | none=>Ko P pr o n)
   | .call ⟨.builtin .len,⟨[x]⟩,⟨[T]⟩⟩=>(match Jy P T with
     | some _=>xG P pr o n p (fun E _=>match (Mm x).run E with | some (.sl _ _ n _ _)=>some (.int .i64 n) | some .nils=>some (.int .i64 0) | _=>none)
     | none=>Ko P pr o n)
   | .alloc T=>zR P pr o n p (fun E h nx=>wv0 P E h nx T)
   | .box T x=>zR P pr o n p (fun E h nx=>wv1 P E h nx T x)
   | .store T x y=>zR P pr o n p (fun E h nx=>wv2 P E h nx T x y)
   | .buildSlice T m ⟨parts⟩=>zR P pr o n p (fun E h nx=>wv3 P E h nx T m parts)
   | .makeSlice T x y=>zR P pr o n p (fun E h nx=>wv4 P E h nx T x y)
   | .call ⟨.builtin .append,⟨[s,x]⟩,⟨[T,tx]⟩⟩=>zR P pr o n p (fun E h nx=>OB P E h nx T tx s x)
   | .call ⟨.value f,args,ats⟩=>bif MO P f then Ko P pr o n else BV o n
   | .binOp b t x y _=>(match b with
     | .shl=>Ko P pr o n
     | .shr=>Ko P pr o n
     | b=>xG P pr o n p (fun E _=>GX ((Mm x).run E) ((Mm y).run E) (NC b).run))
   | _=>Ko P pr o n
 | none=>Ko P pr o n
section
variable {P:Program} {Φ:Imm→Prop} {pr:sL}
theorem Wv {o:Oper} {n:Nat} {E:Tr CV} {h:Tr CB} {nx:Nat} {c:CV} {E':Tr CV} (hq:qv P E h o.op=some c) (hp:vB E n o.dst c=some E'):rB P Φ (.one o n E h nx) (.ok .normal E' h nx):=by
 have H:=xD (pr:=[]) (wQ (P:=P) (Φ:=Φ)) o n E h nx
 have e:step P [] (fun _=>.bad 0 []) (.one o n E h nx)=Res.ok .normal E' h nx:=by
  show Bg P [] _ o n E h nx=_
  unfold Bg
  simp only [hq,hp]
 rw [e] at H
 exact H
theorem tF {o:Oper} {n:Nat} {p:St} {f:Tr CV→Tr CB→Option CV} (hp:Rs n o.dst=some p) (hf:∀ E h c,f E h=some c→qv P E h o.op=some c):Rr P Φ (xG P pr o n p f) o n:=fun ih H E h nx=>by
 show Ct (fun k=>Option.rec (motive:=fun _=>Res) ((Ko P pr o n).run ih E h nx k) (fun c=>k (p.run c E) h nx) (f E h)) _
 cases hc:f E h with
 | none=>exact vD o n ih H E h nx
 | some c=>exact .inr ⟨p.run c E,h,nx,fun k=>rfl,Wv (hf E h c hc) (Eh hp E c)⟩
theorem vT {o:Oper} {n:Nat} {p:St} {f:Tr CV→Tr CB→Nat→Ro} (hp:Rs n o.dst=some p) (hq:∀ E h,qv P E h o.op=none) (hw:∀ E h nx,wv P E h nx o.op=f E h nx):Rr P Φ (zR P pr o n p f) o n:=fun ih H E h nx=>by
 show Ct (fun k=>Ro.rec (motive:=fun _=>Res) ((Ko P pr o n).run ih E h nx k) (fun c h nx=>k (p.run c E) h nx) (fun h nx=>match o.dst with | none=>k E h nx | some _=>.bad 10 []) (f E h nx)) _
 have hs:=xD (pr:=[]) (wQ (P:=P) (Φ:=Φ)) o n E h nx
 have hwm:f E h nx≠.bad→wm P E h nx o.op=f E h nx:=fun hb=>by
  unfold wm
  rw [hw]
  cases hf:f E h nx with
  | bad=>exact absurd hf hb
  | val c h' nx'=>rfl
  | unit h' nx'=>rfl
 cases hf:f E h nx with
 | bad=>exact vD o n ih H E h nx
 | val c h' nx' =>
   have e:=hwm (by rw [hf];intro h;cases h)
   rw [hf] at e
   have e2:step P [] (fun _=>.bad 0 []) (.one o n E h nx)=Res.ok .normal (p.run c E) h' nx':=by
    show Bg P [] _ o n E h nx=_
    unfold Bg
    simp only [hq,e,Eh hp]
   rw [e2] at hs
   exact .inr ⟨p.run c E,h',nx',fun k=>rfl,hs⟩
 | unit h' nx' =>
   have e:=hwm (by rw [hf];intro h;cases h)
   rw [hf] at e
   cases hd:o.dst with
   | some d=>exact .inl ⟨10,[],fun k=>by simp only [hd]⟩
   | none =>
     have e2:step P [] (fun _=>.bad 0 []) (.one o n E h nx)=Res.ok .normal E h' nx':=by
      show Bg P [] _ o n E h nx=_
      unfold Bg
      simp only [hq,e,hd]
     rw [e2] at hs
     exact .inr ⟨E,h',nx',fun k=>by simp only [hd],hs⟩
theorem Ww {o:Oper} {n:Nat} (hq:∀ E h,qv P E h o.op=none) (hw:∀ E h nx,wm P E h nx o.op=.bad):Rr P Φ (BV o n) o n:=fun ih H E h nx=>by
 have hs:=xD (pr:=[]) H o n E h nx
 have e2:step P [] ih (.one o n E h nx)=Dj ih E n h nx o.dst o.op:=by
  show Bg P [] _ o n E h nx=_
  unfold Bg
  simp only [hq,hw]
 rw [e2] at hs
 show Ct (fun k=>match Dj ih E n h nx o.dst o.op with | .ok _ E h nx=>k E h nx | .ret _ _ _=>.bad 70 [] | .bad w a=>.bad w a) _
 generalize Dj ih E n h nx o.dst o.op=q at hs
 cases q with
 | bad w a=>exact .inl ⟨w,a,fun k=>rfl⟩
 | ret v h' nx'=>exact .inl ⟨70,[],fun k=>rfl⟩
 | ok x E' h' nx' =>
   have hx:x=.normal:=hs.1
   subst hx
   exact .inr ⟨E',h',nx',fun k=>rfl,hs⟩
theorem FY (b:BinOp) (k:IntKind) (m n:Int):(NC b).run k m n=bo b k m n:=by cases b <;> rfl
theorem BX {a b:Option CV} {f:IntKind→Int→Int→Option CV} {c:CV} (h:GX a b f=some c):∃ k m n,a=some (.int k m)∧∃ k',b=some (.int k' n)∧Xb k k'=true∧f k m n=some c:=by
 cases a with
 | none=>cases h
 | some a =>
   cases a with
   | int k m =>
     cases b with
     | none=>cases h
     | some b =>
       cases b with
       | int k' n =>
         have h':(bif Xb k k' then f k m n else none)=some c:=h
         rcases rA h' with ⟨h1,h2⟩ | ⟨_,h2⟩
         · exact ⟨k,m,n,rfl,k',rfl,h1,h2⟩
         · cases h2
       | _=>cases h
   | _=>cases h
theorem Rt (o:Oper) (n:Nat):Rr P Φ (BW P pr o n) o n:=by
 unfold BW
 split
 · rename_i p hp
   split
   · rename_i x hop
     exact tF hp fun E h c hc=>by rw [hop];rw [uO] at hc;exact hc
   · rename_i x hop
     exact tF hp fun E h c hc=>by rw [hop];rw [uO] at hc;exact hc
   · rename_i x i hop
     exact tF hp fun E h c hc=>by rw [hop];rw [uO] at hc;exact hc
   · rename_i x hop
     refine tF hp fun E h c hc=>?_
     rw [hop]
     rw [uO] at hc
     split at hc
     · rename_i t o' hx
       cases hc
       show NY P E h x=_
       unfold NY
       rw [hx]
     cases hc
   · rename_i s x f hop
     split
     · rename_i j hj
       refine tF hp fun E h c hc=>?_
       rw [hop]
       rw [uO] at hc
       split at hc
       · rename_i t o' hx
         cases hc
         show NZ P E h s x f=_
         unfold NZ
         rw [hx]
         simp only [hj]
       cases hc
     exact vD o n
   · rename_i T x hop
     refine rE (fun c=>Rr P Φ c o n) (fun h1=>?_) fun _=>vD o n
     refine tF hp fun E h c hc=>?_
     rw [hop]
     rw [uO] at hc
     split at hc
     · rename_i t o' hx
       split at hc
       · rename_i l ty op st hb
         show FM P E h T x=_
         unfold FM
         rw [hx]
         simp only [hb,h1,eY]
         exact hc
       cases hc
     cases hc
   · rename_i c x y hop
     refine tF hp fun E h c' hc=>?_
     rw [hop]
     simp only [uO] at hc
     split at hc
     · rename_i b hb
       show NV P E h c x y=_
       unfold NV
       rw [hb]
       cases b <;> exact hc
     cases hc
   · rename_i tt x hop
     refine tF hp fun E h c hc=>?_
     rw [hop]
     rw [uO] at hc
     exact hc
   · rename_i s t x hop
     split
     · rename_i k' ht
       split
       · rename_i d hd
         refine tF hp fun E h c hc=>?_
         rw [hop]
         rw [uO] at hc
         show NX P E h s t x=_
         unfold NX
         rw [ht]
         simp only [hd]
         exact hc
       exact vD o n
     exact vD o n
   · rename_i T x i hop
     split
     · rename_i e' sz' hT
       refine tF hp fun E h c hc=>?_
       rw [hop]
       simp only [uO] at hc
       split at hc
       · rename_i k m hi
         split at hc
         · rename_i t o' N sz cc hx
           show FN P E h T x i=_
           unfold FN
           rw [hi]
           simp only [hx,hT]
           exact hc
         cases hc
       cases hc
     exact vD o n
   · rename_i x T hop
     split
     · rename_i e' hT
       refine tF hp fun E h c hc=>?_
       rw [hop]
       rw [uO] at hc
       split at hc
       · rename_i t o' N sz cc hx
         show Wg P E h x T=_
         unfold Wg
         rw [hx]
         simp only [hT]
         exact hc
       · rename_i hx
         show Wg P E h x T=_
         unfold Wg
         rw [hx]
         simp only [hT]
         exact hc
       cases hc
     exact vD o n
   · rename_i T hop
     exact vT hp (fun E h=>by rw [hop];rfl) fun E h nx=>by rw [hop];rfl
   · rename_i T x hop
     exact vT hp (fun E h=>by rw [hop];rfl) fun E h nx=>by rw [hop];rfl
   · rename_i T x y hop
     exact vT hp (fun E h=>by rw [hop];rfl) fun E h nx=>by rw [hop];rfl
   · rename_i T m parts hop
     exact vT hp (fun E h=>by rw [hop];rfl) fun E h nx=>by rw [hop];rfl
   · rename_i T x y hop
     exact vT hp (fun E h=>by rw [hop];rfl) fun E h nx=>by rw [hop];rfl
   · rename_i s x T tx hop
     exact vT hp (fun E h=>by rw [hop];rfl) fun E h nx=>by rw [hop];rfl
   · rename_i f args ats hop
     refine rE (fun c=>Rr P Φ c o n) (fun _=>vD o n) fun hf=>?_
     exact Ww (fun E h=>by rw [hop];rfl) fun E h nx=>by rw [hop];exact FT hf
   · rename_i b t x y tt hop
     split
     · exact vD o n
     · exact vD o n
     rename_i hb1 hb2
     refine tF hp fun E h c hc=>?_
     rw [hop]
     rw [uO,uO] at hc
     obtain ⟨k,m,m',e1,k',e2,e3,e4⟩:=BX hc
     rw [FY] at e4
     show NW P E h b t x y=_
     unfold NW
     rw [e1]
     simp only [e2]
     have e5:sh b k m m'=none:=by
      cases b <;> first | rfl | exact absurd rfl hb1 | exact absurd rfl hb2
     rw [e5]
     simp only [e3,eY]
     exact e4
   exact vD o n
 exact vD o n
def FZ (l:List Co):(Cmd→Res)→Tr CV→Tr CB→Nat→Kt→Res:=
 List.rec (motive:=fun _=>(Cmd→Res)→Tr CV→Tr CB→Nat→Kt→Res) (fun _ E h nx k=>k E h nx) (fun a _ r ih E h nx k=>a.run ih E h nx (fun E h nx=>r ih E h nx k)) l
def GA (P:Program) (pr:sL) (n:Nat) (l:List Oper):List Co:=List.rec (motive:=fun _=>List Co) [] (fun o _ ih=>BW P pr o n :: ih) l
def Cu (l:List Oper):Bool:=List.rec (motive:=fun _=>Bool) true (fun o _ ih=>(match o.guard with | none=>true | some _=>false) && ih) l
def Mn (c1:Cmd) (r1:Res):Cmd→Res:=fun c=>open Classical in if c=c1 then r1 else .bad 0 []
theorem Ib {c1:Cmd} {r1:Res} (H:rB P Φ c1 r1):Rq P Φ (Mn c1 r1):=fun c=>by
 unfold Mn
 split
 · rename_i e;subst e;exact H
 exact yM c 0 []
theorem vE (c1:Cmd) (r1:Res):Mn c1 r1 c1=r1:=by unfold Mn;rw [aT rfl]
def Jb (c1:Cmd) (r1:Res) (c2:Cmd) (r2:Res):Cmd→Res:=fun c=>open Classical in if c=c1 then r1 else if c=c2 then r2 else .bad 0 []
theorem Bm {c1 c2:Cmd} {r1 r2:Res} (H1:rB P Φ c1 r1) (H2:rB P Φ c2 r2):Rq P Φ (Jb c1 r1 c2 r2):=fun c=>by
 unfold Jb
 split
 · rename_i e;subst e;exact H1
 split
 · rename_i e;subst e;exact H2
 exact yM c 0 []
theorem Mo (c1:Cmd) (r1:Res) (c2:Cmd) (r2:Res):Jb c1 r1 c2 r2 c1=r1:=by unfold Jb;rw [aT rfl]
theorem Mp {c1 c2:Cmd} (h:c2≠c1) (r1 r2:Res):Jb c1 r1 c2 r2 c2=r2:=by unfold Jb;rw [aF h,aT rfl]
theorem BY {all rest:List Oper} {o:Oper} {n:Nat} {E E1 E2:Tr CV} {h h1 h2:Tr CB} {nx nx1 nx2:Nat} (hg:o.guard=none) (H1:rB P Φ (.one o n E h nx) (.ok .normal E1 h1 nx1)) (H2:rB P Φ (.ops all rest n E1 h1 nx1) (.ok .normal E2 h2 nx2)):rB P Φ (.ops all (o :: rest) n E h nx) (.ok .normal E2 h2 nx2):=by
 have H:=Bk (pr:=[]) (Bm H1 H2) all (o :: rest) n E h nx
 have e:step P [] (Jb (.one o n E h nx) (.ok .normal E1 h1 nx1) (.ops all rest n E1 h1 nx1) (.ok .normal E2 h2 nx2)) (.ops all (o :: rest) n E h nx)=Res.ok .normal E2 h2 nx2:=by
  show BP P [] _ all (o :: rest) n E h nx=_
  unfold BP
  simp only [hg,Mo]
  exact Mp Cv _ _
 rw [e] at H
 exact H
theorem GB (all:List Oper) (n:Nat) (E:Tr CV) (h:Tr CB) (nx:Nat):rB P Φ (.ops all [] n E h nx) (.ok .normal E h nx):=Bk (pr:=[]) (wQ (P:=P) (Φ:=Φ)) all [] n E h nx
theorem Tp {ih:Cmd→Res} (H:Rq P Φ ih) (all:List Oper) (n:Nat):∀ (l:List Oper) (E:Tr CV) (h:Tr CB) (nx:Nat),Cu l=true→Ct (FZ (GA P pr n l) ih E h nx) (fun E' h' nx'=>rB P Φ (.ops all l n E h nx) (.ok .normal E' h' nx'))
 | [],E,h,nx,_=>.inr ⟨E,h,nx,fun k=>rfl,GB all n E h nx⟩
 | o :: l,E,h,nx,hl=>by
   have hl':((match o.guard with | none=>true | some _=>false) && Cu l)=true:=hl
   rw [aA] at hl'
   have hg:o.guard=none:=by cases hgg:o.guard with | none=>rfl | some x=>rw [hgg] at hl';cases hl'.1
   have H1:=Rt (pr:=pr) o n ih H E h nx
   show Ct (fun k=>(BW P pr o n).run ih E h nx (fun E h nx=>FZ (GA P pr n l) ih E h nx k)) _
   rcases H1 with ⟨w,a,hb⟩ | ⟨E1,h1,nx1,hk,hd⟩
   · exact .inl ⟨w,a,fun k=>hb _⟩
   rcases Tp H all n l E1 h1 nx1 hl'.2 with ⟨w,a,hb⟩ | ⟨E2,h2,nx2,hk2,hd2⟩
   · exact .inl ⟨w,a,fun k=>(hk _).trans (hb k)⟩
   exact .inr ⟨E2,h2,nx2,fun k=>(hk _).trans (hk2 k),BY hg hd hd2⟩
end
abbrev Pd:=List (Nat×Nat×Nat)
structure Cr where
 run:(Cmd→Res)→Pd→Tr CV→Tr CB→Nat→Kt→Res
def Po (o:Oper) (i nx:Nat) (E:Tr CV) (pend:Pd):Pd:=match AX E o.op with | some t=>(t,i,nx) :: pend | none=>pend
def Ic (P:Program) (pr:sL) (n:Nat) (l:List Oper) (plan:List (Nat×Pk)):Cr:=List.rec (motive:=fun _=>Cr) ⟨fun _ _ E h nx k=>k E h nx⟩ (fun x _ r=>match zT l x.1 with
 | some o=>(match o.guard with
   | none=>(match Rs n o.dst with
     | some p=>(match x.2 with
       | .look=>⟨fun ih pend E h nx k=>Option.rec (motive:=fun _=>Res) (.bad 26 [o]) (fun c=>r.run ih (Po o x.1 nx E pend) (p.run c E) h nx k) (qv P E h o.op)⟩
       | .only=>⟨fun ih pend E h nx k=>(BW P pr o n).run ih E h nx (fun E h nx=>bif uS h (rL o pend) then r.run ih (rL o pend) E h nx k else .bad 28 [o])⟩
       | .race R=>⟨fun ih pend E h nx k=>bif vN P l R n (rT l R E) h nx then (BW P pr o n).run ih (rT l R E) h nx (fun E h nx=>bif uS h (rL o pend) then r.run ih (rL o pend) E h nx k else .bad 28 [o]) else .bad 32 [o]⟩
       | .make R=>⟨fun ih pend E h nx k=>bif vN P l R n (rT l R E) h nx then (match wm P (rT l R E) h nx o.op with | .val c h nx=>r.run ih (rL o pend) (p.run c (rT l R E)) h nx k | _=>.bad 34 [o]) else .bad 35 [o]⟩)
     | none=>⟨fun _ _ _ _ _ _=>.bad 25 [o]⟩)
   | some _=>⟨fun _ _ _ _ _ _=>.bad 30 [o]⟩)
 | none=>⟨fun _ _ _ _ _ _=>.bad 31 []⟩) plan
section
variable {P:Program} {Φ:Imm→Prop} {pr:sL}
theorem Tq {c':Cmd} {r r':Res} (H:rB P Φ c' r) (l:List Oper) (plan:List (Nat×Pk)) (pend:Pd) (n:Nat) (E:Tr CV) (h:Tr CB) (nx:Nat) (e:step P [] (Mn c' r) (.reg l plan pend n E h nx)=r'):rB P Φ (.reg l plan pend n E h nx) r':=by
 rw [←e];exact xF (Ib H) l plan pend n E h nx
theorem Ts {l:List Oper} {E:Tr CV} {o:Oper} (h:o.guard=none):GW l E o=some true:=by unfold GW;rw [h]
theorem BZ {l:List Oper} {plan:List (Nat×Pk)} {pend:Pd} {n i:Nat} {E E':Tr CV} {h:Tr CB} {nx:Nat} {o:Oper} {c:CV} {r:Res} (hl:zT l i=some o) (hg:o.guard=none) (hq:qv P E h o.op=some c) (hp:vB E n o.dst c=some E')
 (H:rB P Φ (.reg l plan (Po o i nx E pend) n E' h nx) r):rB P Φ (.reg l ((i,.look) :: plan) pend n E h nx) r:=by
 refine Tq H l _ pend n E h nx ?_
 show Bh P [] _ l ((i,.look) :: plan) pend n E h nx=_
 unfold Bh
 simp only [hl,Ts hg,eY,hq,hp]
 exact vE _ _
theorem Wx {l:List Oper} {plan:List (Nat×Pk)} {pend:Pd} {n i:Nat} {E E':Tr CV} {h h':Tr CB} {nx nx':Nat} {o:Oper} {r:Res} (hl:zT l i=some o) (hg:o.guard=none) (H1:rB P Φ (.one o n E h nx) (.ok .normal E' h' nx')) (hk:uS h' (rL o pend)=true)
 (H2:rB P Φ (.reg l plan (rL o pend) n E' h' nx') r):rB P Φ (.reg l ((i,.only) :: plan) pend n E h nx) r:=by
 have H:=xF (pr:=[]) (Bm H1 H2) l ((i,.only) :: plan) pend n E h nx
 have e:step P [] (Jb (.one o n E h nx) (.ok .normal E' h' nx') (.reg l plan (rL o pend) n E' h' nx') r) (.reg l ((i,.only) :: plan) pend n E h nx)=r:=by
  show Bh P [] _ l ((i,.only) :: plan) pend n E h nx=_
  unfold Bh
  simp only [hl,Ts hg,eY,kL,Mo,hk]
  exact Mp Cv _ _
 rw [e] at H
 exact H
theorem CA {l:List Oper} {plan:List (Nat×Pk)} {R:List Nat} {pend:Pd} {n i:Nat} {E E':Tr CV} {h h':Tr CB} {nx nx':Nat} {o:Oper} {r:Res} (hl:zT l i=some o) (hq:vN P l R n (rT l R E) h nx=true) (H1:rB P Φ (.one o n (rT l R E) h nx) (.ok .normal E' h' nx')) (hk:uS h' (rL o pend)=true)
 (H2:rB P Φ (.reg l plan (rL o pend) n E' h' nx') r):rB P Φ (.reg l ((i,.race R) :: plan) pend n E h nx) r:=by
 have H:=xF (pr:=[]) (Bm H1 H2) l ((i,.race R) :: plan) pend n E h nx
 have e:step P [] (Jb (.one o n (rT l R E) h nx) (.ok .normal E' h' nx') (.reg l plan (rL o pend) n E' h' nx') r) (.reg l ((i,.race R) :: plan) pend n E h nx)=r:=by
  show Bh P [] _ l ((i,.race R) :: plan) pend n E h nx=_
  unfold Bh
  simp only [hl,hq,eY,Mo,hk]
  exact Mp Cv _ _
 rw [e] at H
 exact H
theorem CC {l:List Oper} {plan:List (Nat×Pk)} {R:List Nat} {pend:Pd} {n i:Nat} {E E':Tr CV} {h h':Tr CB} {nx nx':Nat} {o:Oper} {c:CV} {r:Res} (hl:zT l i=some o) (hq:vN P l R n (rT l R E) h nx=true) (hw:wm P (rT l R E) h nx o.op=.val c h' nx') (hp:vB (rT l R E) n o.dst c=some E')
 (H:rB P Φ (.reg l plan (rL o pend) n E' h' nx') r):rB P Φ (.reg l ((i,.make R) :: plan) pend n E h nx) r:=by
 refine Tq H l _ pend n E h nx ?_
 show Bh P [] _ l ((i,.make R) :: plan) pend n E h nx=_
 unfold Bh
 simp only [hl,hq,eY,hw,hp]
 exact vE _ _
theorem Bn {ih:Cmd→Res} (H:Rq P Φ ih) (l:List Oper) (n:Nat):∀ (plan:List (Nat×Pk)) (pend:Pd) (E:Tr CV) (h:Tr CB) (nx:Nat),Ct ((Ic P pr n l plan).run ih pend E h nx) (fun E' h' nx'=>rB P Φ (.reg l plan pend n E h nx) (.ok .normal E' h' nx'))
 | [],pend,E,h,nx=>.inr ⟨E,h,nx,fun k=>rfl,xF (pr:=[]) (wQ (P:=P) (Φ:=Φ)) l [] pend n E h nx⟩
 | (i,lk) :: plan,pend,E,h,nx=>by
   show Ct ((match zT l i with
    | some o=>(match o.guard with
      | none=>(match Rs n o.dst with
        | some p=>((match lk with
          | .look=>⟨fun ih pend E h nx k=>Option.rec (motive:=fun _=>Res) (.bad 26 [o]) (fun c=>(Ic P pr n l plan).run ih (Po o i nx E pend) (p.run c E) h nx k) (qv P E h o.op)⟩
          | .only=>⟨fun ih pend E h nx k=>(BW P pr o n).run ih E h nx (fun E h nx=>bif uS h (rL o pend) then (Ic P pr n l plan).run ih (rL o pend) E h nx k else .bad 28 [o])⟩
          | .race R=>⟨fun ih pend E h nx k=>bif vN P l R n (rT l R E) h nx then (BW P pr o n).run ih (rT l R E) h nx (fun E h nx=>bif uS h (rL o pend) then (Ic P pr n l plan).run ih (rL o pend) E h nx k else .bad 28 [o]) else .bad 32 [o]⟩
          | .make R=>⟨fun ih pend E h nx k=>bif vN P l R n (rT l R E) h nx then (match wm P (rT l R E) h nx o.op with | .val c h nx=>(Ic P pr n l plan).run ih (rL o pend) (p.run c (rT l R E)) h nx k | _=>.bad 34 [o]) else .bad 35 [o]⟩):Cr)
        | none=>⟨fun _ _ _ _ _ _=>.bad 25 [o]⟩)
      | some _=>⟨fun _ _ _ _ _ _=>.bad 30 [o]⟩)
    | none=>⟨fun _ _ _ _ _ _=>.bad 31 []⟩).run ih pend E h nx) _
   cases hl:zT l i with
   | none=>exact .inl ⟨31,[],fun k=>rfl⟩
   | some o =>
     simp only
     cases hg:o.guard with
     | some g=>exact .inl ⟨30,[o],fun k=>rfl⟩
     | none =>
       simp only
       cases hp:Rs n o.dst with
       | none=>exact .inl ⟨25,[o],fun k=>rfl⟩
       | some p =>
         simp only
         cases lk with
         | look =>
           show Ct (fun k=>Option.rec (motive:=fun _=>Res) (.bad 26 [o]) (fun c=>(Ic P pr n l plan).run ih (Po o i nx E pend) (p.run c E) h nx k) (qv P E h o.op)) _
           cases hq:qv P E h o.op with
           | none=>exact .inl ⟨26,[o],fun k=>rfl⟩
           | some c =>
             rcases Bn H l n plan (Po o i nx E pend) (p.run c E) h nx with ⟨w,a,hb⟩ | ⟨E2,h2,nx2,hk,hd⟩
             · exact .inl ⟨w,a,fun k=>hb k⟩
             · exact .inr ⟨E2,h2,nx2,fun k=>hk k,BZ hl hg hq (Eh hp E c) hd⟩
         | only =>
           show Ct (fun k=>(BW P pr o n).run ih E h nx (fun E h nx=>bif uS h (rL o pend) then (Ic P pr n l plan).run ih (rL o pend) E h nx k else .bad 28 [o])) _
           rcases Rt (pr:=pr) o n ih H E h nx with ⟨w,a,hb⟩ | ⟨E1,h1,nx1,hk1,hd1⟩
           · exact .inl ⟨w,a,fun k=>hb _⟩
           · cases hkp:uS h1 (rL o pend) with
             | false=>exact .inl ⟨28,[o],fun k=>(hk1 _).trans (by rw [hkp];rfl)⟩
             | true =>
               rcases Bn H l n plan (rL o pend) E1 h1 nx1 with ⟨w,a,hb⟩ | ⟨E2,h2,nx2,hk,hd⟩
               · exact .inl ⟨w,a,fun k=>(hk1 _).trans (by rw [hkp];exact hb k)⟩
               · exact .inr ⟨E2,h2,nx2,fun k=>(hk1 _).trans (by rw [hkp];exact hk k),Wx hl hg hd1 hkp hd⟩
         | race R =>
           show Ct (fun k=>bif vN P l R n (rT l R E) h nx then (BW P pr o n).run ih (rT l R E) h nx (fun E h nx=>bif uS h (rL o pend) then (Ic P pr n l plan).run ih (rL o pend) E h nx k else .bad 28 [o]) else .bad 32 [o]) _
           cases hq:vN P l R n (rT l R E) h nx with
           | false=>exact .inl ⟨32,[o],fun k=>rfl⟩
           | true =>
             simp only [eY]
             rcases Rt (pr:=pr) o n ih H (rT l R E) h nx with ⟨w,a,hb⟩ | ⟨E1,h1,nx1,hk1,hd1⟩
             · exact .inl ⟨w,a,fun k=>hb _⟩
             · cases hkp:uS h1 (rL o pend) with
               | false=>exact .inl ⟨28,[o],fun k=>(hk1 _).trans (by rw [hkp];rfl)⟩
               | true =>
                 rcases Bn H l n plan (rL o pend) E1 h1 nx1 with ⟨w,a,hb⟩ | ⟨E2,h2,nx2,hk,hd⟩
                 · exact .inl ⟨w,a,fun k=>(hk1 _).trans (by rw [hkp];exact hb k)⟩
                 · exact .inr ⟨E2,h2,nx2,fun k=>(hk1 _).trans (by rw [hkp];exact hk k),CA hl hq hd1 hkp hd⟩
         | make R =>
           show Ct (fun k=>bif vN P l R n (rT l R E) h nx then (match wm P (rT l R E) h nx o.op with | .val c h nx=>(Ic P pr n l plan).run ih (rL o pend) (p.run c (rT l R E)) h nx k | _=>.bad 34 [o]) else .bad 35 [o]) _
           cases hq:vN P l R n (rT l R E) h nx with
           | false=>exact .inl ⟨35,[o],fun k=>rfl⟩
           | true =>
             simp only [eY]
             cases hw:wm P (rT l R E) h nx o.op with
             | bad=>exact .inl ⟨34,[o],fun k=>rfl⟩
             | unit _ _=>exact .inl ⟨34,[o],fun k=>rfl⟩
             | val c h1 nx1 =>
               rcases Bn H l n plan (rL o pend) (p.run c (rT l R E)) h1 nx1 with ⟨w,a,hb⟩ | ⟨E2,h2,nx2,hk,hd⟩
               · exact .inl ⟨w,a,fun k=>hb k⟩
               exact .inr ⟨E2,h2,nx2,fun k=>hk k,CC hl hq hw (Eh hp _ c) hd⟩
end
def ND (c:Cd) (F:Nat):(Cmd→Res)→Tr CV→Tr CB→Nat→Kx→Res:=
 Nat.rec (motive:=fun _=>(Cmd→Res)→Tr CV→Tr CB→Nat→Kx→Res) (fun _ _ _ _ _=>.bad 0 []) (fun _ r ih E h nx k=>c.run ih E h nx (fun x E h nx=>match x with | .normal=>r ih E h nx k | x=>k x E h nx)) F
def xN (P:Program) (pr:sL) (LF:Nat) (n:Nat) (c:Code):Cd:=Code.rec (motive:=fun _=>Cd) ⟨fun _ E h nx k=>k .normal E h nx⟩
 (fun id ops draw=>bif not draw && (ops.toList.all sA && Cu ops.toList) then ⟨fun ih E h nx k=>FZ (GA P pr n ops.toList) ih E h nx (fun E h nx=>k .normal E h nx)⟩ else bif draw && (P.follows .mixedOrders && Cu ops.toList) then (match Hl ops.toList with | some p=>⟨fun ih E h nx k=>(Ic P pr n ops.toList p).run ih [] E h nx (fun E h nx=>k .normal E h nx)⟩ | none=>Pn P pr (.region id ops draw) n) else Pn P pr (.region id ops draw) n)
 (fun _ _ a b=>⟨fun ih E h nx k=>a.run ih E h nx (fun x E h nx=>match x with | .normal=>b.run ih E h nx k | x=>k x E h nx)⟩)
 (fun c _ _ a b=>⟨fun ih E h nx k=>match (Mm c).run E with | some (.bool t)=>bif t then a.run ih E h nx k else b.run ih E h nx k | _=>.bad 1 []⟩)
 (fun id _ c=>⟨fun ih E h nx k=>c.run ih E h nx (fun x E h nx=>match x with | .exit id'=>bif Nat.beq id' id then k .normal E h nx else k (.exit id') E h nx | x=>k x E h nx)⟩)
 (fun _ c=>⟨fun ih E h nx k=>ND c LF ih E h nx k⟩)
 (fun g ps asg body _ _=>Pn P pr (.rangeFunc g ps asg body) n)
 (fun id=>⟨fun _ E h nx k=>k (.exit id) E h nx⟩)
 (fun _ c=>⟨fun ih E h nx k=>c.run ih E h nx (fun x E h nx=>match x with | .normal=>k .normal E h nx | .ret=>k .ret E h nx | .exit id=>k (.exit id) E h nx | _=>.bad 22 [])⟩)
 (fun _=>⟨fun _ E h nx k=>k .normal E h nx⟩)
 (fun l=>Pn P pr (.goto l) n)
 ⟨fun _ E h nx k=>k .ret E h nx⟩
 (fun s=>Pn P pr (.refuse s) n) c
section
variable {P:Program} {Φ:Imm→Prop} {pr:sL}
def JC (id:Nat) (x:Exit) (E:Tr CV) (h:Tr CB) (nx:Nat):Res:=match x with | .exit id'=>bif Nat.beq id' id then .ok .normal E h nx else .ok (.exit id') E h nx | x=>.ok x E h nx
def RQ (x:Exit) (E:Tr CV) (h:Tr CB) (nx:Nat):Res:=match x with | .normal=>.ok .normal E h nx | .ret=>.ok .ret E h nx | .exit id=>.ok (.exit id) E h nx | _=>.bad 22 []
section rules
variable {a b c:Code} {n:Nat} {E E1 E2:Tr CV} {h h1 h2:Tr CB} {nx nx1 nx2:Nat} {x:Exit} {r:Res}
theorem CD (H1:rB P Φ (.code a n E h nx) (.ok .normal E1 h1 nx1)) (H2:rB P Φ (.code b n E1 h1 nx1) (.ok x E2 h2 nx2)):rB P Φ (.code (.seq a b) n E h nx) (.ok x E2 h2 nx2):=by
 intro r ρ w0 ac w hR hf hn hrr Q hQ
 refine wpIn_seq (H1 r ρ w0 ac w hR hf hn (hrr.imp id fun q=>(aA _ _▸(show (Mr a && Mr b)=true from q)).1) _ fun ρ' a' w' e1 e2=>?_)
 exact H2 r ρ' w0 a' w' e2 e1.fit hn (hrr.imp id fun q=>(aA _ _▸(show (Mr a && Mr b)=true from q)).2) Q fun ρ2 a2 w2 f1 f2=>hQ ρ2 a2 w2 (e1.trans hR.mem f1) f2
theorem wJ {c':Cmd} (H:rB P Φ c' r) (n:Nat) (E:Tr CV) (h:Tr CB) (nx:Nat) (c:Code) (r':Res) (e:step P [] (Mn c' r) (.code c n E h nx)=r'):rB P Φ (.code c n E h nx) r':=by
 rw [←e];exact vC (Ib H) c n E h nx
theorem CE (hx:x≠.normal) (H1:rB P Φ (.code a n E h nx) (.ok x E1 h1 nx1)):rB P Φ (.code (.seq a b) n E h nx) (.ok x E1 h1 nx1):=by
 refine wJ H1 n E h nx _ _ ?_
 show IY P _ n E h nx a b=_
 unfold IY
 rw [vE]
 cases x <;> first | exact absurd rfl hx | rfl
theorem Pp {id:Nat} {l:List Oper} (hd:l.all sA=true) (H1:rB P Φ (.ops l l n E h nx) r):rB P Φ (.code (.region id ⟨l⟩ false) n E h nx) r:=by
 refine wJ H1 n E h nx _ _ ?_
 show (bif l.all sA then Mn (.ops l l n E h nx) r (.ops l l n E h nx) else Res.bad 2 [])=_
 rw [hd]
 exact vE _ _
theorem Wy {id:Nat} {l:List Oper} {p:List (Nat×Pk)} (hf:P.follows .mixedOrders=true) (hp:Hl l=some p) (H1:rB P Φ (.reg l p [] n E h nx) r):rB P Φ (.code (.region id ⟨l⟩ true) n E h nx) r:=by
 refine wJ H1 n E h nx _ _ ?_
 show BO P _ n E h nx l=_
 unfold BO
 rw [hf,hp]
 exact vE _ _
theorem Kp {o:Operand} {t:Bool} (ht:sH E o=some (.bool t)) (H1:rB P Φ (.code (bif t then a else b) n E h nx) r):rB P Φ (.code (.cond o a b) n E h nx) r:=by
 refine wJ H1 n E h nx _ _ ?_
 show (match sH E o with
  | some (.bool t)=>Mn _ r (.code (bif t then a else b) n E h nx)
  | _=>Res.bad 1 [])=_
 rw [ht]
 exact vE _ _
theorem Ru {id:Nat} (H1:rB P Φ (.code c n E h nx) (.ok x E1 h1 nx1)):rB P Φ (.code (.block id c) n E h nx) (JC id x E1 h1 nx1):=by
 refine wJ H1 n E h nx _ _ ?_
 show IZ P _ n E h nx id c=_
 unfold IZ
 rw [vE]
 cases x <;> rfl
theorem Rv (H1:rB P Φ (.code c n E h nx) (.ok x E1 h1 nx1)):rB P Φ (.code (.scope c) n E h nx) (RQ x E1 h1 nx1):=by
 refine wJ H1 n E h nx _ _ ?_
 show JA P _ n E h nx c=_
 unfold JA
 rw [vE]
 cases x <;> rfl
theorem Wz (H1:rB P Φ (.loop c n E h nx) r):rB P Φ (.code (.loop c) n E h nx) r:=wJ H1 n E h nx _ _ (vE _ _)
theorem Xa (H1:rB P Φ (.code c n E h nx) (.ok .normal E1 h1 nx1)) (H2:rB P Φ (.loop c n E1 h1 nx1) r):rB P Φ (.loop c n E h nx) r:=by
 have H:=step_loop (pr:=[]) (Bm H1 H2) c n E h nx
 have e:step P [] (Jb (.code c n E h nx) (.ok .normal E1 h1 nx1) (.loop c n E1 h1 nx1) r) (.loop c n E h nx)=r:=by
  show Pa P [] _ c n E h nx=_
  unfold Pa
  rw [Mo]
  exact Mp Cv _ _
 rw [e] at H
 exact H
theorem CF (hx:x≠.normal) (H1:rB P Φ (.code c n E h nx) (.ok x E1 h1 nx1)):rB P Φ (.loop c n E h nx) (.ok x E1 h1 nx1):=by
 have H:=step_loop (pr:=[]) (Ib H1) c n E h nx
 have e:step P [] (Mn (.code c n E h nx) (.ok x E1 h1 nx1)) (.loop c n E h nx)=.ok x E1 h1 nx1:=by
  show Pa P [] _ c n E h nx=_
  unfold Pa
  rw [vE]
  cases x <;> first | exact absurd rfl hx | rfl
 rw [e] at H
 exact H
end rules
theorem CG {cd:Cd} {c:Code} {n:Nat} (H:Wu P Φ cd c n) {ih:Cmd→Res} (hi:Rq P Φ ih):∀ (F:Nat) (E:Tr CV) (h:Tr CB) (nx:Nat),Hz (ND cd F ih E h nx) (fun x E' h' nx'=>rB P Φ (.loop c n E h nx) (.ok x E' h' nx'))
 | 0,E,h,nx=>.inl ⟨0,[],fun k=>rfl⟩
 | F+1,E,h,nx=>by
   show Hz (fun k=>cd.run ih E h nx (fun x E h nx=>match x with | .normal=>ND cd F ih E h nx k | x=>k x E h nx)) _
   rcases H ih hi E h nx with ⟨w,a,hb⟩ | ⟨x,E1,h1,nx1,hk,hd⟩
   · exact .inl ⟨w,a,fun k=>hb _⟩
   have pass:x≠.normal→Hz (fun k=>cd.run ih E h nx (fun x E h nx=>match x with | .normal=>ND cd F ih E h nx k | x=>k x E h nx)) (fun x E' h' nx'=>rB P Φ (.loop c n E h nx) (.ok x E' h' nx')):=fun hx =>
    .inr ⟨x,E1,h1,nx1,fun k=>(hk _).trans (by cases x <;> first | exact absurd rfl hx | rfl),CF hx hd⟩
   cases x with
   | normal =>
     rcases CG H hi F E1 h1 nx1 with ⟨w,a,hb⟩ | ⟨x2,E2,h2,nx2,hk2,hd2⟩
     · exact .inl ⟨w,a,fun k=>(hk _).trans (hb k)⟩
     · exact .inr ⟨x2,E2,h2,nx2,fun k=>(hk _).trans (hk2 k),Xa hd hd2⟩
   | _=>exact pass Cv
theorem CH (hpr:wI P Φ pr) (LF n:Nat) (c:Code):Wu P Φ (xN P pr LF n c) c n:=by
 induction c with
 | skip=>exact fun ih H E h nx=>.inr ⟨.normal,E,h,nx,fun k=>rfl,vC (pr:=[]) (wQ (P:=P) (Φ:=Φ)) .skip n E h nx⟩
 | label l=>exact fun ih H E h nx=>.inr ⟨.normal,E,h,nx,fun k=>rfl,vC (pr:=[]) (wQ (P:=P) (Φ:=Φ)) (.label l) n E h nx⟩
 | exit id=>exact fun ih H E h nx=>.inr ⟨.exit id,E,h,nx,fun k=>rfl,vC (pr:=[]) (wQ (P:=P) (Φ:=Φ)) (.exit id) n E h nx⟩
 | ret=>exact fun ih H E h nx=>.inr ⟨.ret,E,h,nx,fun k=>rfl,vC (pr:=[]) (wQ (P:=P) (Φ:=Φ)) .ret n E h nx⟩
 | goto l=>exact Bl hpr (.goto l) n
 | refuse s=>exact Bl hpr (.refuse s) n
 | rangeFunc g ps asg body _ _=>exact Bl hpr (.rangeFunc g ps asg body) n
 | region id ops draw =>
   show Wu P Φ (bif not draw && (ops.toList.all sA && Cu ops.toList) then ⟨fun ih E h nx k=>FZ (GA P pr n ops.toList) ih E h nx (fun E h nx=>k .normal E h nx)⟩ else bif draw && (P.follows .mixedOrders && Cu ops.toList) then (match Hl ops.toList with | some p=>⟨fun ih E h nx k=>(Ic P pr n ops.toList p).run ih [] E h nx (fun E h nx=>k .normal E h nx)⟩ | none=>Pn P pr (.region id ops draw) n) else Pn P pr (.region id ops draw) n) (.region id ops draw) n
   refine rE (fun d=>Wu P Φ d (.region id ops draw) n) (fun hb=>?_) fun _=>rE (fun d=>Wu P Φ d (.region id ops draw) n) (fun hb=>?_) fun _=>Bl hpr (.region id ops draw) n
   rotate_left
   · simp only [aA] at hb
     obtain ⟨hb1,hb2,hb3⟩:=hb
     obtain ⟨l⟩:=ops
     cases draw with
     | false=>cases hb1
     | true =>
       split
       · rename_i p hp
         intro ih H E h nx
         rcases Bn H l n p [] E h nx with ⟨w,a,hb⟩ | ⟨E2,h2,nx2,hk,hd⟩
         · exact .inl ⟨w,a,fun k=>hb _⟩
         exact .inr ⟨.normal,E2,h2,nx2,fun k=>hk _,Wy hb2 hp hd⟩
       exact Bl hpr (.region id ⟨l⟩ true) n
   simp only [aA] at hb
   obtain ⟨hb1,hb2,hb3⟩:=hb
   intro ih H E h nx
   obtain ⟨l⟩:=ops
   cases draw with
   | true=>cases hb1
   | false =>
     rcases Tp H l n l E h nx hb3 with ⟨w,a,hb⟩ | ⟨E2,h2,nx2,hk,hd⟩
     · exact .inl ⟨w,a,fun k=>hb _⟩
     · exact .inr ⟨.normal,E2,h2,nx2,fun k=>hk _,Pp hb2 hd⟩
 | seq a b iha ihb =>
   intro ih H E h nx
   show Hz (fun k=>(xN P pr LF n a).run ih E h nx (fun x E h nx=>match x with | .normal=>(xN P pr LF n b).run ih E h nx k | x=>k x E h nx)) _
   rcases iha ih H E h nx with ⟨w,ac,hb⟩ | ⟨x,E1,h1,nx1,hk,hd⟩
   · exact .inl ⟨w,ac,fun k=>hb _⟩
   · have pass:x≠.normal→Hz (fun k=>(xN P pr LF n a).run ih E h nx (fun x E h nx=>match x with | .normal=>(xN P pr LF n b).run ih E h nx k | x=>k x E h nx)) (fun x E' h' nx'=>rB P Φ (.code (.seq a b) n E h nx) (.ok x E' h' nx')):=fun hx =>
      .inr ⟨x,E1,h1,nx1,fun k=>(hk _).trans (by cases x <;> first | exact absurd rfl hx | rfl),CE hx hd⟩
     cases x with
     | normal =>
       rcases ihb ih H E1 h1 nx1 with ⟨w,ac,hb⟩ | ⟨x2,E2,h2,nx2,hk2,hd2⟩
       · exact .inl ⟨w,ac,fun k=>(hk _).trans (hb k)⟩
       · exact .inr ⟨x2,E2,h2,nx2,fun k=>(hk _).trans (hk2 k),CD hd hd2⟩
     | _=>exact pass Cv
 | cond o a b iha ihb =>
   intro ih H E h nx
   show Hz (fun k=>match (Mm o).run E with | some (.bool t)=>bif t then (xN P pr LF n a).run ih E h nx k else (xN P pr LF n b).run ih E h nx k | _=>.bad 1 []) _
   rw [uO]
   split
   · rename_i t ht
     cases t with
     | true =>
       rcases iha ih H E h nx with ⟨w,ac,hb⟩ | ⟨x2,E2,h2,nx2,hk2,hd2⟩
       · exact .inl ⟨w,ac,fun k=>hb k⟩
       · exact .inr ⟨x2,E2,h2,nx2,fun k=>hk2 k,Kp ht hd2⟩
     | false =>
       rcases ihb ih H E h nx with ⟨w,ac,hb⟩ | ⟨x2,E2,h2,nx2,hk2,hd2⟩
       · exact .inl ⟨w,ac,fun k=>hb k⟩
       exact .inr ⟨x2,E2,h2,nx2,fun k=>hk2 k,Kp ht hd2⟩
   · exact .inl ⟨1,[],fun k=>rfl⟩
 | block id c ihc =>
   intro ih H E h nx
   show Hz (fun k=>(xN P pr LF n c).run ih E h nx (fun x E h nx=>match x with | .exit id'=>bif Nat.beq id' id then k .normal E h nx else k (.exit id') E h nx | x=>k x E h nx)) _
   rcases ihc ih H E h nx with ⟨w,ac,hb⟩ | ⟨x,E1,h1,nx1,hk,hd⟩
   · exact .inl ⟨w,ac,fun k=>hb _⟩
   · have hr:=Ru (id:=id) hd
     cases x with
     | exit id' =>
       cases hbq:Nat.beq id' id with
       | true =>
         simp only [JC,hbq,eY] at hr
         exact .inr ⟨.normal,E1,h1,nx1,fun k=>(hk _).trans (by simp only [hbq,eY]),hr⟩
       | false =>
         simp only [JC,hbq,kL] at hr
         exact .inr ⟨.exit id',E1,h1,nx1,fun k=>(hk _).trans (by simp only [hbq,kL]),hr⟩
     | normal=>exact .inr ⟨_,E1,h1,nx1,fun k=>hk _,hr⟩
     | ret=>exact .inr ⟨_,E1,h1,nx1,fun k=>hk _,hr⟩
     | goto l=>exact .inr ⟨_,E1,h1,nx1,fun k=>hk _,hr⟩
     | panic ch=>exact .inr ⟨_,E1,h1,nx1,fun k=>hk _,hr⟩
     | outgrown=>exact .inr ⟨_,E1,h1,nx1,fun k=>hk _,hr⟩
 | scope c ihc =>
   intro ih H E h nx
   show Hz (fun k=>(xN P pr LF n c).run ih E h nx (fun x E h nx=>match x with | .normal=>k .normal E h nx | .ret=>k .ret E h nx | .exit id=>k (.exit id) E h nx | _=>.bad 22 [])) _
   rcases ihc ih H E h nx with ⟨w,ac,hb⟩ | ⟨x,E1,h1,nx1,hk,hd⟩
   · exact .inl ⟨w,ac,fun k=>hb _⟩
   · have hr:=Rv hd
     cases x with
     | normal=>exact .inr ⟨_,E1,h1,nx1,fun k=>hk _,hr⟩
     | ret=>exact .inr ⟨_,E1,h1,nx1,fun k=>hk _,hr⟩
     | exit id=>exact .inr ⟨_,E1,h1,nx1,fun k=>hk _,hr⟩
     | _=>exact .inl ⟨22,[],fun k=>hk _⟩
 | loop c ihc =>
   intro ih H E h nx
   show Hz (fun k=>ND (xN P pr LF n c) LF ih E h nx k) _
   rcases CG ihc H LF E h nx with ⟨w,ac,hb⟩ | ⟨x,E1,h1,nx1,hk,hd⟩
   · exact .inl ⟨w,ac,fun k=>hb k⟩
   exact .inr ⟨x,E1,h1,nx1,fun k=>hk k,Wz hd⟩
def JD (P:Program) (pr:sL) (LF:Nat) (ih:Cmd→Res):Cmd→Res
 | .code c n E h nx=>(xN P pr LF n c).run ih E h nx (fun x E h nx=>.ok x E h nx)
 | c=>ih c
theorem Pq (hpr:wI P Φ pr) (LF:Nat) {ih:Cmd→Res} (H:Rq P Φ ih):Rq P Φ (JD P pr LF ih):=fun c=>by
 cases c with
 | code c n E h nx =>
   show rB P Φ _ ((xN P pr LF n c).run ih E h nx (fun x E h nx=>.ok x E h nx))
   rcases CH hpr LF n c ih H E h nx with ⟨w,ac,hb⟩ | ⟨x,E1,h1,nx1,hk,hd⟩
   · rw [hb];exact yM _ _ _
   · rw [hk];exact hd
 | _=>exact H _
end
end Go.Sl.Ev
end
