/- uJ of the proof (part 2): what the rows' text needs of the texts that lead to it. -/
import Derived.Test.YtfdcckcadfhpeaaGreatDoorMMa
set_option linter.unusedVariables false
set_option linter.unusedSimpArgs false
set_option linter.unusedSectionVars false
set_option maxHeartbeats 4000000
set_option maxRecDepth 100000
namespace Go.Sl
open Go
structure R2 where
 a:Int
 b:Int
 deriving DecidableEq
instance:Inhabited R2:=⟨⟨0,0⟩⟩
instance:A0 R2:=⟨2,fun i=>[.int .i64 i.a,.int .i64 i.b],fun _=>rfl,fun _=>rfl⟩
structure R6 where
 a:Int
 b:Int
 c:Int
 d:Int
 e:Int
 f:Int
 deriving DecidableEq
instance:Inhabited R6:=⟨⟨0,0,0,0,0,0⟩⟩
instance:A0 R6:=⟨6,fun i=>[.int .i64 i.a,.int .i64 i.b,.int .i64 i.c,.int .i64 i.d,.int .i64 i.e,.int .i64 i.f],fun _=>rfl,fun _=>rfl⟩
section scope
variable {P:I6} {b:Frame} {a:Act} {k:List Item} {cs:List Frame} {w:I8} {Q:Exit→Act→I8→Prop} {F:Fence} {n:Nat}
theorem zB {c:Code}:step P (lone (b.atR a (.code (.scope c) :: k)) cs w)=.next (lone (b.atR a (.code c :: .inScope c :: k)) cs w):=
 step_lone_go (by simp [stepG,stepG.exec,Frame.atR])
theorem Uy {c:Code}:step P (lone (b.atR a (.inScope c :: k)) cs w)=.next (lone (b.atR a k) cs w):=
 step_lone_go (by simp [stepG,stepG.exec,Frame.atR])
def Lv (Q:Exit→Act→I8→Prop):Exit→Act→I8→Prop
 | .goto _,_,_=>False
 | e,a,w=>Q e a w
theorem Qz {c:Code} (h:c.wpIn F n P (Lv Q) a w):(Code.scope c).wpIn F n P Q a w:=by
 intro b k cs hro hb hr;have h0:(lone (b.atR a (.code (.scope c) :: k)) cs w).fenced P F:=oU hb hr U;obtain ⟨e,a₁,w₁,hq,harr⟩:=h b (.inScope c :: k) cs hro hb hr;cases e with
 | normal=>exact ⟨.normal,a₁,w₁,hq,.head h0 zB (StepsIn.trans harr (.one (oU hb hr U) Uy))⟩
 | exit id =>
   have hx:exitTo id (.inScope c :: k)=exitTo id k:=by simp [exitTo]
   exact ⟨.exit id,a₁,w₁,hq,fun k' hk=>.head h0 zB (harr.1 k' (by rw [hx];exact hk)),
    fun hr' hk=>let ⟨k₁,h1,h2⟩:=harr.2 hr' (by rw [hx];exact hk);⟨k₁,h1,.head h0 zB h2⟩⟩
 | goto l=>exact hq.elim
 | ret=>exact ⟨_,a₁,w₁,hq,.of_steps (.one h0 zB) harr⟩
 | panic ch=>exact ⟨_,a₁,w₁,hq,.of_steps (.one h0 zB) harr⟩
 | outgrown=>exact ⟨_,a₁,w₁,hq,.of_steps (.one h0 zB) harr⟩
end scope
section scopeS
variable {r:J0 Nat} {P:I6} {B:Bs} {S:St} {Q:Exit→Act→I8→Prop}
theorem Wc.scope {c:Code} (h:Wc r P c B S (Lv Q)):Wc r P (.scope c) B S Q:=fun a w hh=>Qz (h a w hh)
abbrev pH:=@Wc.scope
theorem MG (h:Ar Q .normal B S):Ar (Lv Q) .normal B S:=h
abbrev sS:=@MG
theorem MH (h:Ar Q .ret B S):Ar (Lv Q) .ret B S:=h
abbrev nG:=@MH
theorem Wa {id:Nat} (h:Ar Q (.exit id) B S):Ar (Lv Q) (.exit id) B S:=h
end scopeS
theorem Hr {H:Hp}:∀ {L:Hp},(∀ p∈L,H.get p.1=some p.2)→H.sub L
 | [],_=>trivial
 | (i,x) :: L,h=>⟨h (i,x) aQ,Hr fun p hp=>h p (aL _ hp)⟩
section
variable {P:I6} {ops:Array Oper} {rest:List Oper} {B:Bs} {e:B0} {D:List Deferred} {H H0:Hp} {G:A2} {K:Act→I8→Prop}
 {ty:I9} {pos:String} {after:Array Edge} {d:Nat} {f:Nat} {listed:Array Bool}
theorem Lw {Q:Exit→Act→I8→Prop} {x:Exit} (t:Nat) (o:Obj) (h:Ar Q x B ⟨e,D,(t,none,o) :: H,G⟩):Ar Q x B ⟨e,D,H,G⟩:=fun a w hh=>h a w (hh.noBlock t o)
theorem Ra {o:Op} {j:Nat} {want:Bool} {t:Nat} (hj:(ops[j]?).bind (·.dst)=some t) (he:e.get t=some undef) (hn:Nat.ble (d+1) B.n=true)
 (h:Wl P ops rest B ⟨(d,undef) :: e,D,H,G⟩ K):Wl P ops (⟨some d,o,ty,pos,after,some (j,want)⟩ :: rest) B ⟨e,D,H,G⟩ K:=by
 intro a w hh;unfold uG;have hy:yielded ops a.tmps j=none:=by simp [yielded,hj,hh.env t _ he,undef]
 rw [aC (by simp [Region.wanted,hy])];exact h _ _ (hh.put hn undef)
end
def Hp.pick (H:Hp):Nat→List Nat→Hp
 | _,[]=>[]
 | i,t :: ts=>match H.get t with | some x=>(i,x) :: Hp.pick H (i+1) ts | none=>Hp.pick H (i+1) ts
theorem Nz (H:Hp):∀ (ts:List Nat) (i j:Nat) (x:J0 Nat×Obj),(H.pick i ts).get j=some x→i≤j∧∃ t,ts[j - i]?=some t∧H.get t=some x
 | [],i,j,x,h=>by simp [Hp.pick,Hp.get] at h
 | t :: ts,i,j,x,h=>by
   unfold Hp.pick at h;have rec':(H.pick (i+1) ts).get j=some x→i≤j∧∃ t',(t :: ts)[j - i]?=some t'∧H.get t'=some x:=fun h=>by
    obtain ⟨h1,t',h2,h3⟩:=Nz H ts (i+1) j x h;refine ⟨by omega,t',?_,h3⟩;rw [show j - i=(j - (i+1))+1 by omega];simpa using h2
   split at h
   · rename_i y hy;have h':Hp.get ((i,y) :: H.pick (i+1) ts) j=some x:=h;rw [bF] at h';split at h'
     · rename_i e;subst e;cases h';exact ⟨aH _,t,by simp,hy⟩
     exact rec' h'
   exact rec' h
theorem A5.pick {B:Bs} {e:B0} {D:List Deferred} {H:Hp} {G:A2} {a:Act} {w:I8} (hh:A5 B ⟨e,D,H,G⟩ a w) {ts:List Nat} (hn:ts.Nodup):A5 B ⟨e,D,H.pick 0 ts,G⟩ a w:=by
 have key:∀ t x,(H.pick 0 ts).get t=some x→∃ t',ts[t]?=some t'∧H.get t'=some x:=fun t x hx=>by
  obtain ⟨_,t',h1,h2⟩:=Nz H ts 0 t x hx;exact ⟨t',by simpa using h1,h2⟩
 refine ⟨hh.size,hh.defers,hh.env,⟨?_,?_,hh.mem.imm,?_⟩,hh.upd,?_,hh.le,hh.new⟩
 · intro t b o hx;obtain ⟨t',_,h2⟩:=key _ _ hx;exact hh.mem.own _ b o h2
 · intro t u b o o' hx hy;obtain ⟨t',h1,h2⟩:=key _ _ hx;obtain ⟨u',h3,h4⟩:=key _ _ hy;have:=hh.mem.one _ _ b _ _ h2 h4;subst this;obtain ⟨h5,h6⟩:=aW.1 h1;obtain ⟨h7,h8⟩:=aW.1 h3;rcases Nat.lt_trichotomy t u with h | h | h
   · exact absurd (h6.trans h8.symm) (List.pairwise_iff_getElem.1 hn t u h5 h7 h)
   · exact h
   exact absurd (h8.trans h6.symm) (List.pairwise_iff_getElem.1 hn u t h7 h5 h)
 · intro t b o hx;obtain ⟨t',_,h2⟩:=key _ _ hx;exact hh.mem.off _ b o h2
 intro t b o hx;obtain ⟨t',_,h2⟩:=key _ _ hx;exact hh.mine _ b o h2
section
variable {P:I6} {ops:Array Oper} {rest:List Oper} {B:Bs} {e:B0} {D:List Deferred} {H H0:Hp} {G:A2} {K:Act→I8→Prop}
 {ty:I9} {pos:String} {after:Array Edge} {d:Nat} {f:Nat} {listed:Array Bool}
theorem Ar.pick {Q:Exit→Act→I8→Prop} {x:Exit} (ts:List Nat) (hn:ts.Nodup) (h:Ar Q x B ⟨e,D,H.pick 0 ts,G⟩):Ar Q x B ⟨e,D,H,G⟩:=fun a w hh=>h a w (hh.pick hn)
abbrev lW:=@Ar.pick
theorem Hp.sub_self:∀ (i:Nat) (ts:List Nat),(H.pick i ts).sub (H.pick i ts):=fun i ts=>by
 refine Hr fun p hp=>?_;have key:∀ (ts:List Nat) (i:Nat) (p:Nat×J0 Nat×Obj),p∈H.pick i ts→i≤p.1∧(H.pick i ts).get p.1=some p.2:=by
  intro ts;induction ts with
  | nil=>intro i p hp;simp [Hp.pick] at hp
  | cons t ts ih =>
    intro i p hp;unfold Hp.pick at hp ⊢;split
    · rename_i x hx;rw [hx] at hp;rcases dD.1 hp with rfl | hp
      · exact ⟨aH _,by show Hp.get ((i,x) :: _) i=_;rw [bF,aE rfl]⟩
      obtain ⟨h1,h2⟩:=ih (i+1) p hp;exact ⟨by omega,by show Hp.get ((i,x) :: _) p.1=_;rw [bF,aC (by omega)];exact h2⟩
    rename_i hx;rw [hx] at hp;obtain ⟨h1,h2⟩:=ih (i+1) p hp;exact ⟨by omega,h2⟩
 exact (key ts i p hp).2
abbrev lI:=@Hp.sub_self
def ck {ι:Type} (B:Bs) (I:ι→St) (φ:ι→Prop):Act→I8→Prop:=fun a w=>∃ j,φ j∧A5 B (I j) a w
theorem WW {ι:Type} {r:J0 Nat} {x y:Code} {Q:Exit→Act→I8→Prop} (I:ι→B0×Hp) (φ:ι→Prop)
 (h1:Wc r P x B ⟨e,D,H,G⟩ (Exit.then (ck B (fun i=>⟨(I i).1,D,(I i).2,G⟩) φ) Q)) (h2:∀ i,φ i→Wc r P y B ⟨(I i).1,D,(I i).2,G⟩ Q):Wc r P (.seq x y) B ⟨e,D,H,G⟩ Q:=by
 refine dG fun a w hh b k cs hro hb hr=>?_;obtain ⟨ex,a',w',hq,ha⟩:=h1 a w hh b k cs hro hb hr;refine ⟨ex,a',w',?_,ha⟩;cases ex with
 | normal=>obtain ⟨j,hj,hI⟩:=hq;exact h2 j hj a' w' hI
 | exit id=>exact hq
 | goto l=>exact hq
 | ret=>exact hq
 | panic ch=>exact hq
 | outgrown=>exact hq
abbrev rR:=@WW
theorem WX {ι:Type} {I:ι→St} {φ:ι→Prop} {Q:Exit→Act→I8→Prop} (j:ι) (hφ:φ j)
 (hI:I j=⟨(I j).e,D,(I j).H,G⟩) (he:e.sub (I j).e) (hH:H.sub (I j).H):Ar (Exit.then (ck B I φ) Q) .normal B ⟨e,D,H,G⟩:=
 fun a w hh=>⟨j,hφ,by rw [hI];exact hh.sub he hH⟩
abbrev pC:=@WX
def GR (H:Hp) (Gx:A2):Prop:=∀ t b o,H.get t=some (some b,o)→Gx b=some o
theorem B3.lend {H:Hp} {G:A2} {w:I8} (h:B3 H G w):∃ Gx:A2,G.le Gx∧GR H Gx∧B3 [] Gx w∧(∀ b,Gx b≠none→G b=none→∃ t o,H.get t=some (some b,o)):=by
 classical
 refine ⟨fun b=>if hx:∃ o,∃ t,H.get t=some (some b,o) then some (Classical.choose hx) else G b,?_,?_,⟨?_,?_,?_,?_⟩,?_⟩
 · intro b o hb;have hn:¬∃ o,∃ t,H.get t=some (some b,o):=fun ⟨o',t,ht⟩=>by rw [h.off t b o' ht] at hb;cases hb
   simp only [hn,dif_neg,rP];exact hb
 · intro t b o ht;have hx:∃ o,∃ t,H.get t=some (some b,o):=⟨o,t,ht⟩
   simp only [hx,dif_pos];obtain ⟨t',ht'⟩:=iB hx;have:=h.one _ _ b _ _ ht ht';subst this;rw [ht] at ht';simp only [bU,eI,true_and] at ht';rw [←ht']
 · intro t b o hx;simp [Hp.get] at hx
 · intro t t' b o o' hx;simp [Hp.get] at hx
 · intro b o hb;try simp only at hb
   split at hb
   · rename_i hx;obtain ⟨t',ht'⟩:=iB hx;cases hb;exact h.own t' b _ ht'
   exact h.imm b o hb
 · intro t b o hx;simp [Hp.get] at hx
 intro b hb hg;try simp only at hb
 split at hb
 · rename_i hx;exact ⟨_,_,(iB hx).choose_spec⟩
 exact absurd hg hb
theorem Arr.own {α:Type} [A0 α] {Gx:A2} {a:J0 Addr} {c:Nat} {E:I9} {xs:List α} {junk:List Value} (hb:GR H Gx) (t:Nat) (ht:H.get t=some (a.map (·.block),Row E xs junk)) (ho:A3 a c xs junk):Arr Gx a xs:=by
 rcases ho with ⟨rfl,rfl,rfl,_⟩ | ⟨b,rfl,_⟩
 · exact fG Gx
 exact Yx (E:=E) (junk:=junk) (hb t b _ ht)
abbrev gK:=@Arr.own
theorem QJ {fn:FuncId} {xs:Array I7} {ats:Array I9} {vs:List Value} {post:A2→Value→A2→Hp→Prop} (k:Nat)
 (hn:Nat.ble (d+1) B.n=true) (hf:vF P fn) (hx:e.evs xs.toList=some vs)
 (hF:∀ Gx,G.le Gx→GR H Gx→Does P fn vs Gx [] (post Gx))
 (h:∀ v Gx G' Ho,G.le Gx→post Gx v G' Ho→Wl P ops rest B ⟨(d,v) :: e,D,Ho.shift k++H,G⟩ K) :
 Wl P ops (⟨some d,.call { callee:=.value (.func fn),args:=xs,argTypes:=ats },ty,pos,after,none⟩ :: rest) B ⟨e,D,H,G⟩ K:=by
 intro a w hh;obtain ⟨f,h1,h2,h3⟩:=hf;unfold uG;rw [aE (by simp [Region.wanted])];unfold An;have hrun:(execOp a.eval ⟨some d,.call { callee:=.value (.func fn),args:=xs,argTypes:=ats },ty,pos,after,none⟩).run P w=.ok (.enter fn vs.toArray) w:=by
  simp [execOp,resolve,Deferred.ofValue,invoke,Act.eval,hh.args hx,xV w _ h1 h2 h3]
 rw [hrun];obtain ⟨Gx,g1,g2,g3,_⟩:=hh.mem.lend;refine (hF Gx g1 g2 w g3).mono fun x w' ⟨v,G',Ho,q1,q2,q3,q4,q5,q6,q7⟩=>⟨v,q1,?_⟩
 refine h v Gx G' Ho g1 q7 _ _ (A5.put ?_ hn v);have hno:∀ b,¬Hp.has [] b:=fun b ⟨t,o,hx⟩=>by simp [Hp.get] at hx
 have hup:D9 (fun _=>False) w w':=q4.mono (fun k _ hk=>hno k hk);have hg:=hh.grow hup;have hfr:∀ t b o,Ho.get t=some (some b,o)→w.heap.size≤b:=fun t b o hx=>(q6 t b o hx).resolve_right (hno b);have hsplit:∀ i b o,(Ho.shift k++H).get i=some (some b,o)→(k≤i∧Ho.get (i - k)=some (some b,o))∨H.get i=some (some b,o):=by
  intro i b o hx;rw [eL,fU] at hx;by_cases hi:k≤i
  · rw [aE hi] at hx;cases hgg:Ho.get (i - k) with
    | some x=>rw [hgg] at hx;exact .inl ⟨hi,by simpa using hx⟩
    | none=>rw [hgg] at hx;simp only [iH] at hx;exact .inr hx
  rw [aC hi] at hx;simp only [iH] at hx;exact .inr hx
 refine ⟨hg.size,hg.defers,hg.env,⟨?_,?_,hg.mem.imm,?_⟩,hg.upd,?_,hg.le,hg.new⟩
 · intro i b o hx;rcases hsplit i b o hx with ⟨_,h'⟩ | h'
   · exact q2.own _ b o h'
   exact hg.mem.own i b o h'
 · intro i j b o o' hx hy;rcases hsplit i b o hx with ⟨hi,h'⟩ | h' <;> rcases hsplit j b o' hy with ⟨hj,h''⟩ | h''
   · have:=q2.one _ _ b _ _ h' h'';omega
   · have:=hfr _ b o h';have h4:b<w.heap.size:=hh.mem.lt h'';omega
   · have:=hfr _ b o' h'';have h4:b<w.heap.size:=hh.mem.lt h';omega
   exact hg.mem.one _ _ b _ _ h' h''
 · intro i b o hx;rcases hsplit i b o hx with ⟨_,h'⟩ | h'
   · have hb:=hfr _ b o h';cases hgb:G b with
     | none=>exact hgb
     | some y=>have:b<w.heap.size:=hh.mem.ltG hgb;omega
   exact hg.mem.off i b o h'
 intro i b o hx;rcases hsplit i b o hx with ⟨_,h'⟩ | h'
 · exact .inl (bP hh.upd.size (hfr _ b o h'))
 exact hh.mine i b o h'
abbrev jM:=@QJ
theorem QK {fn:FuncId} {xs:Array I7} {ats:Array I9} {vs:List Value} {Hi:Hp} {q:Value→Prop} (k:Nat)
 (hn:Nat.ble (d+1) B.n=true) (hf:vF P fn) (hx:e.evs xs.toList=some vs)
 (hF:Does P fn vs G Hi (fun v G' Ho=>q v∧G'=G∧Ho=Hi)) (hHi:∀ t x,Hi.get t=some x→H.get (k+t)=some x)
 (h:∀ v,q v→Wl P ops rest B ⟨(d,v) :: e,D,H,G⟩ K) :
 Wl P ops (⟨some d,.call { callee:=.value (.func fn),args:=xs,argTypes:=ats },ty,pos,after,none⟩ :: rest) B ⟨e,D,H,G⟩ K:=by
 refine fF k hn hf hx hF hHi fun v G' Ho _ ⟨h1,h2,h3⟩=>?_;subst h2 h3;intro a w hh;refine h v h1 a w (hh.weaken (fun _ _ h=>h) (fun t x hx=>?_));rw [eL,fU];by_cases hk:k≤t
 · rw [aE hk];cases hg:Hp.get Ho (t - k) with
   | some y =>
     have:=hHi _ _ hg;rw [show k+(t - k)=t by omega,hx] at this;simpa using this.symm
   | none =>
     simp only [iH];rw [eL];cases hkl:(Hp.kill k Ho).get t with
     | none=>simpa using hx
     | some y =>
       exfalso;have key:∀ (L:Hp),L.get (t - k)=none→(Hp.kill k L).get t=none:=by
        intro L;induction L with
        | nil=>intro _;rfl
        | cons z L ih =>
          obtain ⟨j,z⟩:=z;intro hz;rw [bF] at hz;show Hp.get ((k+j,none,default) :: Hp.kill k L) t=none;rw [bF];split at hz
          · cases hz
          rename_i hne;rw [aC (by omega)];exact ih hz
       rw [key Ho hg] at hkl;cases hkl
 rw [aC hk];simp only [iH];rw [eL];cases hkl:(Hp.kill k Ho).get t with
 | none=>simpa using hx
 | some y =>
   exfalso;have key:∀ (L:Hp),(Hp.kill k L).get t=none:=by
    intro L;induction L with
    | nil=>rfl
    | cons z L ih =>
      obtain ⟨j,z⟩:=z;show Hp.get ((k+j,none,default) :: Hp.kill k L) t=none;rw [bF,aC (by omega)];exact ih
   rw [key Ho] at hkl;cases hkl
theorem QL {fn:FuncId} {xs:Array I7} {ats:Array I9} {vs:List Value} {Hi:Hp} {r:Value} (k:Nat)
 (hn:Nat.ble (d+1) B.n=true) (hf:vF P fn) (hx:e.evs xs.toList=some vs)
 (hF:Does P fn vs G Hi (fun v G' Ho=>v=r∧G'=G∧Ho=Hi)) (hHi:∀ t x,Hi.get t=some x→H.get (k+t)=some x)
 (h:Wl P ops rest B ⟨(d,r) :: e,D,H,G⟩ K) :
 Wl P ops (⟨some d,.call { callee:=.value (.func fn),args:=xs,argTypes:=ats },ty,pos,after,none⟩ :: rest) B ⟨e,D,H,G⟩ K:=
 QK k hn hf hx hF hHi (fun v hv=>hv▸h)
abbrev dS:=@QL
def JD (H:Hp) (k:Nat):Hp→Prop
 | []=>True
 | (t,x) :: L=>H.get (k+t)=some x∧JD H k L
theorem tB {k:Nat}:∀ {Hi:Hp},JD H k Hi→∀ t x,Hi.get t=some x→H.get (k+t)=some x
 | [],_,t,x,h=>by simp [Hp.get] at h
 | (j,y) :: L,⟨h1,h2⟩,t,x,h=>by
   rw [bF] at h;split at h
   · rename_i hj;subst hj;cases h;exact h1
   exact tB h2 t x h
section own
variable {α:Type} [A0 α] {a:J0 Addr} {c:Nat} {xs:List α} {junk:List Value}
theorem A3.addr (h:A3 a c xs junk) (hn:0<xs.length):a=some ⟨ab a,0,none⟩:=by
 rcases h with ⟨_,h,_⟩ | ⟨b,rfl,_⟩
 · subst h;simp at hn
 rfl
theorem A3.blk (h:A3 a c xs junk) (hn:0<xs.length):a.map (·.block)=some (ab a):=by rw [h.addr hn];rfl
theorem A3.le (h:A3 a c xs junk):xs.length≤c:=by
 rcases h with ⟨_,rfl,_,rfl⟩ | ⟨b,_,_,h,_⟩
 · simp
 exact h
theorem Uz {T:I9} {x i:I7} {k:IntKind} {m:Int} {E:Nat} (hT:tR P T E (A0.sz α)) (hx:e.ev x=some (.slice a xs.length c)) (hi:e.ev i=some (.int k m)) (ho:A3 a c xs junk) (hb:0≤m∧m<xs.length) :
 Qy P (.indexAddr T x i) ty e H G (.pointer (some ⟨ab a,0+m.toNat*A0.sz α,none⟩)):=by
 have ha:=ho.addr sU;rw [ha] at hx;exact oB hT hx hi hb
abbrev dM:=@Uz
theorem QM [Inhabited α] {T:I9} {x:I7} {E:I9} {m:Int} {v:Value} (t k:Nat) (h1:wZ P T=true) (hx:e.ev x=some (.pointer (some ⟨ab a,0+m.toNat*A0.sz α+k,none⟩)))
 (ht:H.get t=some (a.map (·.block),Row E xs junk)) (ho:A3 a c xs junk) (hm:0≤m∧m<xs.length) (hk:Nat.ble (k+1) (A0.sz α)=true) (hv:(A0.enc (xs[m.toNat]?.getD default))[k]?=some v):Qy P (.load T x) ty e H G v:=by
 rw [ho.blk sU] at ht;exact QG t k h1 hx ht hm hk hv
abbrev eX:=@QM
theorem MI [Inhabited α] {T:I9} {x:I7} {E:I9} {m:Int} (t:Nat) (h1:yH P T (A0.sz α)=true) (hx:e.ev x=some (.pointer (some ⟨ab a,0+m.toNat*A0.sz α,none⟩)))
 (ht:H.get t=some (a.map (·.block),Row E xs junk)) (ho:A3 a c xs junk) (hm:0≤m∧m<xs.length):Qy P (.load T x) ty e H G (.agg (A0.enc (xs[m.toNat]?.getD default)).toArray):=by
 rw [ho.blk sU] at ht;exact Vx t h1 hx ht hm
theorem WY {T:I9} {x y:I7} {E:I9} {m:Int} {v:Value} {z:α} (t:Nat) (hs:(P.info? T).map (·.size)=some (A0.sz α))
 (hx:e.ev x=some (.pointer (some ⟨ab a,0+m.toNat*A0.sz α,none⟩))) (hy:e.ev y=some v) (ht:H.get t=some (a.map (·.block),Row E xs junk)) (ho:A3 a c xs junk) (hm:0≤m∧m<xs.length) (hv:v.cells=(A0.enc z).toArray)
 (h:A3 a c (xs.set m.toNat z) junk→Wl P ops rest B ⟨e,D,(t,a.map (·.block),Row E (xs.set m.toNat z) junk) :: H,G⟩ K):Wl P ops (⟨none,.store T x y,ty,pos,after,none⟩ :: rest) B ⟨e,D,H,G⟩ K:=by
 have h':=h (by
  rcases ho with ⟨_,h,_⟩ | ⟨b,h1,h2,h3,h4⟩
  · subst h;simp at hm;omega
  exact .inr ⟨b,h1,by simpa using h2,by simpa using h3,h4⟩)
 have hb:=ho.blk sU;rw [hb] at ht h';exact WR t hs hx hy hv ht hm h'
abbrev dJ:=@WY
theorem Va {sz:Nat} (ho:A3 a c xs junk):B7 a c 0 sz=a:=by
 rcases ho with ⟨rfl,_⟩ | ⟨b,rfl,_⟩
 · unfold B7;split <;> rfl
 unfold B7;split <;> simp [add_lit]
theorem subA_zero {n sz c:Nat} {cs:List Value} (h:H9 G a n sz cs):B7 a c 0 sz=a:=by
 unfold B7;split
 · rfl
 cases a <;> simp [Addr.add]
end own
end
section
variable {P:I6} {ops:Array Oper} {rest:List Oper} {B:Bs} {e:B0} {D:List Deferred} {H:Hp} {G:A2} {K:Act→I8→Prop} {ty:I9} {pos:String} {after:Array Edge}
end
def lrec (q:Loop) (s:LoopState) (p:J0 Code):Obj:=.loop { q with state:=s,pending:=p }
def C5 (P:I6) (l:Nat) (vs:List Value) (G:A2) (Hi:Hp) (post:Value→A2→Hp→Prop):Prop:=
 ∀ w,B3 Hi G w→∃ f tmps assign body,(Instr.yield l vs.toArray).run P w=.ok (.round l f tmps assign body) w∧RoundIn Fence.wide 0 P l f tmps assign body w (B6 G Hi w post)
def Jr {β:Type} (P:I6) (f:FuncId) (caps:List Value) (G:A2) (enc:β→List Value) (xs:List β):Prop:=
 ∀ (ι:Type) (J:ι→Hp) (inv:Nat→ι→Prop) (stop:ι→Prop) (l:Nat) (i0:ι),inv 0 i0→
  (∀ k x i,xs[k]?=some x→inv k i→C5 P l (enc x) G (J i) (fun v G' Ho=>G'=G∧∃ j,Ho=J j∧((v=.bool true∧inv (k+1) j)∨(v=.bool false∧stop j))))→
  Does P f (.func (.yield l) #[] #[] :: caps) G (J i0) (fun v G' Ho=>G'=G∧∃ j,Ho=J j∧(inv xs.length j∨stop j))
def By (K:Nat):Hp→Bool
 | []=>true
 | (t,_) :: h=>Nat.ble (t+1) K && By K h
theorem Js {K:Nat}:∀ {A:Hp},By K A=true→∀ t,K≤t→A.get t=none
 | [],_,t,_=>rfl
 | (i,x) :: A,h,t,ht=>by
   simp only [By,aF] at h;have h1:=bD h.1;rw [bF,aC (by omega)];exact Js h.2 t ht
abbrev qB:=@Js
section
variable {P:I6} {ops:Array Oper} {rest:List Oper} {B:Bs} {e:B0} {D:List Deferred} {H:Hp} {G:A2} {K:Act→I8→Prop}
 {ty:I9} {pos:String} {after:Array Edge} {d:Nat}
theorem Fs (k:Nat):∀ (L:Hp) (t:Nat),t<k→(Hp.kill k L).get t=none
 | [],_,_=>rfl
 | (j,z) :: L,t,h=>by
   show Hp.get ((k+j,none,default) :: Hp.kill k L) t=none;rw [bF,aC (by omega)];exact Fs k L t h
theorem A5.tail {a:Act} {w:I8} (k:Nat) {A Hi Ho:Hp} {G':A2} (hA:By k A=true) (hh:A5 B ⟨e,D,Ho.shift k++(Hi.kill k++(A++Hi.shift k)),G'⟩ a w):A5 B ⟨e,D,A++Ho.shift k,G'⟩ a w:=by
 refine hh.weaken (fun _ _ h=>h) fun t x hx=>?_;rw [eL] at hx;rw [eL,eL,eL];rcases aN t k with ht | ht
 · have h1:(Ho.shift k).get t=none:=by rw [fU,aC (by omega)]
   have h2:(Hi.shift k).get t=none:=by rw [fU,aC (by omega)]
   have h3:(Hi.kill k).get t=none:=Fs k Hi t ht;rw [h1,h2,h3];rw [h1] at hx;simpa using hx
 rw [qB hA t ht] at hx;simp only [iH] at hx;rw [hx];rfl
theorem Wl.yield {g:I7} {l:Nat} {xs:Array I7} {ats:Array I9} {vs:List Value} {A Hi:Hp} {post:Value→A2→Hp→Prop} (k:Nat)
 (hn:Nat.ble (d+1) B.n=true) (hg:e.ev g=some (.func (.yield l) #[] #[])) (hx:e.evs xs.toList=some vs) (hH:H=A++Hi.shift k) (hA:By k A=true)
 (hF:C5 P l vs G Hi post) (h:∀ v G' Ho,G.le G'→post v G' Ho→Wl P ops rest B ⟨(d,v) :: e,D,A++Ho.shift k,G'⟩ K) :
 Wl P ops (⟨some d,.call { callee:=.value g,args:=xs,argTypes:=ats },ty,pos,after,none⟩ :: rest) B ⟨e,D,H,G⟩ K:=by
 intro a w hh;subst hH;unfold uG;rw [aE (by simp [Region.wanted])];unfold An;have hHi:∀ t x,Hi.get t=some x→Hp.get (A++Hi.shift k) (k+t)=some x:=fun t x hx=>by
  rw [eL,qB hA (k+t) sU,iH,fU,aE (by omega),Nat.add_sub_cancel_left];exact hx
 have hw:B3 Hi G w:=⟨fun t b o x=>hh.mem.own _ b o (hHi _ _ x),fun t t' b o o' x y=>by have:=hh.mem.one _ _ b _ _ (hHi _ _ x) (hHi _ _ y);omega,hh.mem.imm,fun t b o x=>hh.mem.off _ b o (hHi _ _ x)⟩
 obtain ⟨f,tmps,assign,body,hy,hR⟩:=hF w hw;have hrun:(execOp a.eval ⟨some d,.call { callee:=.value g,args:=xs,argTypes:=ats },ty,pos,after,none⟩).run P w=.ok (.round l f tmps assign body) w:=by
  simp [execOp,resolve,Deferred.ofValue,invoke,hh.eval hg,hh.args hx,hy]
 rw [hrun];refine hR.mono fun x w' ⟨v,G',Ho,h1,h2,h3,h4,h5,h6,h7⟩=>⟨v,h1,?_⟩
 exact h v G' Ho h3 h7 _ _ (((hh.called k hHi h2 h3 h4 h5 h6).tail k hA).put hn v)
def Hp.tl (H:Hp) (k:Nat) (T:Hp):Prop:=∀ t x,(T.shift k).get t=some x→H.get t=some x
theorem GS (k:Nat) (T:Hp):Hp.tl (T.shift k) k T:=fun _ _ h=>h
theorem GU {k t:Nat} {x:J0 Nat×Obj} {H T:Hp} (ht:Nat.ble (t+1) k=true) (h:Hp.tl H k T):Hp.tl ((t,x) :: H) k T:=fun i y hi=>by
 have hk:k≤i:=by
  rcases aN i k with h1 | h1
  · rw [fU,aC (by omega)] at hi;cases hi
  exact h1
 have:=bD ht;rw [bF,aC (by omega)];exact h i y hi
theorem A5.cutT {a:Act} {w:I8} {e':B0} {A T:Hp} {k:Nat} (hh:A5 B ⟨e,D,H,G⟩ a w) (he:e.sub e') (hH:H.sub A) (ht:H.tl k T):A5 B ⟨e',D,A++T.shift k,G⟩ a w:=by
 refine hh.weaken (Fi he) fun t x hx=>?_;rw [eL] at hx;cases hA:A.get t with
 | some y =>
   rw [hA] at hx;have hx':y=x:=by simpa using hx
   subst hx';exact kK hH t y hA
 | none=>rw [hA] at hx;exact ht t x (by simpa using hx)
theorem Lx {g:I7} {l:Nat} {xs:Array I7} {ats:Array I9} {vs:List Value} {A Hi:Hp} {post:Value→A2→Hp→Prop} (k:Nat)
 (hn:Nat.ble (d+1) B.n=true) (hg:e.ev g=some (.func (.yield l) #[] #[])) (hx:e.evs xs.toList=some vs) (hH:H.sub A) (ht:H.tl k Hi) (hA:By k A=true)
 (hF:C5 P l vs G Hi post) (h:∀ v G' Ho,G.le G'→post v G' Ho→Wl P ops rest B ⟨(d,v) :: e,D,A++Ho.shift k,G'⟩ K) :
 Wl P ops (⟨some d,.call { callee:=.value g,args:=xs,argTypes:=ats },ty,pos,after,none⟩ :: rest) B ⟨e,D,H,G⟩ K:=by
 intro a w hh;refine Wl.yield (H:=A++Hi.shift k) k hn hg hx U hA hF h a w (hh.weaken (fun _ _ h=>h) (fun t x hx=>?_));rw [eL] at hx;cases hA:A.get t with
 | some y =>
   rw [hA] at hx;have hx':y=x:=by simpa using hx
   subst hx';exact kK hH t y hA
 | none=>rw [hA] at hx;exact ht t x (by simpa using hx)
theorem BX {ι:Type} {r:J0 Nat} {c:Code} {Q:Exit→Act→I8→Prop} (k:Nat) (I:ι→B0×Hp) (T:ι→Hp) (φ:ι→Prop) (μ:ι→Nat) (i0:ι) (h0:φ i0)
 (he:e.sub (I i0).1) (hH:H.sub (I i0).2) (ht:H.tl k (T i0))
 (hb:∀ i,φ i→Wc r P c B ⟨(I i).1,D,(I i).2++(T i).shift k,G⟩ (Exit.then (Fj B (fun i=>⟨(I i).1,D,(I i).2++(T i).shift k,G⟩) φ μ (μ i)) Q)):Wc r P (.loop c) B ⟨e,D,H,G⟩ Q:=
 Jm (fun i=>⟨(I i).1,D,(I i).2++(T i).shift k,G⟩) φ μ i0 h0 (fun _ _ h=>h.cutT he hH ht) hb
theorem MJ {ι:Type} {I:ι→B0×Hp} {T:ι→Hp} {k:Nat} {φ:ι→Prop} {μ:ι→Nat} {m:Nat} {Q:Exit→Act→I8→Prop} (j:ι) (hφ:φ j) (hμ:μ j<m)
 (he:e.sub (I j).1) (hH:H.sub (I j).2) (ht:H.tl k (T j)):Ar (Exit.then (Fj B (fun i=>⟨(I i).1,D,(I i).2++(T i).shift k,G⟩) φ μ m) Q) .normal B ⟨e,D,H,G⟩:=
 fun a w hh=>⟨j,hφ,hμ,hh.cutT he hH ht⟩
theorem Ph {r:J0 Nat} {c:Code} {Q:Exit→Act→I8→Prop} (k:Nat) (h:Wc r P c B ⟨e,D,H.shift k,G⟩ Q):Wc r P c B ⟨e,D,H,G⟩ Q:=by
 intro a w hh;have hg:∀ t x,(H.shift k).get t=some x→k≤t∧H.get (t - k)=some x:=fun t x hx=>by
  rw [fU] at hx;split at hx
  · rename_i h1;exact ⟨h1,hx⟩
  cases hx
 refine h a w ⟨hh.size,hh.defers,hh.env,⟨?_,?_,hh.mem.imm,?_⟩,hh.upd,?_,hh.le,hh.new⟩
 · intro t b o hx;exact hh.mem.own _ b o (hg _ _ hx).2
 · intro t t' b o o' hx hy;have h1:=hg _ _ hx;have h2:=hg _ _ hy;have:=hh.mem.one _ _ b _ _ h1.2 h2.2;omega
 · intro t b o hx;exact hh.mem.off _ b o (hg _ _ hx).2
 intro t b o hx;exact hh.mine _ b o (hg _ _ hx).2
theorem cl {H L:Hp} (h:H.sub L):∀ t x,L.get t=some x→H.get t=some x:=kK h
abbrev oM:=@cl
theorem Im {H A T:Hp} {k:Nat} (h:H.sub A) (ht:H.tl k T):∀ t x,Hp.get (A++T.shift k) t=some x→H.get t=some x:=fun t x hx=>by
 rw [eL] at hx;cases hA:A.get t with
 | some y =>
   rw [hA] at hx;have hx':y=x:=by simpa using hx
   subst hx';exact kK h t y hA
 | none=>rw [hA] at hx;exact ht t x (by simpa using hx)
theorem BY {H L:Hp} {i:Nat} {y:J0 Nat×Obj} (h:H.get i=some y) (hL:∀ t x,L.get t=some x→H.get t=some x):∀ t x,Hp.get ((i,y) :: L) t=some x→H.get t=some x:=fun t x hx=>by
 rw [bF] at hx;split at hx
 · rename_i he;subst he;cases hx;exact h
 exact hL t x hx
abbrev qR:=@BY
theorem BZ {A T:Hp} {k t:Nat} (h:A.get t=none) (hk:Nat.ble (t+1) k=true):Hp.get (A++T.shift k) t=none:=by
 have:=bD hk;rw [eL,h,iH,fU,aC (by omega)]
theorem WZ {fn:Func} {G0:A2} {Hi Ho:Hp} {w0:I8} {post:Value→A2→Hp→Prop} {n k:Nat} {x:Exit} (hx:x=.normal∨x=.ret) (hres:fn.results=#[]) (ht:H.tl k Ho) (hp:post (.tuple #[]) G Ho) :
 Ar (GN P fn G0 Hi w0 post) x ⟨n,w0,Hi.has,G0⟩ ⟨e,[],H,G⟩:=by
 intro a w hh;have key:a.defers=[]∧∃ v,(results fn a.tmps).run P w=.ok v w∧B6 G0 Hi w0 post (.returned v) w:=by
  have hg:∀ t x,Ho.get t=some x→H.get (k+t)=some x:=fun t x hx=>ht _ _ (by rw [fU,aE (by omega),Nat.add_sub_cancel_left];exact hx);refine ⟨hh.defers,.tuple #[],by simp [yT,hres],.tuple #[],G,Ho,U,⟨?_,?_,hh.mem.imm,?_⟩,hh.le,hh.upd,hh.new,?_,hp⟩
  · intro t b o h;exact hh.mem.own _ b o (hg _ _ h)
  · intro t t' b o o' h h';have:=hh.mem.one _ _ b _ _ (hg _ _ h) (hg _ _ h');omega
  · intro t b o h;exact hh.mem.off _ b o (hg _ _ h)
  intro t b o h;exact hh.mine _ b o (hg _ _ h)
 rcases hx with rfl | rfl <;> exact key
abbrev pB:=@WZ
def XA (P:I6) (fn:Func) (G:A2) (Hi:Hp) (w:I8) (post:Value→A2→Hp→Prop):Exit→Act→I8→Prop:=bodyPostM (FF none) 0 P fn (B6 G Hi w post)
theorem CA {f:FuncId} {fn:Func} {c:Code} {n:Nat} {args:List Value} {Hi:Hp} {post:Value→A2→Hp→Prop} (hf:P.funcs[f]?=some fn) (hb:fn.body=some c) (hn:fn.ntmps=n)
 (hl:Nat.ble args.length n=true) (h:∀ w,Wc none P c ⟨n,w,Hi.has,G⟩ ⟨wB 0 args,[],Hi,G⟩ (XA P fn G Hi w post)):Does P f args G Hi post:=by
 intro w hw;have hl':=bD hl;refine yS.1 (callsIn_of_wp_marks (F:=FF none) (n:=0) hf hb I3 (h w _ w ?_));refine ⟨?_,U,?_,hw,kZ _ _,fun t b o hx=>.inr ⟨t,o,hx⟩,cX _,fun b h1 h2=>(h1 h2).elim⟩
 · simp [hn];omega
 intro i v hi;obtain ⟨_,h2⟩:=qS args 0 i v hi;have h2':args[i]?=some v:=by simpa using h2
 have hlt:i<args.length:=(aW.1 h2').1;show (args.toArray++Array.replicate (fn.ntmps - args.toArray.size) undef)[i]?=some v;rw [lK (by simpa using hlt)];simpa using h2'
abbrev nQ:=@CA
def mark (b:Nat):Deferred:={ target:=.collected b,args:=#[] }
theorem wU (w:I8) (b:Nat) (o:Obj):D9 (·=b) w (w.putObj b o):=⟨U,U,U,by simp,fun k _ hk=>World.putObj_heap_other hk⟩
section out
variable {fn:Func} {G0:A2} {Hi:Hp} {w0:I8} {post:Value→A2→Hp→Prop} {x:Exit}
theorem GV (hx:x=.normal∨x=.ret) (t:Nat) {b:Nat} (ht:H.get t=some (some b,.deferred (some []))) (h:Ar (XA P fn G0 Hi w0 post) .ret B ⟨e,D,(t,some b,.deferred none) :: H,G⟩) :
 Ar (XA P fn G0 Hi w0 post) x B ⟨e,mark b :: D,H,G⟩:=by
 intro a w hh;have hb:w.heap[b]?=some (.deferred (some [])):=hh.mem.own t b _ ht;have hlt:=(bX.1 hb).1;have hh1:A5 B ⟨e,D,H,G⟩ { a with defers:=D } w:=⟨hh.size,U,hh.env,hh.mem,hh.upd,hh.mine,hh.le,hh.new⟩
 have h1:=h _ _ (hh1.set ht (wU w b (.deferred none)) (gQ hlt));have key:LeavesInM (FF none) 0 P fn a.tmps (B6 G0 Hi w0 post) a.defers .returning w:=by
  rw [hh.defers];exact ⟨by simp,.inl ⟨b,_,rfl,run_takeDeferred hb,h1⟩⟩
 rcases hx with rfl | rfl <;> exact key
abbrev nH:=@GV
theorem QN (hx:x=.normal∨x=.ret) (h:Ar (GN P fn G0 Hi w0 post) .ret B ⟨e,[],H,G⟩):Ar (XA P fn G0 Hi w0 post) x B ⟨e,[],H,G⟩:=by
 intro a w hh;obtain ⟨hd,v,hr,hR⟩:=h a w hh;have key:LeavesInM (FF none) 0 P fn a.tmps (B6 G0 Hi w0 post) a.defers .returning w:=by
  rw [hd];exact ⟨v,hr,hR⟩
 rcases hx with rfl | rfl <;> exact key
abbrev nT:=@QN
end out
def B0.ps:List Nat→List Value→B0→B0
 | t :: ts,v :: vs,e=>B0.ps ts vs ((t,v) :: e)
 | _,_,e=>e
def Rb (P:I6) (l:Nat) (body:Code) (R:Ending→I8→Prop):Exit→Act→I8→Prop:=
 Exit.then (fun a₁ w₁=>∃ w₂,(Instr.beginRound l).run P w₁=.ok () w₂∧body.wpIn (FF (some l)) 0 P (roundPost P l R) a₁ w₂) (fun _ _ _=>False)
theorem QO {l:Nat} {body:Code} {R:Ending→I8→Prop} {q:Loop} {p:J0 Code} (t:Nat) (ht:H.get t=some (some l,lrec q .ready p))
 (h:Wc (some l) P body B ⟨e,D,(t,some l,lrec q .busy p) :: H,G⟩ (roundPost P l R)):Ar (Rb P l body R) .normal B ⟨e,D,H,G⟩:=by
 intro a w hh;have hb:=hh.mem.own t l _ ht;have hlt:=(bX.1 hb).1;refine ⟨_,run_beginRound hb U,?_⟩;exact h _ _ (hh.set ht (wU w l _) (gQ hlt))
abbrev qX:=@QO
section round
variable {ι:Type} {x:Exit} {l n:Nat} {w0:I8} {Hi:Hp} {G0:A2} {post:Value→A2→Hp→Prop} {q:Loop} {p:J0 Code}
theorem CC (c:J0 Code) (hx:(x=.normal∧c=none)∨(x=.ret∧c=some .ret)∨∃ id,x=.exit id∧c=some (.exit id)) (t:Nat) (ht:H.get t=some (some l,lrec q .busy p)) {Ho:Hp}
 (hp:post (.bool c.isNone) G Ho) (hHo:∀ i y,Ho.get i=some y→Hp.get ((t,some l,lrec q (if c.isNone then .ready else .done) c) :: H) i=some y) :
 Ar (roundPost P l (B6 G0 Hi w0 post)) x ⟨n,w0,Hi.has,G0⟩ ⟨e,D,H,G⟩:=by
 intro a w hh;have hb:=hh.mem.own t l _ ht;have hlt:=(bX.1 hb).1;have h2:=hh.set ht (o':=lrec q (if c.isNone then .ready else .done) c) (wU w l _) (gQ hlt);have h3:=h2.weaken (e':=e) (H':=Ho) (fun _ _ h=>h) hHo;have key:∃ v w',(Instr.endRound l c).run P w=.ok v w'∧B6 G0 Hi w0 post (.returned v) w':=
  ⟨_,_,run_endRound c hb,.bool c.isNone,G,Ho,U,h3.mem,h3.le,h3.upd,h3.new,h3.mine,hp⟩
 rcases hx with ⟨rfl,rfl⟩ | ⟨rfl,rfl⟩ | ⟨id,rfl,rfl⟩ <;> exact key
abbrev kF:=@CC
end round
theorem Ft {n:Nat}:∀ (ts:List Nat) (vs:List Value) (e:B0) (tmps:Array Value),tmps.size=n→(∀ i v,e.get i=some v→tmps[i]?=some v)→ts.all (fun t=>Nat.ble (t+1) n)=true→
 ((ts.zip vs).foldl (fun t (p:Nat×Value)=>t.setIfInBounds p.1 p.2) tmps).size=n∧∀ i v,(B0.ps ts vs e).get i=some v→((ts.zip vs).foldl (fun t (p:Nat×Value)=>t.setIfInBounds p.1 p.2) tmps)[i]?=some v
 | [],vs,e,tmps,hs,he,_=>by
   have:B0.ps [] vs e=e:=by cases vs <;> rfl
   rw [this];simpa using ⟨hs,he⟩
 | t :: ts,[],e,tmps,hs,he,_=>by simpa [B0.ps] using ⟨hs,he⟩
 | t :: ts,v :: vs,e,tmps,hs,he,hb=>by
   simp only [jI,aF] at hb;have ht:=bD hb.1;refine Ft ts vs ((t,v) :: e) (tmps.setIfInBounds t v) (by simpa using hs) (fun i u hu=>?_) hb.2;rw [jA] at hu;rw [Array.getElem?_setIfInBounds];by_cases hi:t=i
   · rw [aE hi] at hu ⊢;rw [aE (by omega)];exact hu
   rw [aC hi] at hu ⊢;exact he i u hu
section stmt
variable {β ι:Type} {Q:Exit→Act→I8→Prop} {f:FuncId} {fst caps:List Value} {enc:β→List Value} {xs:List β} {ps:List Nat} {assign body:Code} {g:I7}
def PN:J0 Code→LoopState | none=>.ready | some _=>.done
abbrev RJ (tl td:Nat) (q:Loop) (l dd:Nat) (A:Hp) (p:J0 Code):Hp:=(tl,some l,lrec q (PN p) p) :: (td,some dd,.deferred (some [])) :: A
theorem Wc.rangeFunc (tl td:Nat) (I:ι→Hp) (inv:Nat→ι→Prop) (stop:Code→ι→Prop) (i0:ι) (hg:e.ev g=some (.func (.func f) #[] caps.toArray)) (hf:vF P f)
 (hps:∀ x,(enc x).length=ps.length) (hpb:ps.all (fun t=>Nat.ble (t+1) B.n)=true) (hit:Jr P f caps G enc xs) (h0:inv 0 i0) (hH:∀ t x,(I i0).get t=some x→H.get t=some x)
 (htl:Nat.beq tl td=false∧∀ i,(I i).get tl=none)
 (hround:∀ k x i l dd q w0,xs[k]?=some x→inv k i→Wc (some l) P assign ⟨B.n,w0,(RJ tl td q l dd (I i) none).has,G⟩ ⟨B0.ps ps (enc x) e,[],RJ tl td q l dd (I i) none,G⟩
  (Rb P l body (B6 G (RJ tl td q l dd (I i) none) w0 (fun v G' Ho=>G'=G∧∃ j:ι×J0 Code,Ho=RJ tl td q l dd (I j.1) j.2∧((v=.bool true∧j.2=none∧inv (k+1) j.1)∨(v=.bool false∧∃ c,j.2=some c∧stop c j.1))))))
 (hdone:∀ j dd,inv xs.length j→Ar Q .normal B ⟨e,mark dd :: D,(td,some dd,.deferred (some [])) :: I j,G⟩)
 (hstop:∀ j dd c,stop c j→Wc none P c B ⟨e,mark dd :: D,(td,some dd,.deferred (some [])) :: I j,G⟩ Q) :
 Wc none P (.rangeFunc g ps.toArray assign body) B ⟨e,D,H,G⟩ Q:=by
 intro a w hh;refine wpIn_rangeFunc fun fn _=>?_;obtain ⟨q,hq⟩:∃ q:Loop,q={ state:=.ready,pending:=none,fn,tmps:=a.tmps,params:=ps.toArray,assign,body,defers:=w.heap.size }:=⟨_,U⟩
 obtain ⟨fnn,hf1,hf2,hf3⟩:=hf;obtain ⟨ht3,htI⟩:=htl;have hne:tl≠td:=fun h=>by subst h;simp at ht3
 have hA:=hh.alloc td (.deferred (some []));have hB:=hA.alloc tl (lrec q .ready none);rw [sF] at hB;refine ⟨w.heap.size+1,[mark w.heap.size],(w.alloc (.deferred (some []))).alloc (lrec q .ready none),{ target:=.fn (.func f) caps.toArray,args:=#[.func (.yield (w.heap.size+1)) #[] #[]] },(w.alloc (.deferred (some []))).alloc (lrec q .ready none),f,
  (.func (.yield (w.heap.size+1)) #[] #[] :: caps).toArray,(w.alloc (.deferred (some []))).alloc (lrec q .ready none),?_,?_,?_,?_,fun h=>by simp [FF] at h,?_⟩
 · have:=rA (P:=P) (w:=w) fn a.tmps ps.toArray assign body;rw [hq];exact this
 · have hev:Act.eval a g=.func (.func f) #[] caps.toArray:=hh.eval hg;simp only [resolve,hev];simp [go_sem]
 · intro f' hf';trivial
 · simp [invoke,xV _ _ hf1 hf2 hf3]
 have hB':A5 B ⟨e,D,RJ tl td q (w.heap.size+1) w.heap.size (I i0) none,G⟩ a ((w.alloc (.deferred (some []))).alloc (lrec q .ready none)):=by
  refine hB.weaken (fun _ _ h=>h) fun t x hx=>?_;rw [bF] at hx ⊢;split at hx <;> rename_i h1
  · rw [aE h1];exact hx
  rw [aC h1];rw [bF] at hx ⊢;split at hx <;> rename_i h2
  · rw [aE h2];exact hx
  rw [aC h2];exact hH t x hx
 have hC:=hit (ι×J0 Code) (fun s=>RJ tl td q (w.heap.size+1) w.heap.size (I s.1) s.2) (fun k j=>j.2=none∧inv k j.1) (fun j=>∃ c,j.2=some c∧stop c j.1) (w.heap.size+1) (i0,none) ⟨U,h0⟩ (fun k x i hx hi=>?_)
 · refine yS.2 ((hC _ hB'.mem).mono fun ex w' ⟨v,G',Ho,h1,h2,h3,h4,h5,h6,h7,j,h8,h9⟩=>?_);subst h1 h7;have hcl:=hB'.called 0 (Hi:=RJ tl td q (w.heap.size+1) w.heap.size (I i0) none) (fun t x hx=>by rw [cP];exact hx) h2 h3 h4 h5 h6;have hD:A5 B ⟨e,D,Ho,G'⟩ a w':=hcl.weaken (fun _ _ h=>h) (fun t x hx=>by
    rw [eL,fU,aE (aP _),mS,hx];rfl)
   rw [h8] at hD;obtain ⟨ji,jp⟩:=j;have hget:Hp.get (RJ tl td q (w.heap.size+1) w.heap.size (I ji) jp) tl=some (some (w.heap.size+1),lrec q (PN jp) jp):=by
    rw [bF,aE rfl]
   have hbk:=hD.mem.own tl _ _ hget;have hlt:=(bX.1 hbk).1;have hE:=hD.set hget (o':=lrec q .exhausted jp) (wU w' _ _) (gQ hlt);have hF:A5 B ⟨e,D,(td,some w.heap.size,.deferred (some [])) :: I ji,G'⟩ a (w'.putObj (w.heap.size+1) (lrec q .exhausted jp)):=by
    refine hE.weaken (fun _ _ h=>h) fun t x hx=>?_;rw [bF] at hx ⊢;have htn:tl≠t:=fun h=>by
     subst h;rw [aC (kA hne)] at hx;have:=htI ji;rw [hx] at this;cases this
    rw [aC htn,bF,aC htn,bF];exact hx
   have hG:A5 B ⟨e,mark w.heap.size :: D,(td,some w.heap.size,.deferred (some [])) :: I ji,G'⟩ { a with defers:=[mark w.heap.size]++a.defers } (w'.putObj (w.heap.size+1) (lrec q .exhausted jp)):=
    ⟨hF.size,by show [mark w.heap.size]++a.defers=_;rw [hF.defers];rfl,hF.env,hF.mem,hF.upd,hF.mine,hF.le,hF.new⟩
   have hend:(Instr.endLoop (w.heap.size+1)).run P w'=.ok jp (w'.putObj (w.heap.size+1) (lrec q .exhausted jp)):=run_endLoop hbk (by cases jp <;> simp [PN]);refine ⟨jp,_,hend,?_⟩;rcases h9 with ⟨hj,hi⟩ | ⟨c,hj,hs⟩
   · have hj':jp=none:=hj;subst hj';exact hdone ji _ hi _ _ hG
   have hj':jp=some c:=hj;subst hj';exact hstop ji _ c hs _ _ hG
 obtain ⟨i,ip⟩:=i;obtain ⟨hip,hi⟩:=hi;have hip':ip=none:=hip;subst hip';intro w2 hw2;have hl2:w2.heap[w.heap.size+1]?=some (lrec q .ready none):=hw2.own tl _ _ (by rw [bF,aE rfl];rfl);have hq2:q.params=ps.toArray∧q.tmps=a.tmps∧q.assign=assign∧q.body=body:=by rw [hq];exact ⟨U,U,U,U⟩
 have hy:=run_yield (P:=P) (args:=(enc x).toArray) hl2 (by show _=q.params.size;rw [hq2.1];simp [hps x]);refine ⟨_,_,_,_,hy,roundIn_of_wpIn (F:=Fence.wide) (n:=0) I3 ?_⟩;have hz:=Ft ps (enc x) e a.tmps hh.size hh.env hpb;have hr:=hround k x i (w.heap.size+1) w.heap.size q w2 hx hi;have hhold:A5 ⟨B.n,w2,(RJ tl td q (w.heap.size+1) w.heap.size (I i) none).has,G⟩ ⟨B0.ps ps (enc x) e,[],RJ tl td q (w.heap.size+1) w.heap.size (I i) none,G⟩
  { tmps:=(q.params.zip (enc x).toArray).foldl (fun tmps (t,a)=>tmps.setIfInBounds t a) q.tmps,defers:=[] } w2:=by
  refine ⟨?_,U,?_,hw2,kZ _ _,fun t b o hx=>.inr ⟨t,o,hx⟩,cX _,fun b h1 h2=>(h1 h2).elim⟩
  · show ((q.params.zip (enc x).toArray).foldl _ q.tmps).size=B.n;rw [hq2.1,hq2.2.1];have:=hz.1;simpa using this
  intro i v hv;show ((q.params.zip (enc x).toArray).foldl _ q.tmps)[i]?=some v;rw [hq2.1,hq2.2.1];have:=hz.2 i v hv;simpa using this
 have h:=hr _ w2 hhold;show q.assign.wpIn (FF (some (w.heap.size+1))) 0 P (Rb P (w.heap.size+1) q.body _) _ _;rw [hq2.2.2.1,hq2.2.2.2];exact h
abbrev pR:=@Wc.rangeFunc
end stmt
end
section
variable {P:I6} {e:B0} {H:Hp} {G:A2} {ty:I9}
def Jt (P:I6) (t:I9):Bool:=match P.underlying t with | some (.func _ _ _)=>true | _=>false
theorem Bh {t:I9} {f:Fn} {fs cs:Array Value} (ht:Jt P t=true) (d:Nat) (w:I8):(Op.equalIn (d+1) t (.func f fs cs) .nilFunc).run P w=.ok false w:=by
 unfold Jt at ht;split at ht
 · rename_i a1 a2 a3 hu;simp [Op.equalIn,bB hu]
 cases ht
theorem Vb {t t':I9} {x y:I7} {f:Fn} {fs cs:Array Value} (ht:Jt P t=true) (hx:e.ev x=some (.func f fs cs)) (hy:e.ev y=some .nilFunc):Qy P (.binOp .eql t x y t') ty e H G (.bool false):=fun a w _ _ _ _ hh=>by
 have:=Bh (P:=P) (f:=f) (fs:=fs) (cs:=cs) ht 9999 w;simp [execOp,hh.eval hx,hh.eval hy,binOp,eqGuard,Op.equal,Op.maxDepth,this]
theorem Vc {t t':I9} {x y:I7} {f:Fn} {fs cs:Array Value} (ht:Jt P t=true) (hx:e.ev x=some (.func f fs cs)) (hy:e.ev y=some .nilFunc):Qy P (.binOp .neq t x y t') ty e H G (.bool true):=fun a w _ _ _ _ hh=>by
 have:=Bh (P:=P) (f:=f) (fs:=fs) (cs:=cs) ht 9999 w;simp [execOp,hh.eval hx,hh.eval hy,binOp,eqGuard,Op.equal,Op.maxDepth,this]
theorem Ap {t E:I9} {a:J0 Addr} {n c:Nat} (ht:P.underlying t=some (.slice E)) (d:Nat) (w:I8):(Op.equalIn (d+1) t (.slice a n c) (.slice none 0 0)).run P w=.ok a.isNone w:=by
 cases a <;> simp [Op.equalIn,bB ht]
theorem Rd {t t':I9} {x y:I7} {a:J0 Addr} {n c E sz:Nat} (ht:tR P t E sz) (hx:e.ev x=some (.slice a n c)) (hy:e.ev y=some (.slice none 0 0)):Qy P (.binOp .eql t x y t') ty e H G (.bool (decide (a=none))):=fun w0 w _ _ _ _ hh=>by
 have:=Ap (P:=P) (a:=a) (n:=n) (c:=c) ht.1 9999 w;simp [execOp,hh.eval hx,hh.eval hy,binOp,eqGuard,Op.equal,Op.maxDepth,this];cases a <;> rfl
abbrev gN:=@Rd
theorem Fu {t t':I9} {x y:I7} {a:J0 Addr} {n c E sz:Nat} (ht:tR P t E sz) (hx:e.ev x=some (.slice a n c)) (hy:e.ev y=some (.slice none 0 0)):Qy P (.binOp .neq t x y t') ty e H G (.bool (decide (a≠none))):=fun w0 w _ _ _ _ hh=>by
 have:=Ap (P:=P) (a:=a) (n:=n) (c:=c) ht.1 9999 w;simp [execOp,hh.eval hx,hh.eval hy,binOp,eqGuard,Op.equal,Op.maxDepth,this];cases a <;> rfl
theorem Vd {T:I9} {x i:I7} {b o n sz:Nat} {zs:List Value} {k:IntKind} {m:Int} (j:Nat) (hT:D2 P T n sz zs) (hx:e.ev x=some (.pointer (some ⟨b,o,none⟩))) (hi:e.ev i=some (.int k m))
 (hb:decide (0≤m∧m<n)=true) (hj:Nat.beq (m.toNat*sz) j=true):Qy P (.indexAddr T x i) ty e H G (.pointer (some ⟨b,o+j,none⟩)):=fun a w _ _ _ _ hh=>by
 obtain ⟨z,E,hu,_,_,hs⟩:=hT;have hb':=gX hb;have hj':=aJ hj;simp [execOp,Instr.indexAt,Instr.sureAddr,hh.eval hx,hh.eval hi,asIntOf,bB hu,hb',run_sizeOf w hs,add_lit,hj']
abbrev jH:=@Vd
end
section
variable {P:I6} {B:Bs} {e:B0} {D:List Deferred} {H:Hp} {G:A2}
theorem A5.base {a:Act} {w:I8} (hh:A5 B ⟨e,D,H,G⟩ a w):A5 B ⟨e,D,H,B.G0⟩ a w:=by
 refine ⟨hh.size,hh.defers,hh.env,⟨hh.mem.own,hh.mem.one,fun b o h=>hh.mem.imm b o (hh.le b o h),fun t b o h=>?_⟩,hh.upd,hh.mine,cX _,fun b h h0=>(h h0).elim⟩;have h1:G b=none:=hh.mem.off t b o h;show B.G0 b=none;cases hg:B.G0 b with
 | none=>rfl
 | some x=>have h2:G b=some x:=hh.le b x hg;rw [h1] at h2;cases h2
theorem Ar.base {Q:Exit→Act→I8→Prop} {x:Exit} (h:Ar Q x B ⟨e,D,H,B.G0⟩):Ar Q x B ⟨e,D,H,G⟩:=fun a w hh=>h a w hh.base
abbrev qE:=@Ar.base
theorem B3.less {Hi:Hp} {G G':A2} {w:I8} (hw:B3 Hi G' w) (hl:G.le G'):B3 Hi G w:=by
 refine ⟨hw.own,hw.one,fun b o h=>hw.imm b o (hl b o h),fun t b o h=>?_⟩;have h1:=hw.off t b o h;cases hg:G b with
 | none=>rfl
 | some x=>have:=hl b x hg;rw [h1] at this;cases this
theorem B6.up {G G':A2} {Hi:Hp} {w w':I8} {q:Value→Hp→Prop} (hw:B3 Hi G' w) {x:Ending} (h:B6 G Hi w (fun v G1 Ho=>G1=G∧q v Ho) x w') :
 B6 G' Hi w (fun v G1 Ho=>G1=G'∧q v Ho) x w':=by
 obtain ⟨v,G1,Ho,h1,h2,h3,h4,h5,h6,h7,h8⟩:=h;have hnot:∀ b o,G' b=some o→¬Hi.has b:=fun b o hb ⟨t,o',ht⟩=>by have:=hw.off t b o' ht;rw [hb] at this;cases this
 refine ⟨v,G',Ho,h1,⟨h2.own,h2.one,fun b o hb=>?_,fun t b o ht=>?_⟩,cX _,h4,fun b h0 h0'=>(h0 h0').elim,h6,U,h8⟩
 · rw [h4.same b (hw.ltG hb) (hnot b o hb)];exact hw.imm b o hb
 cases hg:G' b with
 | none=>rfl
 | some y =>
   rcases h6 t b o ht with h | h
   · have:b<w.heap.size:=hw.ltG hg;omega
   exact (hnot b y hg h).elim
theorem C5.up {l:Nat} {vs:List Value} {G G':A2} {Hi:Hp} {q:Value→Hp→Prop} (hl:G.le G') (h:C5 P l vs G Hi (fun v G1 Ho=>G1=G∧q v Ho)):C5 P l vs G' Hi (fun v G1 Ho=>G1=G'∧q v Ho):=by
 intro w hw;obtain ⟨f,tmps,assign,body,h1,h2⟩:=h w (hw.less hl);exact ⟨f,tmps,assign,body,h1,h2.mono fun x w' hp=>hp.up hw⟩
end
def GW (r:J0 Nat) (P:I6) (c:Code) (Q:Exit→Act→I8→Prop) (a:Act) (w:I8):Prop:=
 ∀ (b:Frame) (k:List Item) (cs:List Frame),b.roundOf=(FF r).round→(FF r).fn b.fn→(FF r).room (cs.length+1+0)→
  ∃ e a' w',Q e a' w'∧ArrivesIn (Machine.fenced P (FF r)) P (lone (b.atR a (.code c :: .inLoop c :: k)) cs w) b k cs e a' w'
section
variable {r:J0 Nat} {P:I6} {B:Bs} {S:St} {Q:Exit→Act→I8→Prop} {c:Code}
end
def QP (P:I6):List (Nat×Nat×Nat)→Prop
 | []=>True
 | x :: l=>Cx P x.1 x.2.1 x.2.2∧QP P l
def H5 (P:I6):List Nat→Prop
 | []=>True
 | x :: l=>(∃ E sz,tR P x E sz)∧H5 P l
def F5 (P:I6):List Nat→Prop
 | []=>True
 | x :: l=>wZ P x=true∧F5 P l
def F6 (P:I6):List (Nat×Nat)→Prop
 | []=>True
 | x :: l=>(yH P x.1 x.2=true∧(P.info? x.1).map (·.size)=some x.2)∧F6 P l
def H6 (P:I6):List Nat→Prop
 | []=>True
 | x :: l=>vF P x∧H6 P l
class Tab (P:Program) where
 fn:List Nat
 fnP:H6 P fn
 one:List Nat
 agg:List (Nat×Nat)
 sl:List Nat
 fa:List (Nat×Nat×Nat)
 oneP:F5 P one
 aggP:F6 P agg
 slP:H5 P sl
 faP:QP P fa
def Za:List Nat→Nat→Bool
 | [],_=>false
 | x :: l,t=>bif Nat.beq x t then true else Za l t
def lookN:List (Nat×Nat)→Nat→J0 Nat
 | [],_=>none
 | (x,y) :: l,t=>bif Nat.beq x t then some y else lookN l t
def QQ:List (Nat×Nat×Nat)→Nat→Nat→J0 Nat
 | [],_,_=>none
 | (x,y,z) :: l,s,f=>bif Nat.beq x s && Nat.beq y f then some z else QQ l s f
theorem tA {α:Type} {b:Bool} {x y z:α} (h:(bif b then x else y)=z):(b=true∧x=z)∨(b=false∧y=z):=by cases b <;> simp_all
theorem Re {P:I6}:∀ {l:List Nat} {t:Nat},F5 P l→Za l t=true→wZ P t=true
 | [],t,_,h=>yA
 | x :: l,t,ha,h=>by
   rcases tA h with ⟨h1,_⟩ | ⟨_,h2⟩
   · have:=aJ h1;subst this;exact ha.1
   exact Re ha.2 h2
theorem Zb {P:I6}:∀ {l:List Nat} {t:Nat},H6 P l→Za l t=true→vF P t
 | [],t,_,h=>yA
 | x :: l,t,ha,h=>by
   rcases tA h with ⟨h1,_⟩ | ⟨_,h2⟩
   · have:=aJ h1;subst this;exact ha.1
   exact Zb ha.2 h2
theorem JE {P:I6}:∀ {l:List Nat} {t:Nat},H5 P l→Za l t=true→∃ E sz,tR P t E sz
 | [],t,_,h=>yA
 | x :: l,t,ha,h=>by
   rcases tA h with ⟨h1,_⟩ | ⟨_,h2⟩
   · have:=aJ h1;subst this;exact ha.1
   exact JE ha.2 h2
theorem Ly {P:I6}:∀ {l:List (Nat×Nat)} {t k:Nat},F6 P l→lookN l t=some k→yH P t k=true∧(P.info? t).map (·.size)=some k
 | [],t,k,_,h=>yA
 | (x,y) :: l,t,k,ha,h=>by
   rcases tA h with ⟨h1,h2⟩ | ⟨_,h2⟩
   · have:=aJ h1;subst this;cases h2;exact ha.1
   exact Ly ha.2 h2
theorem CD {P:I6}:∀ {l:List (Nat×Nat×Nat)} {s f k:Nat},QP P l→QQ l s f=some k→Cx P s f k
 | [],s,f,k,_,h=>yA
 | (x,y,z) :: l,s,f,k,ha,h=>by
   rcases tA h with ⟨h1,h2⟩ | ⟨_,h2⟩
   · simp only [aF] at h1;have h3:=aJ h1.1;have h4:=aJ h1.2;subst h3;subst h4;cases h2;exact ha.1
   exact CD ha.2 h2
def XB:IntKind→IntKind→Bool
 | .i8,.i8 | .i16,.i16 | .i32,.i32 | .i64,.i64 | .u8,.u8 | .u16,.u16 | .u32,.u32 | .u64,.u64=>true
 | _,_=>false
theorem Lz {a b:IntKind} (h:XB a b=true):a=b:=by cases a <;> cases b <;> first | rfl | cases h
def Ur {α:Type}:List α→Nat→J0 α
 | [],_=>none
 | x :: l,n=>bif Nat.beq n 0 then some x else Ur l (Nat.pred n)
theorem Ab {α:Type}:∀ (l:List α) (n:Nat),Ur l n=l[n]?
 | [],n=>by simp [Ur]
 | x :: l,n=>by
   unfold Ur;cases n with
   | zero=>rfl
   | succ n=>simp only [Nat.beq,pO,Nat.pred_succ,Ab l n,iD]
abbrev Rz:=Value×List Nat×Prop
inductive IOp | eql | neq | lss | leq | gtr | geq | add | sub
def iop:BinOp→J0 IOp
 | .eql=>some .eql | .neq=>some .neq | .lss=>some .lss | .leq=>some .leq | .gtr=>some .gtr | .geq=>some .geq | .add=>some .add | .sub=>some .sub
 | _=>none
def qk (o:IOp) (k:IntKind) (m n:Int) (hs:List Nat):J0 Rz:=
 match o with
 | .eql=>some (.bool (decide (m=n)),hs,True)
 | .neq=>some (.bool (decide (m≠n)),hs,True)
 | .lss=>some (.bool (decide (m<n)),hs,True)
 | .leq=>some (.bool (decide (m≤n)),hs,True)
 | .gtr=>some (.bool (decide (n<m)),hs,True)
 | .geq=>some (.bool (decide (n≤m)),hs,True)
 | .add=>bif XB k .i64 then some (.int .i64 (m+n),hs,-9223372036854775808≤m+n∧m+n≤9223372036854775807) else none
 | .sub=>bif XB k .i64 then some (.int .i64 (m - n),hs,-9223372036854775808≤m - n∧m - n≤9223372036854775807) else none
def io (P:I6) [Tab P] (e:B0) (H:Hp) (hs:List Nat):Op→J0 Rz
 | .move x=>match e.ev x with | some v=>some (v,hs,True) | none=>none
 | .assign x=>match e.ev x with | some v=>some (v,hs,True) | none=>none
 | .pick c x y=>match e.ev c with
   | some (.bool b)=>match e.ev (bif b then x else y) with | some v=>some (v,hs,True) | none=>none
   | _=>none
 | .unOp .not _ x=>match e.ev x with | some (.bool b)=>some (.bool (!b),hs,True) | _=>none
 | .binOp o _ x y _=>match iop o with
   | some o=>match e.ev x with
     | some (.int k m)=>match e.ev y with
       | some (.int k' n)=>bif XB k k' then qk o k m n hs else none
       | _=>none
     | _=>none
   | none=>none
 | .extract x i=>match e.ev x with
   | some (.tuple ⟨vs⟩)=>match Ur vs i with | some v=>some (v,hs,True) | none=>none
   | _=>none
 | .nilCheck x=>match e.ev x with
   | some (.pointer (some ad))=>some (.pointer (some ad),hs,True)
   | _=>none
 | .fieldAddr s x f=>match QQ (Tab.fa P) s f with
   | some k=>match e.ev x with
     | some (.pointer (some ⟨b,o,none⟩))=>some (.pointer (some ⟨b,o+k,none⟩),hs,True)
     | _=>none
   | none=>none
 | .load T x=>match hs with
   | t :: hs=>match e.ev x with
     | some (.pointer (some ⟨b,off,none⟩))=>match H.get t with
       | some (some b',.cells ⟨cs⟩ _ _)=>match Za (Tab.one P) T with
         | true=>match Ur cs off with | some v=>some (v,hs,b=b') | none=>none
         | false=>match lookN (Tab.agg P) T with
           | some k=>bif Nat.beq off 0 && Nat.beq cs.length k then some (.agg cs.toArray,hs,b=b') else none
           | none=>none
       | _=>none
     | _=>none
   | []=>none
 | .call ⟨.builtin .len,⟨[x]⟩,⟨[T]⟩⟩=>match Za (Tab.sl P) T with
   | true=>match e.ev x with | some (.slice _ n _)=>some (.int .i64 n,hs,True) | _=>none
   | false=>none
 | _=>none
theorem cm {P:I6} {e:B0} {H:Hp} {G:A2} {ty t t':I9} {hs hs':List Nat} {bo:BinOp} {o:IOp} {x y:I7} {k:IntKind} {m n:Int} {v:Value} {ob:Prop} (ho:iop bo=some o) (hx:e.ev x=some (.int k m)) (hy:e.ev y=some (.int k n))
 (h:qk o k m n hs=some (v,hs',ob)) (hob:ob):Qy P (.binOp bo t x y t') ty e H G v:=by
 cases bo <;> first | (cases ho;done) | skip
 all_goals
  cases ho;unfold qk at h;first
   | (cases h;first | exact Qy.eql hx hy | exact Qy.neq hx hy | exact Qy.lss hx hy | exact Qy.leq hx hy | exact Qy.gtr hx hy | exact Qy.geq hx hy)
   | (rcases tA h with ⟨hk,h⟩ | ⟨_,h⟩
      · have:=Lz hk;subst this;cases h;first | exact Qy.add hx hy hob | exact Qy.sub hx hy hob
      cases h)
theorem Zc {P:I6} [T:Tab P] {e:B0} {H:Hp} {G:A2} {ty:I9} {hs hs':List Nat} {o:Op} {v:Value} {ob:Prop} (h:io P e H hs o=some (v,hs',ob)) (hob:ob):Qy P o ty e H G v:=by
 unfold io at h;split at h
 · split at h
   · rename_i hx;cases h;exact dF hx
   cases h
 · split at h
   · rename_i hx;cases h;exact jL hx
   cases h
 · split at h
   · rename_i hc;split at h
     · rename_i hv;cases h;exact Qy.pick hc hv
     cases h
   cases h
 · split at h
   · rename_i hx;cases h;exact Qy.not hx
   cases h
 · split at h
   · rename_i o' ho;split at h
     · rename_i k m hx;split at h
       · rename_i k' n hy;rcases tA h with ⟨hk,h9⟩ | ⟨_,h9⟩
         · have h8:=Lz hk;subst h8;exact cm ho hx hy h9 hob
         cases h9
       cases h
     cases h
   cases h
 · split at h
   · rename_i hx;split at h
     · rename_i hv;cases h;rw [Ab] at hv;exact Qy.extract hx hv
     cases h
   cases h
 · split at h
   · rename_i hx;cases h;exact qK hx
   cases h
 · split at h
   · rename_i k hk;split at h
     · rename_i hx;cases h;exact fT (CD T.faP hk) hx
     cases h
   cases h
 · split at h
   · split at h
     · rename_i hx;split at h
       · rename_i hH;split at h
         · rename_i h1;split at h
           · rename_i hv;cases h;subst hob;rw [Ab] at hv;exact jP _ (Re T.oneP h1) hx hH hv
           cases h
         split at h
         · rename_i k hk;rcases tA h with ⟨hc,h⟩ | ⟨_,h⟩
           · cases h;subst hob;simp only [aF] at hc;have h0:=aJ hc.1;subst h0;exact GM _ (Ly T.aggP hk).1 hx hH (aJ hc.2)
           cases h
         cases h
       cases h
     cases h
   cases h
 · split at h
   · rename_i h1;split at h
     · rename_i hx;cases h;obtain ⟨E,sz,hT⟩:=JE T.slP h1;exact Qy.len hT hx
     cases h
   cases h
 cases h
inductive Fr where
 | seq (y:Code)
 | thn (K:Act→I8→Prop)
 | blk (id:Nat)
def Pj (P:I6) (r:J0 Nat) (Q0:Exit→Act→I8→Prop):List Fr→Exit→Act→I8→Prop
 | []=>Q0
 | .seq y :: k=>Exit.then (y.wpIn (FF r) 0 P (Pj P r Q0 k)) (Pj P r Q0 k)
 | .thn K :: k=>Exit.then K (Pj P r Q0 k)
 | .blk id :: k=>Exit.inBlock id (Pj P r Q0 k)
def B2 (P:I6) (r:J0 Nat) (Q:Exit→Act→I8→Prop) (k:List Fr) (Q0:Exit→Act→I8→Prop):Prop:=Q=Pj P r Q0 k
theorem B2.seq {P:I6} {r:J0 Nat} {Q Q0:Exit→Act→I8→Prop} {k:List Fr} {y:Code} (h:B2 P r Q k Q0):B2 P r (Exit.then (y.wpIn (FF r) 0 P Q) Q) (.seq y :: k) Q0:=by
 unfold B2 at *;subst h;rfl
abbrev lQ:=@B2.seq
theorem B2.thn {P:I6} {r:J0 Nat} {Q Q0:Exit→Act→I8→Prop} {k:List Fr} {K:Act→I8→Prop} (h:B2 P r Q k Q0):B2 P r (Exit.then K Q) (.thn K :: k) Q0:=by
 unfold B2 at *;subst h;rfl
abbrev lP:=@B2.thn
theorem B2.blk {P:I6} {r:J0 Nat} {Q Q0:Exit→Act→I8→Prop} {k:List Fr} {id:Nat} (h:B2 P r Q k Q0):B2 P r (Exit.inBlock id Q) (.blk id :: k) Q0:=by
 unfold B2 at *;subst h;rfl
abbrev lR:=@B2.blk
theorem GX {P:I6} {r r':J0 Nat} {Q0 Q1:Exit→Act→I8→Prop} {k:List Fr} (h:B2 P r Q0 k Q1):B2 P r (Pj P r' Q0 []) k Q1:=h
abbrev lD:=@GX
theorem GY {P:I6} {r:J0 Nat} {Q0 Q1:Exit→Act→I8→Prop} {k k':List Fr} {y:Code} (h:B2 P r (Pj P r Q0 k) k' Q1):B2 P r (Pj P r Q0 (.seq y :: k)) (.seq y :: k') Q1:=lQ h
abbrev lC:=@GY
theorem GZ {P:I6} {r:J0 Nat} {Q0 Q1:Exit→Act→I8→Prop} {k k':List Fr} {K:Act→I8→Prop} (h:B2 P r (Pj P r Q0 k) k' Q1):B2 P r (Pj P r Q0 (.thn K :: k)) (.thn K :: k') Q1:=lP h
abbrev lB:=@GZ
theorem HA {P:I6} {r:J0 Nat} {Q0 Q1:Exit→Act→I8→Prop} {k k':List Fr} {id:Nat} (h:B2 P r (Pj P r Q0 k) k' Q1):B2 P r (Pj P r Q0 (.blk id :: k)) (.blk id :: k') Q1:=lR h
abbrev lE:=@HA
theorem B2.none {P:I6} {Q:Exit→Act→I8→Prop}:B2 P .none Q [] Q:=rfl
abbrev lA:=@B2.none
theorem B2.any {P:I6} {r:J0 Nat} {Q:Exit→Act→I8→Prop}:B2 P r Q [] Q:=rfl
abbrev mM:=@B2.any
inductive Fo where
 | c (c:Code)
 | l (ops:Array Oper) (l:List Oper)
 | a (x:Exit)
def Dk:List Oper→Nat→J0 Nat
 | [],_=>none
 | x :: l,n=>bif Nat.beq n 0 then x.dst else Dk l (Nat.pred n)
theorem En:∀ (l:List Oper) (n:Nat),Dk l n=(l[n]?).bind (·.dst)
 | [],n=>by simp [Dk]
 | x :: l,n=>by
   unfold Dk;cases n with
   | zero=>rfl
   | succ n=>simp only [Nat.beq,pO,Nat.pred_succ,En l n,iD]
abbrev Cf:=Fo×List Fr×B0×Hp×List Nat
def QR (P:I6) [Tab P] (n:Nat) (ops:Array Oper) (k:List Fr) (e:B0) (H:Hp) (hs:List Nat) (rest:List Oper):Oper→J0 (Cf×Prop)
 | ⟨some d,o,_,_,_,none⟩=>match Nat.ble (d+1) n with
   | true=>match io P e H hs o with
     | some (v,hs,ob)=>some ((.l ops rest,k,(d,v) :: e,H,hs),ob)
     | none=>none
   | false=>none
 | ⟨none,.store T x y,_,_,_,none⟩=>match hs with
   | t :: hs=>match e.ev x with
     | some (.pointer (some ⟨b,off,none⟩))=>match H.get t with
       | some (some b',.cells ⟨cs⟩ bt (0,0))=>match e.ev y with
         | some v=>match Za (Tab.one P) T with
           | true=>bif v.oneCell' && Nat.ble (off+1) cs.length then some ((.l ops rest,k,e,(t,some b',.cells (cs.set off v).toArray bt (0,0)) :: H,hs),b=b') else none
           | false=>match lookN (Tab.agg P) T with
             | some m=>match v with
               | .agg ⟨vs⟩=>bif Nat.beq off 0 && (Nat.beq vs.length m && (Nat.beq vs.length cs.length && vs.all (·.oneCell'))) then some ((.l ops rest,k,e,(t,some b',.cells vs.toArray bt (0,0)) :: H,hs),b=b') else none
               | _=>none
             | none=>none
         | none=>none
       | _=>none
     | _=>none
   | []=>none
 | ⟨dst,o,ty,pos,after,some (j,w)⟩=>match Dk ops.toList j with
   | some t=>match e.get t with
     | some (.bool b)=>bif (match b,w with | true,true=>true | false,false=>true | _,_=>false) then some ((.l ops (⟨dst,o,ty,pos,after,none⟩ :: rest),k,e,H,hs),True)
       else match dst with
        | some d=>bif Nat.ble (d+1) n then some ((.l ops rest,k,(d,undef) :: e,H,hs),True) else none
        | none=>none
     | _=>none
   | none=>none
 | _=>none
def qm (P:I6) [Tab P] (n:Nat):Fo→List Fr→B0→Hp→List Nat→J0 (Cf×Prop)
 | .c (.seq x y),k,e,H,hs=>some ((.c x,.seq y :: k,e,H,hs),True)
 | .c .skip,k,e,H,hs=>some ((.a .normal,k,e,H,hs),True)
 | .c (.label _),k,e,H,hs=>some ((.a .normal,k,e,H,hs),True)
 | .c (.exit id),k,e,H,hs=>some ((.a (.exit id),k,e,H,hs),True)
 | .c .ret,k,e,H,hs=>some ((.a .ret,k,e,H,hs),True)
 | .c (.block id c),k,e,H,hs=>some ((.c c,.blk id :: k,e,H,hs),True)
 | .c (.region _ ⟨l⟩ false),k,e,H,hs=>bif l.all uW then some ((.l l.toArray l,k,e,H,hs),True) else none
 | .c (.cond c x y),k,e,H,h :: hs=>match e.ev c with
   | some (.bool b)=>bif Nat.beq h 1 then some ((.c x,k,e,H,hs),b=true) else some ((.c y,k,e,H,hs),b=false)
   | _=>none
 | .a .normal,.seq y :: k,e,H,hs=>some ((.c y,k,e,H,hs),True)
 | .a .normal,.blk _ :: k,e,H,hs=>some ((.a .normal,k,e,H,hs),True)
 | .a (.exit id),.blk j :: k,e,H,hs=>bif Nat.beq id j then some ((.a .normal,k,e,H,hs),True) else some ((.a (.exit id),k,e,H,hs),True)
 | .a (.exit id),_ :: k,e,H,hs=>some ((.a (.exit id),k,e,H,hs),True)
 | .a .ret,_ :: k,e,H,hs=>some ((.a .ret,k,e,H,hs),True)
 | .l _ [],k,e,H,hs=>some ((.a .normal,k,e,H,hs),True)
 | .l ops (o :: rest),k,e,H,hs=>QR P n ops k e H hs rest o
 | _,_,_,_,_=>none
def run (P:I6) [Tab P] (n:Nat):Nat→Fo→List Fr→B0→Hp→List Nat→J0 (Cf×Prop)
 | 0,f,k,e,H,hs=>some ((f,k,e,H,hs),True)
 | m+1,f,k,e,H,hs=>match qm P n f k e H hs with
   | some ((f,k,e,H,hs),ob)=>match run P n m f k e H hs with
     | some (c,obs)=>some (c,ob∧obs)
     | none=>none
   | none=>none
section
variable {P:I6} {r:J0 Nat} {B:Bs} {D:List Deferred} {G:A2} {Q0:Exit→Act→I8→Prop}
def Gp (P:I6) (r:J0 Nat) (B:Bs) (D:List Deferred) (G:A2) (Q0:Exit→Act→I8→Prop):Cf→Prop
 | (.c c,k,e,H,_)=>Wc r P c B ⟨e,D,H,G⟩ (Pj P r Q0 k)
 | (.l ops l,k,e,H,_)=>Wl P ops l B ⟨e,D,H,G⟩ (Pj P r Q0 k .normal)
 | (.a x,k,e,H,_)=>Ar (Pj P r Q0 k) x B ⟨e,D,H,G⟩
theorem QS [T:Tab P] {ops:Array Oper} {k:List Fr} {e:B0} {H:Hp} {hs:List Nat} {rest:List Oper} {o:Oper} {c:Cf} {ob:Prop} (h:QR P B.n ops k e H hs rest o=some (c,ob)) (hob:ob) (hg:Gp P r B D G Q0 c) :
 Gp P r B D G Q0 (.l ops (o :: rest),k,e,H,hs):=by
 unfold QR at h;split at h
 · split at h
   · rename_i hn;split at h
     · rename_i hq;cases h;exact fS hn (Zc hq hob) hg
     cases h
   cases h
 · split at h
   · split at h
     · rename_i hx;split at h
       · rename_i hH;split at h
         · rename_i v hy;split at h
           · rename_i h1;rcases tA h with ⟨hc,h⟩ | ⟨_,h⟩
             · cases h;subst hob;simp only [aF] at hc;exact Wl.store _ (Re T.oneP h1) hx hy hc.1 hH hc.2 hg
             cases h
           split at h
           · rename_i m hm;split at h
             · rename_i vs;rcases tA h with ⟨hc,h⟩ | ⟨_,h⟩
               · cases h;subst hob;simp only [aF] at hc;have h0:=aJ hc.1;subst h0;exact BT _ (Ly T.aggP hm).2 hx hy (aJ hc.2.1) hc.2.2.2 hH hc.2.2.1 hg
               cases h
             cases h
           cases h
         cases h
       cases h
     cases h
   cases h
 · split at h
   · rename_i t ht;rw [En] at ht;split at h
     · rename_i b hb;rcases tA h with ⟨hw,h⟩ | ⟨hw,h⟩
       · cases h;refine pP (t:=t) (by simpa using ht) (hb.trans ?_) hg;split at hw <;> first | rfl | cases hw
       split at h
       · rcases tA h with ⟨hn,h⟩ | ⟨_,h⟩
         · cases h;refine Wl.pass (t:=t) (by simpa using ht) (hb.trans ?_) hn hg;rename_i w _ _ _ _ _;cases b <;> cases w <;> first | rfl | cases hw
         cases h
       cases h
     cases h
   cases h
 cases h
theorem cq [T:Tab P] {f:Fo} {k:List Fr} {e:B0} {H:Hp} {hs:List Nat} {c:Cf} {ob:Prop} (h:qm P B.n f k e H hs=some (c,ob)) (hob:ob) (hg:Gp P r B D G Q0 c) :
 Gp P r B D G Q0 (f,k,e,H,hs):=by
 unfold qm at h;split at h
 · cases h;exact dG hg
 · cases h;exact kG hg
 · cases h;exact Wc.label hg
 · cases h;exact Wc.exit hg
 · cases h;exact mR hg
 · cases h;exact Wc.block hg
 · rcases tA h with ⟨hd,h⟩ | ⟨_,h⟩
   · cases h;exact dE hd hg
   cases h
 · split at h
   · rename_i b hb;rcases tA h with ⟨_,h⟩ | ⟨_,h⟩
     · cases h;subst hob;exact PU hb hg
     cases h;subst hob;exact BQ hb hg
   cases h
 · cases h;exact cH hg
 · cases h;exact sE hg
 · rcases tA h with ⟨hd,h9⟩ | ⟨hd,h9⟩
   · have h8:=aJ hd;subst h8;cases h9;exact JA hg
   cases h9;exact GK hd hg
 · rename_i id fr k hne;cases h;cases fr with
   | seq y=>exact qW hg
   | thn K=>exact qW hg
   | blk j=>exact (hne j U).elim
 · rename_i fr k;cases h;cases fr with
   | seq y=>exact qD hg
   | thn K=>exact qD hg
   | blk j=>exact Lr hg
 · cases h;exact eC hg
 · exact QS h hob hg
 cases h
theorem run_ok [T:Tab P]:∀ {m:Nat} {f:Fo} {k:List Fr} {e:B0} {H:Hp} {hs:List Nat} {c:Cf} {ob:Prop},run P B.n m f k e H hs=some (c,ob)→ob→Gp P r B D G Q0 c→Gp P r B D G Q0 (f,k,e,H,hs)
 | 0,f,k,e,H,hs,c,ob,h,hob,hg=>by cases h;exact hg
 | m+1,f,k,e,H,hs,c,ob,h,hob,hg=>by
   unfold run at h;split at h
   · rename_i h1;split at h
     · rename_i h2;cases h;exact cq h1 hob.1 (run_ok h2 hob.2 hg)
     cases h
   cases h
end
section
variable {P:I6} [Tab P] {r:J0 Nat} {B:Bs} {D:List Deferred} {G:A2} {Q Q0:Exit→Act→I8→Prop} {k k':List Fr} {e e':B0} {H H':Hp} {hs':List Nat} {ob:Prop} {c c':Code} {l l':List Oper} {ops ops':Array Oper} {x x':Exit}
theorem Wc.gc (n:Nat) (hs:List Nat) (hg:Wc r P c' B ⟨e',D,H',G⟩ (Pj P r Q0 k')) (hr:B2 P r Q k Q0:=by (repeat with_reducible (first | apply lD | apply lC | apply lE | apply lB | apply lQ | apply lR | apply lP));first | exact lA | exact mM) (h:run P B.n n (.c c) k e H hs=some ((.c c',k',e',H',hs'),ob):=by exact U) (hob:ob:=by (repeat refine And.intro Us ?_);exact I3):Wc r P c B ⟨e,D,H,G⟩ Q:=by
 unfold B2 at hr;subst hr;exact run_ok h hob hg
abbrev bJ:=@Wc.gc
theorem Wc.gl (n:Nat) (hs:List Nat) (hg:Wl P ops' l' B ⟨e',D,H',G⟩ (Pj P r Q0 k' .normal)) (hr:B2 P r Q k Q0:=by (repeat with_reducible (first | apply lD | apply lC | apply lE | apply lB | apply lQ | apply lR | apply lP));first | exact lA | exact mM) (h:run P B.n n (.c c) k e H hs=some ((.l ops' l',k',e',H',hs'),ob):=by exact U) (hob:ob:=by (repeat refine And.intro Us ?_);exact I3):Wc r P c B ⟨e,D,H,G⟩ Q:=by
 unfold B2 at hr;subst hr;exact run_ok h hob hg
abbrev aK:=@Wc.gl
theorem Wc.ga (n:Nat) (hs:List Nat) (hg:Ar (Pj P r Q0 k') x' B ⟨e',D,H',G⟩) (hr:B2 P r Q k Q0:=by (repeat with_reducible (first | apply lD | apply lC | apply lE | apply lB | apply lQ | apply lR | apply lP));first | exact lA | exact mM) (h:run P B.n n (.c c) k e H hs=some ((.a x',k',e',H',hs'),ob):=by exact U) (hob:ob:=by (repeat refine And.intro Us ?_);exact I3):Wc r P c B ⟨e,D,H,G⟩ Q:=by
 unfold B2 at hr;subst hr;exact run_ok h hob hg
abbrev bE:=@Wc.ga
theorem Wl.gc (n:Nat) (hs:List Nat) (hg:Wc r P c' B ⟨e',D,H',G⟩ (Pj P r Q0 k')) (hr:B2 P r Q k Q0:=by (repeat with_reducible (first | apply lD | apply lC | apply lE | apply lB | apply lQ | apply lR | apply lP));first | exact lA | exact mM) (h:run P B.n n (.l ops l) k e H hs=some ((.c c',k',e',H',hs'),ob):=by exact U) (hob:ob:=by (repeat refine And.intro Us ?_);exact I3):Wl P ops l B ⟨e,D,H,G⟩ (Q .normal):=by
 unfold B2 at hr;subst hr;exact run_ok h hob hg
abbrev bG:=@Wl.gc
theorem Wl.gl (n:Nat) (hs:List Nat) (hg:Wl P ops' l' B ⟨e',D,H',G⟩ (Pj P r Q0 k' .normal)) (hr:B2 P r Q k Q0:=by (repeat with_reducible (first | apply lD | apply lC | apply lE | apply lB | apply lQ | apply lR | apply lP));first | exact lA | exact mM) (h:run P B.n n (.l ops l) k e H hs=some ((.l ops' l',k',e',H',hs'),ob):=by exact U) (hob:ob:=by (repeat refine And.intro Us ?_);exact I3):Wl P ops l B ⟨e,D,H,G⟩ (Q .normal):=by
 unfold B2 at hr;subst hr;exact run_ok h hob hg
abbrev aS:=@Wl.gl
theorem Wl.ga (n:Nat) (hs:List Nat) (hg:Ar (Pj P r Q0 k') x' B ⟨e',D,H',G⟩) (hr:B2 P r Q k Q0:=by (repeat with_reducible (first | apply lD | apply lC | apply lE | apply lB | apply lQ | apply lR | apply lP));first | exact lA | exact mM) (h:run P B.n n (.l ops l) k e H hs=some ((.a x',k',e',H',hs'),ob):=by exact U) (hob:ob:=by (repeat refine And.intro Us ?_);exact I3):Wl P ops l B ⟨e,D,H,G⟩ (Q .normal):=by
 unfold B2 at hr;subst hr;exact run_ok h hob hg
abbrev aY:=@Wl.ga
theorem Ar.gc (n:Nat) (hs:List Nat) (hg:Wc r P c' B ⟨e',D,H',G⟩ (Pj P r Q0 k')) (hr:B2 P r Q k Q0:=by (repeat with_reducible (first | apply lD | apply lC | apply lE | apply lB | apply lQ | apply lR | apply lP));first | exact lA | exact mM) (h:run P B.n n (.a x) k e H hs=some ((.c c',k',e',H',hs'),ob):=by exact U) (hob:ob:=by (repeat refine And.intro Us ?_);exact I3):Ar Q x B ⟨e,D,H,G⟩:=by
 unfold B2 at hr;subst hr;exact run_ok h hob hg
abbrev oS:=@Ar.gc
theorem Ar.gl (n:Nat) (hs:List Nat) (hg:Wl P ops' l' B ⟨e',D,H',G⟩ (Pj P r Q0 k' .normal)) (hr:B2 P r Q k Q0:=by (repeat with_reducible (first | apply lD | apply lC | apply lE | apply lB | apply lQ | apply lR | apply lP));first | exact lA | exact mM) (h:run P B.n n (.a x) k e H hs=some ((.l ops' l',k',e',H',hs'),ob):=by exact U) (hob:ob:=by (repeat refine And.intro Us ?_);exact I3):Ar Q x B ⟨e,D,H,G⟩:=by
 unfold B2 at hr;subst hr;exact run_ok h hob hg
abbrev oR:=@Ar.gl
theorem Ar.ga (n:Nat) (hs:List Nat) (hg:Ar (Pj P r Q0 k') x' B ⟨e',D,H',G⟩) (hr:B2 P r Q k Q0:=by (repeat with_reducible (first | apply lD | apply lC | apply lE | apply lB | apply lQ | apply lR | apply lP));first | exact lA | exact mM) (h:run P B.n n (.a x) k e H hs=some ((.a x',k',e',H',hs'),ob):=by exact U) (hob:ob:=by (repeat refine And.intro Us ?_);exact I3):Ar Q x B ⟨e,D,H,G⟩:=by
 unfold B2 at hr;subst hr;exact run_ok h hob hg
abbrev fI:=@Ar.ga
theorem cr {K:Act→I8→Prop} (n:Nat) (hs:List Nat) (hg:Wl P ops' l' B ⟨e',D,H',G⟩ K) (h:run P B.n n (.l ops l) [] e H hs=some ((.l ops' l',[],e',H',hs'),ob):=by exact U) (hob:ob:=by (repeat refine And.intro Us ?_);exact I3):Wl P ops l B ⟨e,D,H,G⟩ K:=
 run_ok (r:=none) (Q0:=fun _=>K) h hob hg
abbrev aB:=@cr
end
section
variable {P:I6} {B:Bs} {e:B0} {D:List Deferred} {H H0:Hp} {G G0:A2} {K:Act→I8→Prop} {ops:Array Oper} {l rest:List Oper} {f:Nat} {listed:Array Bool} {wr:List (Nat×Nat)} {ty:I9} {pos:String} {after:Array Edge} {d:Nat}
theorem Gm.o1 {o:Oper} (i:Nat) (h:Wl P l.toArray [o] B ⟨e,D,H,G⟩ (Fm P l.toArray f (listed.setIfInBounds i true) wr H0 G0 K)) (hH:H.sub (H0.live wr listed):=by repeat (first | exact I3 | refine ⟨U,?_⟩)) (hG:G0.le G:=by first | exact cX _ | repeat (first | assumption | refine bL ?_ sV)) (hr:Region.ready .any l.toArray listed=[i]:=by kernel_rfl) (ho:l[i]?=some o:=by exact U) :
 Gm P l.toArray (f+1) listed wr H0 G0 B ⟨e,D,H,G⟩ K:=jZ i hH hG hr ho h
abbrev dB:=@Gm.o1
theorem Gm.o2 {o1 o2:Oper} (i j:Nat) (g1:Wl P l.toArray [o1] B ⟨e,D,H,G⟩ (Fm P l.toArray f (listed.setIfInBounds i true) wr H0 G0 K)) (g2:Wl P l.toArray [o2] B ⟨e,D,H,G⟩ (Fm P l.toArray f (listed.setIfInBounds j true) wr H0 G0 K))
 (hH:H.sub (H0.live wr listed):=by repeat (first | exact I3 | refine ⟨U,?_⟩)) (hG:G0.le G:=by first | exact cX _ | repeat (first | assumption | refine bL ?_ sV)) (hr:Region.ready .any l.toArray listed=[i,j]:=by kernel_rfl) (h1:l[i]?=some o1:=by exact U) (h2:l[j]?=some o2:=by exact U) :
 Gm P l.toArray (f+1) listed wr H0 G0 B ⟨e,D,H,G⟩ K:=Gm.two i j hH hG hr h1 h2 g1 g2
abbrev oO:=@Gm.o2
theorem Gm.o3 {o1 o2 o3:Oper} (i j k:Nat) (g1:Wl P l.toArray [o1] B ⟨e,D,H,G⟩ (Fm P l.toArray f (listed.setIfInBounds i true) wr H0 G0 K)) (g2:Wl P l.toArray [o2] B ⟨e,D,H,G⟩ (Fm P l.toArray f (listed.setIfInBounds j true) wr H0 G0 K)) (g3:Wl P l.toArray [o3] B ⟨e,D,H,G⟩ (Fm P l.toArray f (listed.setIfInBounds k true) wr H0 G0 K))
 (hH:H.sub (H0.live wr listed):=by repeat (first | exact I3 | refine ⟨U,?_⟩)) (hG:G0.le G:=by first | exact cX _ | repeat (first | assumption | refine bL ?_ sV)) (hr:Region.ready .any l.toArray listed=[i,j,k]:=by kernel_rfl) (h1:l[i]?=some o1:=by exact U) (h2:l[j]?=some o2:=by exact U) (h3:l[k]?=some o3:=by exact U) :
 Gm P l.toArray (f+1) listed wr H0 G0 B ⟨e,D,H,G⟩ K:=QC i j k hH hG hr h1 h2 h3 g1 g2 g3
theorem Gm.fin {Q:Exit→Act→I8→Prop} {x:Exit} (h:Ar Q x B ⟨e,D,H,G⟩) (hr:Region.ready .any ops listed=[]:=by kernel_rfl) (hH:H.sub (H0.live wr listed):=by repeat (first | exact I3 | refine ⟨U,?_⟩)) (hG:G0.le G:=by first | exact cX _ | repeat (first | assumption | refine bL ?_ sV)):Gm P ops 0 listed wr H0 G0 B ⟨e,D,H,G⟩ (Q x):=
 kO hr hH hG h
abbrev eU:=@Gm.fin
theorem Gm.c [T:Tab P] {o:Op} {v:Value} {hs':List Nat} {ob:Prop} (i:Nat) (ts hs:List Nat) (h:Gm P l.toArray f (listed.setIfInBounds i true) wr H0 G0 B ⟨(d,v) :: e,D,H,G⟩ K) (ho:l[i]?=some ⟨some d,o,ty,pos,after,none⟩:=by exact U) (hv:io P e (H0.only ts) hs o=some (v,hs',ob):=by exact rfl)
 (hob:ob:=by first | exact I3 | with_reducible rfl | assumption | omega | rfl) (hn:Nat.ble (d+1) B.n=true:=by exact U) (hB:zK l.toArray listed wr i ts=true:=by kernel_rfl):Gm P l.toArray (f+1) listed wr H0 G0 B ⟨e,D,H,G⟩ K:=
 eT i ts hB ho hn (Zc hv hob) h
theorem Gm.u {o:Op} {v:Value} (i:Nat) (ts:List Nat) (ho:l[i]?=some ⟨some d,o,ty,pos,after,none⟩) (hq:Qy P o ty e (H0.only ts) G0 v) (h:Gm P l.toArray f (listed.setIfInBounds i true) wr H0 G0 B ⟨(d,v) :: e,D,H,G⟩ K)
 (hn:Nat.ble (d+1) B.n=true:=by exact U) (hB:zK l.toArray listed wr i ts=true:=by kernel_rfl):Gm P l.toArray (f+1) listed wr H0 G0 B ⟨e,D,H,G⟩ K:=
 eT i ts hB ho hn hq h
abbrev fH:=@Gm.u
theorem Wl.k [T:Tab P] {f:FuncId} {xs:Array I7} {ats:Array I9} {vs:List Value} {Hi:Hp} {post:Value→A2→Hp→Prop} (k:Nat) (hx:e.evs xs.toList=some vs) (hF:Does P f vs G Hi post) (h:∀ v G' Ho,G.le G'→post v G' Ho→Wl P ops rest B ⟨(d,v) :: e,D,Ho.shift k++(Hi.kill k++H),G'⟩ K)
 (hn:Nat.ble (d+1) B.n=true:=by exact U) (hf:Za (Tab.fn P) f=true:=by exact U) (hHi:∀ t x,Hi.get t=some x→H.get (k+t)=some x:=by first | exact tB I3 | exact tB ⟨U,I3⟩ | exact tB ⟨U,U,I3⟩ | exact tB ⟨U,U,U,I3⟩) :
 Wl P ops (⟨some d,.call { callee:=.value (.func f),args:=xs,argTypes:=ats },ty,pos,after,none⟩ :: rest) B ⟨e,D,H,G⟩ K:=fF k hn (Zb T.fnP hf) hx hF hHi h
abbrev cU:=@Wl.k
theorem Wl.k0 [T:Tab P] {f:FuncId} {xs:Array I7} {ats:Array I9} {vs:List Value} {r:Value} (hx:e.evs xs.toList=some vs) (hF:Does P f vs G [] (fun v G' Ho=>v=r∧G'=G∧Ho=[])) (h:Wl P ops rest B ⟨(d,r) :: e,D,H,G⟩ K)
 (hn:Nat.ble (d+1) B.n=true:=by exact U) (hf:Za (Tab.fn P) f=true:=by exact U) :
 Wl P ops (⟨some d,.call { callee:=.value (.func f),args:=xs,argTypes:=ats },ty,pos,after,none⟩ :: rest) B ⟨e,D,H,G⟩ K:=oH hn (Zb T.fnP hf) hx hF h
abbrev cZ:=@Wl.k0
end
section
variable {P:I6} {fn:Func} {G0:A2} {Hi:Hp} {w0:I8} {post:Value→A2→Hp→Prop} {n:Nat} {e:B0} {H:Hp} {G:A2} {x:Exit} {t1 t2 t3:Nat} {v1 v2 v3:Value}
theorem Ar.e1 (hp:post v1 G (H.only [])) (hx:x=.normal∨x=.ret:=by exact .inr U) (hres:fn.results=#[.tmp t1]:=by exact U) (h1:e.get t1=some v1:=by exact U):Ar (GN P fn G0 Hi w0 post) x ⟨n,w0,Hi.has,G0⟩ ⟨e,[],H,G⟩:=
 cW hx hres (.tmp h1) (bH _ _) hp
abbrev cG:=@Ar.e1
theorem Ar.e2 (hp:post (.tuple #[v1,v2]) G (H.only [])) (hx:x=.normal∨x=.ret:=by exact .inr U) (hres:fn.results=#[.tmp t1,.tmp t2]:=by exact U) (h1:e.get t1=some v1:=by exact U) (h2:e.get t2=some v2:=by exact U):Ar (GN P fn G0 Hi w0 post) x ⟨n,w0,Hi.has,G0⟩ ⟨e,[],H,G⟩:=
 gD hx hres (.tmp h1) (.tmp h2) (bH _ _) hp
abbrev jJ:=@Ar.e2
theorem Ar.e3 (hp:post (.tuple #[v1,v2,v3]) G (H.only [])) (hx:x=.normal∨x=.ret:=by exact .inr U) (hres:fn.results=#[.tmp t1,.tmp t2,.tmp t3]:=by exact U) (h1:e.get t1=some v1:=by exact U) (h2:e.get t2=some v2:=by exact U) (h3:e.get t3=some v3:=by exact U) :
 Ar (GN P fn G0 Hi w0 post) x ⟨n,w0,Hi.has,G0⟩ ⟨e,[],H,G⟩:=Yw hx hres (.tmp h1) (.tmp h2) (.tmp h3) (bH _ _) hp
abbrev lL:=@Ar.e3
end
section
variable {P:I6} {B:Bs} {e:B0} {D:List Deferred} {H:Hp} {G:A2}
end
theorem B3.freezeRow {α:Type} [A0 α] {H:Hp} {G:A2} {w:I8} (hh:B3 H G w) {t:Nat} {ad:J0 Addr} {c:Nat} {E:I9} {xs:List α} {junk:List Value} (ht:H.get t=some (ad.map (·.block),Row E xs junk)) (ho:A3 ad c xs junk) :
 ∃ G',G.le G'∧Arr G' ad xs∧B3 ((t,none,default) :: H) G' w∧∀ b,G' b≠none→G b=none→∃ o,H.get t=some (some b,o):=by
 have hB:A5 ⟨0,w,fun b=>H.has b,G⟩ ⟨[],[],H,G⟩ { tmps:=#[],defers:=[] } w:=
  ⟨U,U,fun i v h=>by simp [B0.get] at h,hh,kZ _ _,fun t b o h=>.inr ⟨t,o,h⟩,cX _,fun b h h0=>(h h0).elim⟩
 rcases ho with ⟨rfl,rfl,rfl,_⟩ | ⟨b,rfl,hrest⟩
 · exact ⟨G,cX _,fG G,(hB.noBlock t default).mem,fun b h h0=>(h h0).elim⟩
 have ht':H.get t=some (some b,Row E xs junk):=ht;obtain ⟨h1,h2⟩:=hB.freeze ht';refine ⟨_,h2,Yx (E:=E) (junk:=junk) (by simp [A2.with]),h1.mem,fun b' hb h0=>?_⟩;have hb':(if b'=b then some (Row E xs junk) else G b')≠none:=hb;split at hb'
 · rename_i h;subst h;exact ⟨_,ht'⟩
 exact (hb' h0).elim
theorem Wb {α β:Type} [A0 α] [A0 β] {P:I6} {f:FuncId} {args:List Value} {G:A2} {E E':I9} {q:Value→J0 Addr→Nat→List α→J0 Addr→Nat→List β→Prop}
 (h:Does P f args G [] (fun v G' Ho=>∃ (a:J0 Addr) (c:Nat) (xs:List α) (j:List Value) (b:J0 Addr) (d:Nat) (ys:List β) (j':List Value),q v a c xs b d ys∧A3 a c xs j∧A3 b d ys j'∧Ho=[(0,a.map (·.block),Row E xs j),(1,b.map (·.block),Row E' ys j')]∧G'=G)) :
 Does P f args G [] (fun v G' Ho=>∃ (a:J0 Addr) (c:Nat) (xs:List α) (b:J0 Addr) (d:Nat) (ys:List β),q v a c xs b d ys∧Arr G' a xs∧Arr G' b ys∧Ho=[]):=by
 intro w hw;refine (h w hw).mono fun x w' ⟨v,G',Ho,h1,h2,h3,h4,h5,h6,a,c,xs,j,b,d,ys,j',hq,ho,ho',hHo,hG⟩=>?_;subst hHo hG;obtain ⟨G1,g1,g2,g3,g4⟩:=h2.freezeRow (t:=0) U ho;obtain ⟨G2,k1,k2,k3,k4⟩:=g3.freezeRow (t:=1) (ad:=b) (E:=E') (xs:=ys) (junk:=j') U ho';have hnil:∀ t b o,Hp.get [] t=some (some b,o)→False:=fun t b o hx=>by simp [Hp.get] at hx
 refine ⟨v,G2,[],h1,⟨fun t b o hx=>(hnil t b o hx).elim,fun t t' b o o' hx=>(hnil t b o hx).elim,k3.imm,fun t b o hx=>(hnil t b o hx).elim⟩,bL g1 k1,h4,fun bb hb h0=>?_,fun t b o hx=>(hnil t b o hx).elim,a,c,xs,b,d,ys,hq,g2.up k1,k2,U⟩;by_cases hg1:G1 bb=none
 · obtain ⟨o,ho2⟩:=k4 bb hb hg1;have ho3:Hp.get [(0,a.map (·.block),Row E xs j),(1,b.map (·.block),Row E' ys j')] 1=some (some bb,o):=by
    rw [bF,aC (by decide)] at ho2;exact ho2
   exact h6 1 bb o ho3
 obtain ⟨o,ho2⟩:=g4 bb hg1 h0;exact h6 0 bb o ho2
section
variable {P:I6} {ops:Array Oper} {rest:List Oper} {B:Bs} {e:B0} {D:List Deferred} {H:Hp} {G:A2} {K:Act→I8→Prop} {ty:I9} {pos:String} {after:Array Edge} {d:Nat}
theorem MK {α:Type} [A0 α] [Inhabited α] {T:I9} {x:I7} {a:J0 Addr} {c:Nat} {E bytes:Nat} {zs:List Value} {xs:List α} {junk:List Value} (t:Nat) (hT:tR P T E (A0.sz α)) (hE:B9 P E (A0.sz α) bytes zs) (hz:A0.enc (default:α)=zs)
 (hx:e.ev x=some (.slice a xs.length c)) (ht:H.get t=some (a.map (·.block),Row E xs junk)) (ho:A3 a c xs junk)
 (h:A3 a c (List.replicate xs.length (default:α)) junk→Wl P ops rest B ⟨e,D,(t,a.map (·.block),Row E (List.replicate xs.length (default:α)) junk) :: H,G⟩ K) :
 Wl P ops (⟨none,.call { callee:=.builtin .clear,args:=#[x],argTypes:=#[T] },ty,pos,after,none⟩ :: rest) B ⟨e,D,H,G⟩ K:=by
 have hlen:(List.replicate xs.length (default:α)).length=xs.length:=tW;have h':=h (by
  rcases ho with ⟨h1,h2,h3,h4⟩ | ⟨b,h1,h2,h3,h4⟩
  · subst h2;exact .inl ⟨h1,U,h3,h4⟩
  exact .inr ⟨b,h1,by rw [hlen];exact h2,by rw [hlen];exact h3,h4⟩)
 by_cases h0:xs=[]
 · subst h0;intro a0 w hh;unfold uG;rw [aE (by simp [Region.wanted])];unfold An;have hrun:(execOp a0.eval ⟨none,.call { callee:=.builtin .clear,args:=#[x],argTypes:=#[T] },ty,pos,after,none⟩).run P w=.ok (.value (.tuple #[])) w:=by
    have hev:a0.eval x=.slice a 0 c:=hh.eval hx;cases a <;> simp [execOp,resolve,invoke,builtin,Builtin.clear_,hev,bB hT.1]
   rw [hrun];exact h' _ _ (hh.reH ht U)
 have hpos:0<xs.length:=rC.2 h0;have ha:=ho.addr hpos;have hbl:=ho.blk hpos;rw [hbl] at ht h';rw [ha] at hx;obtain ⟨i,z,hi,hz1,hz2,hs,hby,hzl,hsz⟩:=hE;obtain ⟨n,hn⟩:∃ n,xs.length=n+1:=⟨xs.length - 1,by omega⟩
 intro a0 w hh;unfold uG;rw [aE (by simp [Region.wanted])];unfold An;have hb:=hh.mem.own t (ab a) _ ht;have hev:a0.eval x=.slice (some ⟨ab a,0,none⟩) xs.length c:=hh.eval hx;have hzc:(Builtin.zeroCells z.cells xs.length).toList=uD (List.replicate xs.length (default:α)):=by
  have h1:z.cells.size=A0.sz α:=by rw [hz2];simpa using hzl
  have h2:Builtin.zeroCells z.cells xs.length=madeCells zs.toArray (xs.length*A0.sz α):=by
   have h3:zs.toArray.size=A0.sz α:=by simpa using hzl
   unfold Builtin.zeroCells madeCells;rw [hz2,h3]
  rw [h2,Vw hz hsz]
 have hfl:(uD (List.replicate xs.length (default:α))).length=(uD xs).length:=by rw [uA,uA,hlen]
 have hst:=oT P (ab a) 0 E (uD (List.replicate xs.length (default:α))) 0 (uD xs++junk).toArray w hb (by simp [hfl]) (by simpa using BW _);have hrun:(execOp a0.eval ⟨none,.call { callee:=.builtin .clear,args:=#[x],argTypes:=#[T] },ty,pos,after,none⟩).run P w=.ok (.value (.tuple #[])) (w.setRow (ab a) (uD (List.replicate xs.length (default:α))++junk).toArray):=by
  have hzv:(zeroValue E).run P w=.ok z w:=by simp [zeroValue,typeInfo,hi,hz1]
  simp only [iY] at hst;rw [hn] at hev;simp only [execOp,resolve,invoke,builtin,Builtin.clear_,bK,bO,aR,pL,dY,pV,hev];simp [bB hT.1,hzv];rw [←hn,hzc,hst];simp [hfl]
 rw [hrun];refine h' _ _ (hh.set ht (wT w (ab a) _) ?_);rw [nL w (ab a) _ _ E _ hb];rfl
abbrev sG:=@MK
end
section
variable {P:I6} {e:B0} {H:Hp} {G:A2} {ty:I9} {t t':I9} {x y:I7} {m n:Int}
theorem ML (hx:e.ev x=some (.int .u32 m)) (hy:e.ev y=some (.int .u32 n)) (hb:0≤m+n∧m+n≤4294967295):Qy P (.binOp .add t x y t') ty e H G (.int .u32 (m+n)):=by
 have:=Pb (P:=P) (H:=H) (G:=G) (ty:=ty) (t:=t) (t':=t') hx hy;rwa [mV _ hb] at this
abbrev mN:=@ML
theorem MM (hx:e.ev x=some (.int .u64 m)) (hy:e.ev y=some (.int .u64 n)) (hb:0≤m+n∧m+n≤18446744073709551615):Qy P (.binOp .add t x y t') ty e H G (.int .u64 (m+n)):=by
 have:=Pb (P:=P) (H:=H) (G:=G) (ty:=ty) (t:=t) (t':=t') hx hy;rwa [oK _ hb] at this
abbrev sI:=@MM
theorem MN (hx:e.ev x=some (.int .u32 m)) (hy:e.ev y=some (.int .u32 n)) (hb:0≤m - n∧m - n≤4294967295):Qy P (.binOp .sub t x y t') ty e H G (.int .u32 (m - n)):=by
 have:=Jn (P:=P) (H:=H) (G:=G) (ty:=ty) (t:=t) (t':=t') hx hy;rwa [mV _ hb] at this
abbrev sH:=@MN
theorem MO (hx:e.ev x=some (.int .u32 m)) (hy:e.ev y=some (.int .u32 n)) (hb:0≤m*n∧m*n≤4294967295):Qy P (.binOp .mul t x y t') ty e H G (.int .u32 (m*n)):=by
 have:=kV (P:=P) (H:=H) (G:=G) (ty:=ty) (t:=t) (t':=t') hx hy;rwa [mV _ hb] at this
theorem We (hx:e.ev x=some (.int .u64 m)) (hy:e.ev y=some (.int .u64 n)) (hb:0≤m*n∧m*n≤18446744073709551615):Qy P (.binOp .mul t x y t') ty e H G (.int .u64 (m*n)):=by
 have:=kV (P:=P) (H:=H) (G:=G) (ty:=ty) (t:=t) (t':=t') hx hy;rwa [oK _ hb] at this
theorem Rf {m n:Int} (h:0≤m):m.tdiv n=m / n:=Int.tdiv_eq_ediv_of_nonneg h
theorem QT {m n:Int} (h:0≤m):m.tmod n=m % n:=Int.tmod_eq_emod_of_nonneg h
theorem Zd {m n:Int} (h:0≤m) (hn:0<n):0≤m / n∧m / n≤m:=⟨Int.ediv_nonneg h (fN hn),Int.ediv_le_self _ h⟩
theorem MP (hx:e.ev x=some (.int .u32 m)) (hy:e.ev y=some (.int .u32 n)) (hb:0≤m∧m≤4294967295∧0<n):Qy P (.binOp .quo t x y t') ty e H G (.int .u32 (m / n)):=by
 have:=Pc (P:=P) (H:=H) (G:=G) (ty:=ty) (t:=t) (t':=t') hx hy sU;have h1:=Zd hb.1 hb.2.2;rwa [Rf hb.1,mV _ ⟨h1.1,Int.le_trans h1.2 hb.2.1⟩] at this
abbrev pI:=@MP
theorem MQ (hx:e.ev x=some (.int .u64 m)) (hy:e.ev y=some (.int .u64 n)) (hb:0≤m∧m≤18446744073709551615∧0<n):Qy P (.binOp .quo t x y t') ty e H G (.int .u64 (m / n)):=by
 have:=Pc (P:=P) (H:=H) (G:=G) (ty:=ty) (t:=t) (t':=t') hx hy sU;have h1:=Zd hb.1 hb.2.2;rwa [Rf hb.1,oK _ ⟨h1.1,Int.le_trans h1.2 hb.2.1⟩] at this
abbrev qY:=@MQ
theorem XC (hx:e.ev x=some (.int .i64 m)) (hy:e.ev y=some (.int .i64 n)) (hb:0≤m∧m≤9223372036854775807∧0<n):Qy P (.binOp .quo t x y t') ty e H G (.int .i64 (m / n)):=by
 have h1:=Zd hb.1 hb.2.2;have h2:m.tdiv n=m / n:=Rf hb.1;have:=nV (P:=P) (H:=H) (G:=G) (ty:=ty) (t:=t) (t':=t') hx hy sU (by rw [h2];exact ⟨by omega,by omega⟩);rwa [h2] at this
abbrev rU:=@XC
theorem XD {k:IntKind} (hx:e.ev x=some (.int k m)) (hy:e.ev y=some (.int k n)) (hb:0≤m∧0<n):Qy P (.binOp .rem t x y t') ty e H G (.int k (m % n)):=by
 have:=sJ (P:=P) (H:=H) (G:=G) (ty:=ty) (t:=t) (t':=t') hx hy sU;rwa [QT hb.1] at this
abbrev kU:=@XD
theorem MR {s:I9} {k:IntKind} (hs:(P.underlying s).isSome=true) (ht:P.underlying t=some (.int .u32)) (hx:e.ev x=some (.int k m)) (hb:0≤m∧m≤4294967295):Qy P (.convert s t x) ty e H G (.int .u32 m):=by
 have:=lS (P:=P) (H:=H) (G:=G) (ty:=ty) hs ht hx;rwa [mV _ hb] at this
abbrev pJ:=@MR
theorem MS {s:I9} {k:IntKind} (hs:(P.underlying s).isSome=true) (ht:P.underlying t=some (.int .u64)) (hx:e.ev x=some (.int k m)) (hb:0≤m∧m≤18446744073709551615):Qy P (.convert s t x) ty e H G (.int .u64 m):=by
 have:=lS (P:=P) (H:=H) (G:=G) (ty:=ty) hs ht hx;rwa [oK _ hb] at this
abbrev mP:=@MS
end
theorem MT {P:I6} {e:B0} {H:Hp} {G:A2} {ty T:I9} {x:I7} {i:Nat} {v0 v1 v:Value} (h:∀ (w:I8) (v0 v1:Value),(Instr.field T (.agg #[v0,v1]) i).run P w=.ok (#[v0,v1][i]?.getD undef) w)
 (hx:e.ev x=some (.agg #[v0,v1])) (hv:#[v0,v1][i]?.getD undef=v):Qy P (.field T x i) ty e H G v:=fun a w _ _ _ _ hh=>by
 subst hv;simp [execOp,hh.eval hx,h]
abbrev sK:=@MT
theorem Ma (a b:Nat) (ha:a<4294967296) (hb:b<4294967296):bits .and .u32 (a:Int) (b:Int)=((a &&& b:Nat):Int):=by
 have hx:a &&& b<2 ^ 32:=Nat.and_lt_two_pow _ sU;have h1:(BitVec.ofInt 32 (a:Int)).toNat=a:=by
  rw [nR,oQ];exact nA sU
 have h2:(BitVec.ofInt 32 (b:Int)).toNat=b:=by
  rw [nR,oQ];exact nA sU
 show IntKind.u32.wrap ((BitVec.ofInt 32 (a:Int) &&& BitVec.ofInt 32 (b:Int)).toNat:Int)=_;rw [BitVec.toNat_and,h1,h2,sP];omega
theorem Ow (a b:Nat) (ha:a<4294967296) (hb:b<4294967296):bits .or .u32 (a:Int) (b:Int)=((a ||| b:Nat):Int):=by
 have hx:a ||| b<2 ^ 32:=Nat.or_lt_two_pow sU sU
 have h1:(BitVec.ofInt 32 (a:Int)).toNat=a:=by
  rw [nR,oQ];exact nA sU
 have h2:(BitVec.ofInt 32 (b:Int)).toNat=b:=by
  rw [nR,oQ];exact nA sU
 show IntKind.u32.wrap ((BitVec.ofInt 32 (a:Int) ||| BitVec.ofInt 32 (b:Int)).toNat:Int)=_;rw [BitVec.toNat_or,h1,h2,sP];omega
theorem CE (x:Int) (h:0≤x∧x<4294967296):bits .and .u32 x 1=x % 2:=by
 have h1:=Ma x.toNat 1 sU sU;rw [Nat.and_one_is_mod,cN h.1] at h1;have h2:((x.toNat % 2:Nat):Int)=x % 2:=sU;exact h1.trans h2
theorem HB (x:Int) (s:Nat) (hx:0≤x∧x<65536) (hs:s<16) (hz:x % ((2 ^ (s+1):Nat):Int)=0):bits .or .u32 x ((2 ^ s:Nat):Int)=x+((2 ^ s:Nat):Int):=by
 have hp:2 ^ s<4294967296:=bZ (Nat.pow_lt_pow_right tI hs) tI;have h1:=Ow x.toNat (2 ^ s) sU hp;rw [cN hx.1] at h1;rw [h1];have hz':x.toNat % 2 ^ (s+1)=0:=by
  have h2:((x.toNat % 2 ^ (s+1):Nat):Int)=0:=by rw [Int.natCast_emod,cN hx.1];exact hz
  exact Int.ofNat_eq_zero.1 h2
 have h3:=mB x.toNat (2 ^ (s+1));rw [hz',iY] at h3;have h4:=Nat.two_pow_add_eq_or_of_lt (b:=2 ^ s) (i:=s+1) (Nat.pow_lt_pow_right tI (cR s)) (x.toNat / 2 ^ (s+1));rw [h3] at h4;rw [←h4,Int.natCast_add,cN hx.1]
structure IV where
 neg:Bool
 a:J0 Addr
 n:Nat
 c:Nat
instance:Inhabited IV:=⟨⟨false,none,0,0⟩⟩
instance:A0 IV:=⟨2,fun x=>[.bool x.neg,.slice x.a x.n x.c],fun _=>rfl,fun _=>rfl⟩
structure SV where
 a:J0 Addr
 n:Nat
 c:Nat
instance:Inhabited SV:=⟨⟨none,0,0⟩⟩
instance:A0 SV:=⟨1,fun x=>[.slice x.a x.n x.c],fun _=>rfl,fun _=>rfl⟩
def A8 (l:List A6):Prop:=∀ d∈l,0≤d.v∧d.v<65536
def sY:List A6→Int
 | []=>0
 | d :: l=>d.v+65536*sY l
def pw (n:Nat):Int:=((65536 ^ n:Nat):Int)
theorem Ju:pw 0=1:=rfl
theorem zN (n:Nat):pw (n+1)=65536*pw n:=by unfold pw;rw [Nat.pow_succ,rX,kN];rfl
theorem yU (n:Nat):0<pw n:=by unfold pw;exact Int.ofNat_lt.2 (Nat.pow_pos tI)
theorem HC (m n:Nat):pw (m+n)=pw m*pw n:=by unfold pw;rw [Nat.pow_add,kN]
theorem Wf {m n:Nat} (h:m≤n):pw m≤pw n:=by unfold pw;exact pZ.2 (lF tI h)
theorem uX:sY []=0:=rfl
theorem vV (d:A6) (l:List A6):sY (d :: l)=d.v+65536*sY l:=rfl
theorem A8.nil:A8 []:=fun d h=>by simp at h
abbrev qT:=@A8.nil
theorem A8.tail {d:A6} {l:List A6} (h:A8 (d :: l)):A8 l:=fun x hx=>h x (aL _ hx)
theorem A8.head {d:A6} {l:List A6} (h:A8 (d :: l)):0≤d.v∧d.v<65536:=h d aQ
theorem A8.append {l m:List A6} (h:A8 l) (h':A8 m):A8 (l++m):=fun x hx=>by
 rcases dR.1 hx with h1 | h1
 · exact h x h1
 exact h' x h1
theorem A8.one {d:Int} (h:0≤d∧d<65536):A8 [⟨d⟩]:=fun x hx=>by
 have:x=⟨d⟩:=by simpa using hx
 subst this;exact h
abbrev pM:=@A8.one
theorem A8.take {l:List A6} (h:A8 l) (n:Nat):A8 (l.take n):=fun x hx=>h x (qP hx)
theorem A8.at {l:List A6} (h:A8 l) {m:Int} (hm:0≤m∧m<l.length):0≤(l[m.toNat]?.getD default).v∧(l[m.toNat]?.getD default).v<65536:=by
 have hl:m.toNat<l.length:=sU;rw [aA hl];exact h _ (bY hl)
theorem uM:∀ {l:List A6},A8 l→0≤sY l
 | [],_=>lH 0
 | d :: l,h=>by
   have h1:=uM h.tail;have h2:=h.head;rw [vV];omega
theorem yQ:∀ {l:List A6},A8 l→sY l<pw l.length
 | [],_=>tI
 | d :: l,h=>by
   have h1:=yQ h.tail;have h2:=h.head;rw [vV,aU,zN];omega
theorem Da:∀ (l m:List A6),sY (l++m)=sY l+pw l.length*sY m
 | [],m=>by rw [fJ,uX,cD,Ju];omega
 | d :: l,m=>by
   rw [List.cons_append,vV,vV,Da l m,aU,zN,eV,←bT];omega
theorem Jv (d:A6):sY [d]=d.v:=by rw [vV,uX];omega
theorem Bp (l:List A6) (d:A6):sY (l++[d])=sY l+pw l.length*d.v:=by rw [Da,Jv]
theorem Fv {l:List A6} {k:Nat} (h:k<l.length):sY (l.take (k+1))=sY (l.take k)+pw k*(l[((k:Nat):Int).toNat]?.getD default).v:=by
 rw [dA,aG,aA h];simp only [Option.toList_some,dI];rw [Bp,bM,fW (Nat.le_of_lt h)]
theorem vY {α:Type} {l:List α} {k:Nat} (h:l.length≤k):l.take k=l:=dU h
theorem Bz (n:Nat):sY (List.replicate n ⟨0⟩)=0:=by
 induction n with
 | zero=>rfl
 | succ n ih=>rw [kB,vV,ih];rfl
theorem HD (n:Nat):A8 (List.replicate n ⟨0⟩):=fun x hx=>by
 have:=iZ hx;subst this;exact ⟨by decide,by decide⟩
abbrev rM:=@HD
theorem MU {l:List A6} {n:Nat} (h:∀ j,n≤j→j<l.length→(l[j]?.getD default).v=0):sY (l.take n)=sY l:=by
 rcases aN n l.length with hn | hn
 · have e:l=l.take n++l.drop n:=(eZ n l).symm;have hz:∀ (m:List A6),(∀ j,j<m.length→(m[j]?.getD default).v=0)→sY m=0:=by
    intro m;induction m with
    | nil=>intro _;rfl
    | cons d m ih =>
      intro h0;have h1:=h0 0 tW;simp only [List.getElem?_cons_zero,dI] at h1;rw [vV,h1,ih fun j hj=>by have:=h0 (j+1) (by simpa using hj);simpa using this];rfl
   have h2:sY (l.drop n)=0:=hz _ fun j hj=>by
    rw [iR];exact h (n+j) sU (by rw [eK] at hj;omega)
   have h3:sY l=sY (l.take n++l.drop n):=by rw [eZ]
   rw [h3,Da,h2];omega
 rw [vY hn]
def H3 (l:List A6):Prop:=l=[]∨(l[l.length - 1]?.getD default).v≠0
theorem H3.nil:H3 []:=.inl U
theorem Ze {l:List A6} (hd:A8 l) (ht:H3 l) (h0:l≠[]):pw (l.length - 1)≤sY l:=by
 have hl:0<l.length:=rC.2 h0;have h1:(l[l.length - 1]?.getD default).v≠0:=by
  rcases ht with h | h
  · exact absurd h h0
  exact h
 have h2:=Fv (l:=l) (k:=l.length - 1) sU;rw [rK hl,vY (aH _),aG] at h2;have h3:=uM (hd.take (l.length - 1));have h4:(1:Int)≤(l[l.length - 1]?.getD default).v:=by
  have:=hd.at (m:=((l.length - 1:Nat):Int)) sU;rw [aG] at this;omega
 have h5:=fE h4 (fN (yU (l.length - 1)));omega
theorem XE {l:List A6} (hd:A8 l) (ht:H3 l) {m:Nat} (h:sY l<pw m):l.length≤m:=by
 by_cases h0:l=[]
 · subst h0;exact aP _
 have h1:=Ze hd ht h0;rcases aN m l.length with h2 | h2
 · have h3:=Wf (show m≤l.length - 1 by omega);omega
 exact h2
theorem Pm {l:List A6} (hd:A8 l) (ht:H3 l) (h0:l≠[]):0<sY l:=mI (yU _) (Ze hd ht h0)
theorem Ca {l m:List A6} (hl:A8 l) (hm:A8 m) (tm:H3 m) (h:l.length<m.length):sY l<sY m:=by
 have h1:=yQ hl;have h2:=Ze hm tm (fun e=>by rw [e] at h;simp at h);have h3:=Wf (show l.length≤m.length - 1 by omega);omega
structure C0 (neg:Bool) (l:List A6) (z:Int):Prop where
 digs:A8 l
 top:H3 l
 sign:l=[]→neg=false
 val:z=if neg=true then -sY l else sY l
theorem C0.abs {neg:Bool} {l:List A6} {z:Int} (h:C0 neg l z):sY l=z.natAbs:=by
 have h1:=uM h.digs;have h2:=h.val;split at h2 <;> omega
theorem C0.neg_iff {neg:Bool} {l:List A6} {z:Int} (h:C0 neg l z):neg=decide (z<0):=by
 have h2:=h.val;by_cases h0:l=[]
 · have h3:=h.sign h0;subst h0;rw [h3] at h2 ⊢;rw [uX] at h2;have:¬z<0:=by simp at h2;omega
   simp [this]
 have h1:=Pm h.digs h.top h0;cases neg with
 | true =>
   rw [aE rfl] at h2;have:z<0:=sU;simp [this]
 | false =>
   rw [aC (by decide)] at h2;have:¬z<0:=sU;simp [this]
theorem C0.zero_iff {neg:Bool} {l:List A6} {z:Int} (h:C0 neg l z):l.length=0↔z=0:=by
 have h2:=h.val;constructor
 · intro h0;have h0:=dT h0;subst h0;rw [uX] at h2;split at h2 <;> omega
 intro hz;by_cases h0:l=[]
 · rw [h0];rfl
 have h1:=Pm h.digs h.top h0;split at h2 <;> omega
theorem C0.len {neg:Bool} {l:List A6} {z:Int} (h:C0 neg l z) {m:Nat} (hz:(z.natAbs:Int)<pw m):l.length≤m:=by
 refine XE h.digs h.top ?_;rw [h.abs];exact hz
def C3 (G:A2) (x:IV) (z:Int):Prop:=∃ l:List A6,l.length=x.n∧x.n≤x.c∧Arr G x.a l∧C0 x.neg l z
theorem C3.up {G G':A2} {x:IV} {z:Int} (h:C3 G x z) (hl:G.le G'):C3 G' x z:=by
 obtain ⟨l,h1,h0,h2,h3⟩:=h;exact ⟨l,h1,h0,h2.up hl,h3⟩
theorem C3.zero (G:A2):C3 G ⟨false,none,0,0⟩ 0:=⟨[],U,aH _,fG G,⟨qT,H3.nil,fun _=>rfl,U⟩⟩
section
variable {P:I6} {B:Bs} {D:List Deferred}
theorem QU {ι:Type} {r:J0 Nat} {c:Code} {Q:Exit→Act→I8→Prop} {e:B0} {H:Hp} {G:A2} (I:ι→B0×Hp) (g:ι→A2) (φ:ι→Prop) (μ:ι→Nat) (i0:ι) (h0:φ i0) (hg:G=g i0)
 (he:e.sub (I i0).1) (hH:H.sub (I i0).2)
 (hb:∀ i,φ i→Wc r P c B ⟨(I i).1,D,(I i).2,g i⟩ (Exit.then (Fj B (fun i=>⟨(I i).1,D,(I i).2,g i⟩) φ μ (μ i)) Q)):Wc r P (.loop c) B ⟨e,D,H,G⟩ Q:=
 Jm (fun i=>⟨(I i).1,D,(I i).2,g i⟩) φ μ i0 h0 (fun _ _ h=>by rw [hg] at h;exact h.sub he hH) hb
abbrev nN:=@QU
end
def C4 (G:A2) (l:List IV) (zs:List Int):Prop:=l.length=zs.length∧∀ i:Nat,i<l.length→C3 G (l[i]?.getD default) (zs[i]?.getD 0)
theorem C4.up {G G':A2} {l:List IV} {zs:List Int} (h:C4 G l zs) (hl:G.le G'):C4 G' l zs:=⟨h.1,fun i hi=>(h.2 i hi).up hl⟩
theorem C4.nil (G:A2):C4 G [] []:=⟨U,fun i hi=>by simp at hi⟩
theorem C4.at {G:A2} {l:List IV} {zs:List Int} (h:C4 G l zs) {m:Int} (hm:0≤m∧m<l.length):C3 G (l[m.toNat]?.getD default) (zs[m.toNat]?.getD 0):=h.2 _ sU
theorem C4.snoc {G:A2} {l:List IV} {zs:List Int} (h:C4 G l zs) {x:IV} {z:Int} (hx:C3 G x z):C4 G (l++[x]) (zs++[z]):=by
 refine ⟨by simp [h.1],fun i hi=>?_⟩;rw [aD,gF] at hi;by_cases hc:i<l.length
 · rw [bC hc,bC (by rw [←h.1];exact hc)];exact h.2 i hc
 have e:i=l.length:=sU;subst e;rw [kW,h.1,kW];exact hx
def Below (m:Nat) (zs:List Int):Prop:=∀ z∈zs,(z.natAbs:Int)<pw m
theorem Below.at {m:Nat} {zs:List Int} (h:Below m zs) (i:Nat):((zs[i]?.getD 0).natAbs:Int)<pw m:=by
 cases hx:zs[i]? with
 | none=>exact yU m
 | some z=>exact h z (List.mem_of_getElem? hx)
theorem Below.mono {m k:Nat} {zs:List Int} (h:Below m zs) (hk:m≤k):Below k zs:=fun z hz=>mI (h z hz) (Wf hk)
def fnB (P : I6) (f : Nat) : Bool := match P.funcs[f]? with | some fn => fn.body.isSome && !(fn.name == "runtime.NumGoroutine") | none => false
theorem H6.of {P:I6}:∀ {l:List Nat},l.all (fnB P)=true→H6 P l
 | [],_=>trivial
 | f :: l,h=>by
   rw [jI,aF] at h;refine ⟨?_,H6.of h.2⟩;have h1:=h.1;unfold fnB at h1;split at h1
   · rename_i fn hf;rw [aF] at h1;exact ⟨fn,hf,h1.1,by simpa using h1.2⟩
   cases h1
theorem F5.of {P:I6}:∀ {l:List Nat},l.all (wZ P)=true→F5 P l
 | [],_=>trivial
 | f :: l,h=>by
   rw [jI,aF] at h;exact ⟨h.1,F5.of h.2⟩
def agB (P:I6) (x:Nat×Nat):Bool:=yH P x.1 x.2 && (match P.info? x.1 with | some i=>Nat.beq i.size x.2 | none=>false)
theorem F6.of {P:I6}:∀ {l:List (Nat×Nat)},l.all (agB P)=true→F6 P l
 | [],_=>trivial
 | x :: l,h=>by
   rw [jI,aF] at h;have h1:=h.1;unfold agB at h1;rw [aF] at h1;refine ⟨⟨h1.1,?_⟩,F6.of h.2⟩;have h2:=h1.2;split at h2
   · rename_i i hi;rw [hi,←aJ h2];rfl
   cases h2
def slB (P:I6) (t:Nat):Bool:=match P.underlying t with | some (.slice E)=>(P.info? E).isSome | _=>false
theorem H5.of {P:I6}:∀ {l:List Nat},l.all (slB P)=true→H5 P l
 | [],_=>trivial
 | t :: l,h=>by
   rw [jI,aF] at h;refine ⟨?_,H5.of h.2⟩;have h1:=h.1;unfold slB at h1;split at h1
   · rename_i E hE;cases hi:P.info? E with
     | none=>rw [hi] at h1;cases h1
     | some i=>exact ⟨E,i.size,hE,by rw [hi];rfl⟩
   cases h1
def XF:List (List Nat)→Nat→Nat
 | [],f=>f
 | _ :: s,f=>XF s f+1
def CF:List (List Nat)→Array Bool→Array Bool
 | [],L=>L
 | [] :: s,L=>CF s L
 | (i :: _) :: s,L=>CF s (L.setIfInBounds i true)
def Jw (ops:Array Oper) (wr:List (Nat×Nat)):List (List Nat)→Array Bool→Bool
 | [],_=>true
 | [] :: _,_=>false
 | (i :: ts) :: s,L=>zK ops L wr i ts && Jw ops wr s (L.setIfInBounds i true)
def eqb (b w:Bool):Bool:=bif b then w else !w
def gmg (l:List Oper) (e:B0):J0 (Nat×Bool)→J0 Bool
 | none=>some true
 | some (j,w)=>match Dk l j with
   | some t=>match e.get t with
     | some (.bool b)=>some (eqb b w)
     | _=>none
   | none=>none
def ic (P:I6) [Tab P] (n:Nat) (l:List Oper) (H0:Hp):List (List Nat)→B0→J0 (B0×Prop)
 | [],e=>some (e,True)
 | [] :: _,_=>none
 | (i :: ts) :: s,e=>match Ur l i with
   | some ⟨some d,o,_,_,_,g⟩=>match Nat.ble (d+1) n with
     | true=>match gmg l e g with
       | some true=>match io P e (H0.only ts) ts o with
         | some (v,_,ob)=>match ic P n l H0 s ((d,v) :: e) with
           | some (e',obs)=>some (e',ob∧obs)
           | none=>none
         | none=>none
       | some false=>match ts with
         | []=>ic P n l H0 s ((d,undef) :: e)
         | _ :: _=>none
       | none=>none
     | false=>none
   | _=>none
theorem CG {l:List Oper} {e:B0} {j:Nat} {w x:Bool} (h:gmg l e (some (j,w))=some x):∃ t,(l[j]?).bind (·.dst)=some t∧e.get t=some (.bool (bif x then w else !w)):=by
 replace h:(match Dk l j with
  | some t=>match e.get t with
    | some (.bool b)=>some (eqb b w)
    | _=>none
  | none=>none)=some x:=h
 split at h
 · rename_i t ht;rw [En] at ht;split at h
   · rename_i b hb;refine ⟨t,ht,hb.trans ?_⟩;cases b <;> cases w <;> cases h <;> rfl
   cases h
 cases h
theorem Zf {P:I6} [T:Tab P] {B:Bs} {D:List Deferred} {H H0:Hp} {G G0:A2} {K:Act→I8→Prop} {l:List Oper} {f:Nat} {wr:List (Nat×Nat)} {e':B0}:∀ {steps:List (List Nat)} {listed:Array Bool} {e:B0} {ob:Prop},ic P B.n l H0 steps e=some (e',ob)→ob→Jw l.toArray wr steps listed=true→Gm P l.toArray f (CF steps listed) wr H0 G0 B ⟨e',D,H,G⟩ K→Gm P l.toArray (XF steps f) listed wr H0 G0 B ⟨e,D,H,G⟩ K
 | [],listed,e,ob,h,_,_,hg=>by cases h;exact hg
 | [] :: s,listed,e,ob,h,_,_,_=>yA
 | (i :: ts) :: s,listed,e,ob,h,hob,hB,hg=>by
   unfold Jw at hB;rw [aF] at hB;unfold ic at h;split at h
   · rename_i d o ty pos after g hi;rw [Ab] at hi;split at h
     · rename_i hn;split at h
       · rename_i hgm;split at h
         · rename_i v hs' ob1 hq;split at h
           · rename_i e1 obs h2;cases h;have hr:=Zf h2 hob.2 hB.2 hg;cases g with
             | none=>exact eT i ts hB.1 hi hn (Zc hq hob.1) hr
             | some jw =>
               obtain ⟨j,w⟩:=jw;obtain ⟨t,ht,he⟩:=CG hgm;exact JB (t:=t) i ts hB.1 hi ht he hn (Zc hq hob.1) hr
           cases h
         cases h
       · rename_i hgm;split at h
         · have hr:=Zf h hob hB.2 hg;cases g with
           | none=>cases hgm
           | some jw =>
             obtain ⟨j,w⟩:=jw;obtain ⟨t,ht,he⟩:=CG hgm;exact bu (t:=t) i hB.1 hi ht he hn hr
         cases h
       cases h
     cases h
   cases h
section
variable {P:I6} {B:Bs} {e e':B0} {D:List Deferred} {H H0:Hp} {G G0:A2} {K:Act→I8→Prop} {ops:Array Oper} {l rest:List Oper} {f:Nat} {listed:Array Bool} {wr:List (Nat×Nat)} {ty:I9} {pos:String} {after:Array Edge} {d:Nat} {ob:Prop}
theorem Gm.r [T:Tab P] (steps:List (List Nat)) (h:Gm P l.toArray f (CF steps listed) wr H0 G0 B ⟨e',D,H,G⟩ K) (hr:ic P B.n l H0 steps e=some (e',ob):=by exact U) (hob:ob:=by (repeat refine And.intro aj ?_);exact I3) (hB:Jw l.toArray wr steps listed=true:=by kernel_rfl) :
 Gm P l.toArray (XF steps f) listed wr H0 G0 B ⟨e,D,H,G⟩ K:=Zf hr hob hB h
abbrev eO:=@Gm.r
theorem Gm.y {o:Op} {v:Value} {j:Nat} {want:Bool} {t:Nat} (i:Nat) (ts:List Nat) (ho:l[i]?=some ⟨some d,o,ty,pos,after,some (j,want)⟩) (hq:Qy P o ty e (H0.only ts) G0 v) (h:Gm P l.toArray f (listed.setIfInBounds i true) wr H0 G0 B ⟨(d,v) :: e,D,H,G⟩ K)
 (hj:(l[j]?).bind (·.dst)=some t:=by exact U) (he:e.get t=some (.bool want):=by exact U) (hn:Nat.ble (d+1) B.n=true:=by exact U) (hB:zK l.toArray listed wr i ts=true:=by kernel_rfl):Gm P l.toArray (f+1) listed wr H0 G0 B ⟨e,D,H,G⟩ K:=
 JB i ts hB ho hj he hn hq h
theorem Wl.p {o:Op} {v:Value} (hq:Qy P o ty e H G v) (h:Wl P ops rest B ⟨(d,v) :: e,D,H,G⟩ K) (hn:Nat.ble (d+1) B.n=true:=by exact U):Wl P ops (⟨some d,o,ty,pos,after,none⟩ :: rest) B ⟨e,D,H,G⟩ K:=fS hn hq h
abbrev aZ:=@Wl.p
theorem Wl.b {e0:B0} {H0:Hp} {v:Value} (n m:Nat) (he:e.drop n=e0:=by exact U) (hf:e0.fresh (e.take n)=true:=by exact U) (hH:H.drop m=H0:=by exact U) (hg:H0.fresh (H.take m)=true:=by exact U) (hv:e.get d=some v:=by exact U) :
 Wl P ops [] B ⟨e,D,H,G⟩ (A5 B ⟨(d,v) :: e0,D,H0,G⟩):=iO n m he hf hH hg hv
abbrev cC:=@Wl.b
theorem Wl.x {T:I9} {x:I7} {v:Value} {cs:List Value} (t:Nat) (h:∀ b,Wl P ops rest B ⟨(d,.pointer (some ⟨b,0,none⟩)) :: e,D,(t,some b,.cells cs.toArray T (0,0)) :: H,G⟩ K) (hn:Nat.ble (d+1) B.n=true:=by exact U) (hx:e.ev x=some v:=by exact U) (hv:v.cells=cs.toArray:=by exact U) :
 Wl P ops (⟨some d,.box T x,ty,pos,after,none⟩ :: rest) B ⟨e,D,H,G⟩ K:=Wl.box t hn hx hv h
abbrev eG:=@Wl.x
variable {α:Type} [A0 α]
theorem Wl.at {T:I9} {x i:I7} {c:Nat} {k:IntKind} {m:Int} {E:Nat} {a:J0 Addr} {xs:List α} (hT:tR P T E (A0.sz α)) (h:Wl P ops rest B ⟨(d,.pointer (some ⟨ab a,ao a+m.toNat*A0.sz α,none⟩)) :: e,D,H,G⟩ K)
 (hx:e.ev x=some (.slice a xs.length c):=by exact U) (hi:e.ev i=some (.int k m):=by exact U) (hs:Arr G a xs:=by assumption) (hb:0≤m∧m<xs.length:=by omega) (hn:Nat.ble (d+1) B.n=true:=by exact U):Wl P ops (⟨some d,.indexAddr T x i,ty,pos,after,none⟩ :: rest) B ⟨e,D,H,G⟩ K:=
 fS hn (lY hT hx hi hs hb) h
abbrev gG:=@Wl.at
theorem ir {T:I9} {x i:I7} {c:Nat} {k:IntKind} {m:Int} {E:Nat} {a:J0 Addr} {xs:List α} {junk:List Value} (hT:tR P T E (A0.sz α)) (h:Wl P ops rest B ⟨(d,.pointer (some ⟨ab a,0+m.toNat*A0.sz α,none⟩)) :: e,D,H,G⟩ K)
 (hx:e.ev x=some (.slice a xs.length c):=by exact U) (hi:e.ev i=some (.int k m):=by exact U) (hs:A3 a c xs junk:=by assumption) (hb:0≤m∧m<xs.length:=by omega) (hn:Nat.ble (d+1) B.n=true:=by exact U):Wl P ops (⟨some d,.indexAddr T x i,ty,pos,after,none⟩ :: rest) B ⟨e,D,H,G⟩ K:=
 fS hn (dM hT hx hi hs hb) h
abbrev gY:=@ir
theorem Wl.lc [Inhabited α] {T:I9} {x:I7} {a:J0 Addr} {xs:List α} {m:Int} {v:Value} (k:Nat) (h1:wZ P T=true) (h:Wl P ops rest B ⟨(d,v) :: e,D,H,G⟩ K) (hx:e.ev x=some (.pointer (some ⟨ab a,ao a+m.toNat*A0.sz α+k,none⟩)):=by exact U)
 (hs:Arr G a xs:=by assumption) (hm:0≤m∧m<xs.length:=by omega) (hk:Nat.ble (k+1) (A0.sz α)=true:=by exact U) (hv:(A0.enc (xs[m.toNat]?.getD default))[k]?=some v:=by exact U) (hn:Nat.ble (d+1) B.n=true:=by exact U):Wl P ops (⟨some d,.load T x,ty,pos,after,none⟩ :: rest) B ⟨e,D,H,G⟩ K:=
 fS hn (eE h1 hx (hs.cell hm k hk hv)) h
abbrev kT:=@Wl.lc
theorem Wl.le [Inhabited α] {T k:I9} {x:I7} {a:J0 Addr} {xs:List α} {m:Int} (h1:yH P T k=true) (h:Wl P ops rest B ⟨(d,.agg (A0.enc (xs[m.toNat]?.getD default)).toArray) :: e,D,H,G⟩ K) (hx:e.ev x=some (.pointer (some ⟨ab a,ao a+m.toNat*A0.sz α,none⟩)):=by exact U)
 (hs:Arr G a xs:=by assumption) (hm:0≤m∧m<xs.length:=by omega) (hl:(A0.enc (xs[m.toNat]?.getD default)).length=k:=by exact U) (hn:Nat.ble (d+1) B.n=true:=by exact U):Wl P ops (⟨some d,.load T x,ty,pos,after,none⟩ :: rest) B ⟨e,D,H,G⟩ K:=
 fS hn (jK h1 hx (hs.elem hm) hl) h
abbrev mL:=@Wl.le
theorem Wl.lo [Inhabited α] {T:I9} {x:I7} {E:I9} {a:J0 Addr} {c:Nat} {xs:List α} {junk:List Value} {m:Int} {v:Value} (t k:Nat) (h1:wZ P T=true) (h:Wl P ops rest B ⟨(d,v) :: e,D,H,G⟩ K) (hx:e.ev x=some (.pointer (some ⟨ab a,0+m.toNat*A0.sz α+k,none⟩)):=by exact U)
 (ht:H.get t=some (a.map (·.block),Row E xs junk):=by exact U) (ho:A3 a c xs junk:=by assumption) (hm:0≤m∧m<xs.length:=by omega) (hk:Nat.ble (k+1) (A0.sz α)=true:=by exact U) (hv:(A0.enc (xs[m.toNat]?.getD default))[k]?=some v:=by exact U) (hn:Nat.ble (d+1) B.n=true:=by exact U) :
 Wl P ops (⟨some d,.load T x,ty,pos,after,none⟩ :: rest) B ⟨e,D,H,G⟩ K:=fS hn (eX t k h1 hx ht ho hm hk hv) h
abbrev jS:=@Wl.lo
theorem Gm.at {T:I9} {x i:I7} {c:Nat} {k:IntKind} {m:Int} {E:Nat} {a:J0 Addr} {xs:List α} (q:Nat) (hT:tR P T E (A0.sz α)) (h:Gm P l.toArray f (listed.setIfInBounds q true) wr H0 G0 B ⟨(d,.pointer (some ⟨ab a,ao a+m.toNat*A0.sz α,none⟩)) :: e,D,H,G⟩ K)
 (ho:l[q]?=some ⟨some d,.indexAddr T x i,ty,pos,after,none⟩:=by exact U) (hx:e.ev x=some (.slice a xs.length c):=by exact U) (hi:e.ev i=some (.int k m):=by exact U) (hs:Arr G0 a xs:=by assumption) (hb:0≤m∧m<xs.length:=by omega) (hn:Nat.ble (d+1) B.n=true:=by exact U) (hB:zK l.toArray listed wr q []=true:=by kernel_rfl) :
 Gm P l.toArray (f+1) listed wr H0 G0 B ⟨e,D,H,G⟩ K:=fH q [] ho (lY hT hx hi hs hb) h hn hB
abbrev kE:=@Gm.at
theorem iu {T:I9} {x i:I7} {c:Nat} {k:IntKind} {m:Int} {E:Nat} {a:J0 Addr} {xs:List α} {junk:List Value} (q:Nat) (hT:tR P T E (A0.sz α)) (h:Gm P l.toArray f (listed.setIfInBounds q true) wr H0 G0 B ⟨(d,.pointer (some ⟨ab a,0+m.toNat*A0.sz α,none⟩)) :: e,D,H,G⟩ K)
 (ho:l[q]?=some ⟨some d,.indexAddr T x i,ty,pos,after,none⟩:=by exact U) (hx:e.ev x=some (.slice a xs.length c):=by exact U) (hi:e.ev i=some (.int k m):=by exact U) (hs:A3 a c xs junk:=by assumption) (hb:0≤m∧m<xs.length:=by omega) (hn:Nat.ble (d+1) B.n=true:=by exact U) (hB:zK l.toArray listed wr q []=true:=by kernel_rfl) :
 Gm P l.toArray (f+1) listed wr H0 G0 B ⟨e,D,H,G⟩ K:=fH q [] ho (dM hT hx hi hs hb) h hn hB
abbrev iA:=@iu
theorem Gm.lc [Inhabited α] {T:I9} {x:I7} {a:J0 Addr} {xs:List α} {m:Int} {v:Value} (q:Nat) (ts:List Nat) (k:Nat) (h1:wZ P T=true) (h:Gm P l.toArray f (listed.setIfInBounds q true) wr H0 G0 B ⟨(d,v) :: e,D,H,G⟩ K) (ho:l[q]?=some ⟨some d,.load T x,ty,pos,after,none⟩:=by exact U)
 (hx:e.ev x=some (.pointer (some ⟨ab a,ao a+m.toNat*A0.sz α+k,none⟩)):=by exact U) (hs:Arr G0 a xs:=by assumption) (hm:0≤m∧m<xs.length:=by omega) (hk:Nat.ble (k+1) (A0.sz α)=true:=by exact U) (hv:(A0.enc (xs[m.toNat]?.getD default))[k]?=some v:=by exact U) (hn:Nat.ble (d+1) B.n=true:=by exact U) (hB:zK l.toArray listed wr q ts=true:=by kernel_rfl) :
 Gm P l.toArray (f+1) listed wr H0 G0 B ⟨e,D,H,G⟩ K:=fH q ts ho (eE h1 hx (hs.cell hm k hk hv)) h hn hB
abbrev rG:=@Gm.lc
theorem Gm.le [Inhabited α] {T k:I9} {x:I7} {a:J0 Addr} {xs:List α} {m:Int} (q:Nat) (h1:yH P T k=true) (h:Gm P l.toArray f (listed.setIfInBounds q true) wr H0 G0 B ⟨(d,.agg (A0.enc (xs[m.toNat]?.getD default)).toArray) :: e,D,H,G⟩ K) (ho:l[q]?=some ⟨some d,.load T x,ty,pos,after,none⟩:=by exact U)
 (hx:e.ev x=some (.pointer (some ⟨ab a,ao a+m.toNat*A0.sz α,none⟩)):=by exact U) (hs:Arr G0 a xs:=by assumption) (hm:0≤m∧m<xs.length:=by omega) (hl:(A0.enc (xs[m.toNat]?.getD default)).length=k:=by exact U) (hn:Nat.ble (d+1) B.n=true:=by exact U) (hB:zK l.toArray listed wr q []=true:=by kernel_rfl) :
 Gm P l.toArray (f+1) listed wr H0 G0 B ⟨e,D,H,G⟩ K:=fH q [] ho (jK h1 hx (hs.elem hm) hl) h hn hB
abbrev oP:=@Gm.le
theorem Gm.lo [Inhabited α] {T:I9} {x:I7} {E:I9} {a:J0 Addr} {c:Nat} {xs:List α} {junk:List Value} {m:Int} {v:Value} (q t k:Nat) (h1:wZ P T=true) (h:Gm P l.toArray f (listed.setIfInBounds q true) wr H0 G0 B ⟨(d,v) :: e,D,H,G⟩ K) (ho:l[q]?=some ⟨some d,.load T x,ty,pos,after,none⟩:=by exact U)
 (hx:e.ev x=some (.pointer (some ⟨ab a,0+m.toNat*A0.sz α+k,none⟩)):=by exact U) (ht:(H0.only [t]).get t=some (a.map (·.block),Row E xs junk):=by exact U) (hw:A3 a c xs junk:=by assumption) (hm:0≤m∧m<xs.length:=by omega) (hk:Nat.ble (k+1) (A0.sz α)=true:=by exact U)
 (hv:(A0.enc (xs[m.toNat]?.getD default))[k]?=some v:=by exact U) (hn:Nat.ble (d+1) B.n=true:=by exact U) (hB:zK l.toArray listed wr q [t]=true:=by kernel_rfl):Gm P l.toArray (f+1) listed wr H0 G0 B ⟨e,D,H,G⟩ K:=fH q [t] ho (eX t k h1 hx ht hw hm hk hv) h hn hB
theorem Wl.ap {s x:I7} {T E bytes:Nat} {zs:List Value} {a ad:J0 Addr} {c c2:Nat} {xs ys:List α} {junk:List Value} (t:Nat) (hT:tR P T E (A0.sz α)) (hE:B9 P E (A0.sz α) bytes zs) (hsrc:Src H G ad ys)
 (h:∀ a' c' junk',A3 a' c' (xs++ys) junk'→Wl P ops rest B ⟨(d,.slice a' (xs++ys).length c') :: e,D,(t,a'.map (·.block),Row E (xs++ys) junk') :: H,G⟩ K) (hs:e.ev s=some (.slice a xs.length c):=by exact U) (hx:e.ev x=some (.slice ad ys.length c2):=by exact U)
 (ht:H.get t=some (a.map (·.block),Row E xs junk):=by exact U) (ho:A3 a c xs junk:=by first | assumption | exact dN | exact iJ tW) (hb:(xs.length+ys.length)*bytes≤140737488355328:=by first | omega | (simp only [aD,aU,cD,maxLen];omega)) (hl:xs.length+ys.length≤maxLen:=by first | omega | (simp only [aD,aU,cD,maxLen];omega)) (hn:Nat.ble (d+1) B.n=true:=by exact U) :
 Wl P ops (⟨some d,.call { callee:=.builtin .append,args:=#[s,x],argTypes:=#[T,T] },ty,pos,after,none⟩ :: rest) B ⟨e,D,H,G⟩ K:=lN t hn hT hE hs hx ht ho hsrc hb hl h
abbrev iP:=@Wl.ap
end
section
variable {P:I6} {B:Bs} {e:B0} {D:List Deferred} {H H0:Hp} {G G0:A2} {K:Act→I8→Prop} {l:List Oper} {f:Nat} {listed:Array Bool} {wr:List (Nat×Nat)} {Q:Exit→Act→I8→Prop} {ops:Array Oper} {p:Prop} [Decidable p]
theorem iv {ι:Type} {I:ι→St} {φ:ι→Prop} {μ:ι→Nat} {m:Nat} (j:ι) (hφ:φ j) (hμ:μ j<m) (hI:I j=⟨(I j).e,D,(I j).H,G⟩:=by exact U) (he:e.sub (I j).e:=by repeat (first | exact I3 | refine ⟨U,?_⟩)) (hH:H.sub (I j).H:=by repeat (first | exact I3 | refine ⟨U,?_⟩)):Ar (Exit.then (Fj B I φ μ m) Q) .normal B ⟨e,D,H,G⟩:=gW j hφ hμ hI he hH
abbrev cO:=@iv
theorem Oa {ι:Type} {I:ι→St} {φ:ι→Prop} (j:ι) (hφ:φ j) (hI:I j=⟨(I j).e,D,(I j).H,G⟩:=by exact U) (he:e.sub (I j).e:=by repeat (first | exact I3 | refine ⟨U,?_⟩)) (hH:H.sub (I j).H:=by repeat (first | exact I3 | refine ⟨U,?_⟩)):Ar (Exit.then (ck B I φ) Q) .normal B ⟨e,D,H,G⟩:=pC j hφ hI he hH
theorem Wc.lp {ι:Type} {r:J0 Nat} {c:Code} (I:ι→B0×Hp) (φ:ι→Prop) (μ:ι→Nat) (i0:ι) (h0:φ i0) (hb:∀ i,φ i→Wc r P c B ⟨(I i).1,D,(I i).2,G⟩ (Exit.then (Fj B (fun i=>⟨(I i).1,D,(I i).2,G⟩) φ μ (μ i)) Q)) (he:e.sub (I i0).1:=by repeat (first | exact I3 | refine ⟨U,?_⟩)) (hH:H.sub (I i0).2:=by repeat (first | exact I3 | refine ⟨U,?_⟩)) :
 Wc r P (.loop c) B ⟨e,D,H,G⟩ Q:=fY I φ μ i0 h0 he hH hb
abbrev gZ:=@Wc.lp
theorem Wc.lg {ι:Type} {r:J0 Nat} {c:Code} (I:ι→B0×Hp) (g:ι→A2) (φ:ι→Prop) (μ:ι→Nat) (i0:ι) (h0:φ i0) (hb:∀ i,φ i→Wc r P c B ⟨(I i).1,D,(I i).2,g i⟩ (Exit.then (Fj B (fun i=>⟨(I i).1,D,(I i).2,g i⟩) φ μ (μ i)) Q)) (hg:G=g i0:=by exact U) (he:e.sub (I i0).1:=by repeat (first | exact I3 | refine ⟨U,?_⟩)) (hH:H.sub (I i0).2:=by repeat (first | exact I3 | refine ⟨U,?_⟩)) :
 Wc r P (.loop c) B ⟨e,D,H,G⟩ Q:=nN I g φ μ i0 h0 hg he hH hb
theorem iw (t:Nat) (h:Wl P ops l B ⟨(t,.bool true) :: e,D,H,G⟩ K) (he:e.get t=some (.bool (decide p)):=by exact U) (hp:p:=by first | assumption | omega):Wl P ops l B ⟨e,D,H,G⟩ K:=nU t he hp h
abbrev rQ:=@iw
theorem ix (t:Nat) (h:Wl P ops l B ⟨(t,.bool false) :: e,D,H,G⟩ K) (he:e.get t=some (.bool (decide p)):=by exact U) (hp:¬p:=by first | assumption | omega):Wl P ops l B ⟨e,D,H,G⟩ K:=rD t he hp h
abbrev iW:=@ix
theorem Wl.o1 {o:Oper} (i:Nat) (h:Wl P l.toArray [o] B ⟨e,D,H,G⟩ (Fm P l.toArray f (listed.setIfInBounds i true) wr H0 G0 K)) (hH:H.sub (H0.live wr listed):=by repeat (first | exact I3 | refine ⟨U,?_⟩)) (hG:G0.le G:=by first | exact cX _ | repeat (first | assumption | refine bL ?_ sV)) (hr:Region.ready .any l.toArray listed=[i]:=by kernel_rfl) (ho:l[i]?=some o:=by exact U) :
 Wl P l.toArray [] B ⟨e,D,H,G⟩ (Fm P l.toArray (f+1) listed wr H0 G0 K):=bW (dB i h hH hG hr ho)
abbrev cY:=@Wl.o1
theorem iy {x:Exit} (h:Ar Q x B ⟨e,D,H,G⟩) (hr:Region.ready .any ops listed=[]:=by kernel_rfl) (hH:H.sub (H0.live wr listed):=by repeat (first | exact I3 | refine ⟨U,?_⟩)) (hG:G0.le G:=by first | exact cX _ | repeat (first | assumption | refine bL ?_ sV)):Wl P ops [] B ⟨e,D,H,G⟩ (Fm P ops 0 listed wr H0 G0 (Q x)):=bW (eU h hr hH hG)
abbrev fB:=@iy
theorem iz [Tab P] {r:J0 Nat} {id:Nat} {e':B0} {ob:Prop} (ts:List Nat) (wr:List (Nat×Nat)) (hm:P.follows .mixedOrders=true) (steps:List (List Nat)) {f:Nat} (h:Gm P l.toArray f (CF steps (Array.replicate l.length false)) wr (H.only ts) G B ⟨e',D,H,G⟩ (Q .normal)) (hf:l.length=XF steps f:=by exact rfl)
 (hr:ic P B.n l (H.only ts) steps e=some (e',ob):=by exact rfl) (hob:ob:=by (repeat refine And.intro aj ?_);exact I3) (hB:Jw l.toArray wr steps (Array.replicate l.length false)=true:=by kernel_rfl) (hd:l.all uW=true:=by exact U) :
 Wc r P (.region id l.toArray true) B ⟨e,D,H,G⟩ Q:=lO ts wr hm hd (by have:=Zf hr hob hB h;rw [←hf] at this;exact this)
abbrev dL:=@iz
end
theorem D0 {P:I6} {G:A2} {f:FuncId} {fn:Func} {c:Code} {n:Nat} {args:List Value} {Hi:Hp} {post:Value→A2→Hp→Prop} (hf:P.funcs[f]?=some fn) (hn:fn.ntmps=n) (h:∀ w,Wc none P c ⟨n,w,Hi.has,G⟩ ⟨wB 0 args,[],Hi,G⟩ (GN P fn G Hi w post)) (hb:fn.body=some c:=by exact U)
 (hl:Nat.ble args.length n=true:=by exact U):Does P f args G Hi post:=jN hf hb hn hl h
section
variable {P:I6} {fn:Func} {G0:A2} {Hi:Hp} {w0:I8} {post:Value→A2→Hp→Prop} {n:Nat} {e:B0} {H:Hp} {G:A2} {x:Exit} {t1 t2:Nat} {v1 v2:Value}
theorem Ar.p1 (L:List Nat) (hp:post v1 G (H.only L)) (hx:x=.normal∨x=.ret:=by exact .inr rfl) (hres:fn.results=#[.tmp t1]:=by exact U) (h1:e.get t1=some v1:=by exact U):Ar (GN P fn G0 Hi w0 post) x ⟨n,w0,Hi.has,G0⟩ ⟨e,[],H,G⟩:=
 cW hx hres (.tmp h1) (bH _ _) hp
theorem Ar.p2 (L:List Nat) (hp:post (.tuple #[v1,v2]) G (H.only L)) (hx:x=.normal∨x=.ret:=by exact .inr rfl) (hres:fn.results=#[.tmp t1,.tmp t2]:=by exact U) (h1:e.get t1=some v1:=by exact U) (h2:e.get t2=some v2:=by exact U):Ar (GN P fn G0 Hi w0 post) x ⟨n,w0,Hi.has,G0⟩ ⟨e,[],H,G⟩:=
 gD hx hres (.tmp h1) (.tmp h2) (bH _ _) hp
end
theorem Wc.i {P:I6} {r:J0 Nat} {B:Bs} {S:St} {Q:Exit→Act→I8→Prop} {c:I7} {x y:Code} {p:Prop} [Decidable p] (ht:p→Wc r P x B S Q) (hf:¬p→Wc r P y B S Q) (hc:S.e.ev c=some (.bool (decide p)):=by exact U):Wc r P (.cond c x y) B S Q:=oA hc ht hf
abbrev cF:=@Wc.i
end Go.Sl
namespace Go.Proofs.YtfdcckcadfhpeaaGreatDoor.T
open Go Go.Sl
theorem u2:Tryz.prog.underlying 2=some (.int .i64):=sX
theorem one3:wZ Tryz.prog 3=true:=sX
theorem size3:(Tryz.prog.info? 3).map (·.size)=some 1:=sX
theorem el3:B9 Tryz.prog 3 1 8 [.int .i64 0]:=lV sX U
theorem u3:Tryz.prog.underlying 3=some (.int .i64):=sX
theorem one4:wZ Tryz.prog 4=true:=sX
theorem size4:(Tryz.prog.info? 4).map (·.size)=some 1:=sX
theorem el4:B9 Tryz.prog 4 1 1 [.bool false]:=lV sX U
theorem u4:Tryz.prog.underlying 4=some .bool:=sX
theorem one5:wZ Tryz.prog 5=true:=sX
theorem u5:Tryz.prog.underlying 5=some (.int .u8):=sX
theorem u6:Tryz.prog.underlying 6=some (.int .u8):=sX
theorem u9:Tryz.prog.underlying 9=some .string:=sX
theorem one22:wZ Tryz.prog 22=true:=sX
theorem sl22:tR Tryz.prog 22 52 2:=⟨by kernel_rfl,by kernel_rfl⟩
theorem one23:wZ Tryz.prog 23=true:=sX
theorem sl23:tR Tryz.prog 23 91 5:=⟨by kernel_rfl,by kernel_rfl⟩
theorem one24:wZ Tryz.prog 24=true:=sX
theorem sl24:tR Tryz.prog 24 3 1:=⟨by kernel_rfl,by kernel_rfl⟩
theorem agg26:yH Tryz.prog 26 4=true:=sX
theorem size26:(Tryz.prog.info? 26).map (·.size)=some 4:=sX
theorem zero26:C7 Tryz.prog 26 [.int .i64 0,.int .i64 0,.slice none 0 0,.slice none 0 0]:=lM sX
theorem fa26_3:Cx Tryz.prog 26 3 3:=fun _ _ _=>sX
theorem st26:B5 Tryz.prog 26 [(0,1),(1,1),(2,1),(3,1)] [.int .i64 0,.int .i64 0,.slice none 0 0,.slice none 0 0]:=iL (Tryz.prog.fieldsOf 26) sX sX sX
theorem agg28:yH Tryz.prog 28 15=true:=sX
theorem zero28:C7 Tryz.prog 28 [.int .i64 0,.int .i64 0,.slice none 0 0,.int .i64 0,.int .i64 0,.slice none 0 0,.slice none 0 0,.int .i64 0,.int .i64 0,.slice none 0 0,.slice none 0 0,.int .i64 0,.int .i64 0,.slice none 0 0,.slice none 0 0]:=lM sX
theorem el28:B9 Tryz.prog 28 15 232 [.int .i64 0,.int .i64 0,.slice none 0 0,.int .i64 0,.int .i64 0,.slice none 0 0,.slice none 0 0,.int .i64 0,.int .i64 0,.slice none 0 0,.slice none 0 0,.int .i64 0,.int .i64 0,.slice none 0 0,.slice none 0 0]:=lV sX U
theorem st28:B5 Tryz.prog 28 [(0,1),(1,1),(2,1),(3,4),(7,4),(11,4)] [.int .i64 0,.int .i64 0,.slice none 0 0,.int .i64 0,.int .i64 0,.slice none 0 0,.slice none 0 0,.int .i64 0,.int .i64 0,.slice none 0 0,.slice none 0 0,.int .i64 0,.int .i64 0,.slice none 0 0,.slice none 0 0]:=iL (Tryz.prog.fieldsOf 28) sX sX sX
theorem u32:Tryz.prog.underlying 32=some (.int .i64):=sX
theorem agg52:yH Tryz.prog 52 2=true:=sX
theorem zero52:C7 Tryz.prog 52 [.int .i64 0,.int .i64 0]:=lM sX
theorem fa52_0:Cx Tryz.prog 52 0 0:=fun _ _ _=>sX
theorem fa52_1:Cx Tryz.prog 52 1 1:=fun _ _ _=>sX
theorem el52:B9 Tryz.prog 52 2 16 [.int .i64 0,.int .i64 0]:=lV sX U
theorem st52:B5 Tryz.prog 52 [(0,1),(1,1)] [.int .i64 0,.int .i64 0]:=iL (Tryz.prog.fieldsOf 52) sX sX sX
theorem ai52:Dj Tryz.prog 52 2:=⟨by kernel_rfl,by kernel_rfl,by kernel_rfl,by kernel_rfl⟩
theorem st62:B5 Tryz.prog 62 [(0,1),(1,1),(2,1)] [.int .i64 0,.int .i64 0,.slice none 0 0]:=iL (Tryz.prog.fieldsOf 62) sX sX sX
theorem sl63:tR Tryz.prog 63 28 15:=⟨by kernel_rfl,by kernel_rfl⟩
theorem one85:wZ Tryz.prog 85=true:=sX
theorem el85:B9 Tryz.prog 85 1 8 [.pointer none]:=lV sX U
theorem sl86:tR Tryz.prog 86 85 1:=⟨by kernel_rfl,by kernel_rfl⟩
theorem agg91:yH Tryz.prog 91 5=true:=sX
theorem zero91:C7 Tryz.prog 91 [.int .i64 0,.int .i64 0,.int .i64 0,.int .i64 0,.int .i64 0]:=lM sX
theorem el91:B9 Tryz.prog 91 5 40 [.int .i64 0,.int .i64 0,.int .i64 0,.int .i64 0,.int .i64 0]:=lV sX U
theorem st91:B5 Tryz.prog 91 [(0,1),(1,1),(2,1),(3,1),(4,1)] [.int .i64 0,.int .i64 0,.int .i64 0,.int .i64 0,.int .i64 0]:=iL (Tryz.prog.fieldsOf 91) sX sX sX
theorem ai91:Dj Tryz.prog 91 5:=⟨by kernel_rfl,by kernel_rfl,by kernel_rfl,by kernel_rfl⟩
theorem agg119:yH Tryz.prog 119 3=true:=sX
theorem zero119:C7 Tryz.prog 119 [.pointer none,.pointer none,.pointer none]:=lM sX
theorem ar119:D2 Tryz.prog 119 3 1 [.pointer none,.pointer none,.pointer none]:=D2.of 85 sX sX sX
theorem sl123:tR Tryz.prog 123 215 1:=⟨by kernel_rfl,by kernel_rfl⟩
theorem zero138:C7 Tryz.prog 138 [.slice none 0 0]:=lM sX
theorem sl138:tR Tryz.prog 138 4 1:=⟨by kernel_rfl,by kernel_rfl⟩
theorem st140:B5 Tryz.prog 140 [(0,1),(1,1)] [.map none,.slice none 0 0]:=iL (Tryz.prog.fieldsOf 140) sX sX sX
theorem st143:B5 Tryz.prog 143 [(0,4),(4,1),(5,1),(6,1),(7,1),(8,1),(9,1)] [.int .i64 0,.int .i64 0,.slice none 0 0,.slice none 0 0,.slice none 0 0,.slice none 0 0,.slice none 0 0,.slice none 0 0,.slice none 0 0,.slice none 0 0]:=iL (Tryz.prog.fieldsOf 143) sX sX sX
theorem ar145:D2 Tryz.prog 145 2 1 [.int .i64 0,.int .i64 0]:=D2.of 3 sX sX sX
theorem one150:wZ Tryz.prog 150=true:=sX
theorem zero150:C7 Tryz.prog 150 [.nilFunc]:=lM sX
theorem agg158:yH Tryz.prog 158 2=true:=sX
theorem zero158:C7 Tryz.prog 158 [.string ByteArray.empty,.nilFunc]:=lM sX
theorem el158:B9 Tryz.prog 158 2 24 [.string ByteArray.empty,.nilFunc]:=lV sX U
theorem st158:B5 Tryz.prog 158 [(0,1),(1,1)] [.string ByteArray.empty,.nilFunc]:=iL (Tryz.prog.fieldsOf 158) sX sX sX
theorem sl159:tR Tryz.prog 159 158 2:=⟨by kernel_rfl,by kernel_rfl⟩
theorem st168:B5 Tryz.prog 168 [(0,1),(1,1),(2,1),(3,1)] [.slice none 0 0,.map none,.map none,.int .i64 0]:=iL (Tryz.prog.fieldsOf 168) sX sX sX
theorem st176:B5 Tryz.prog 176 [(0,1),(1,1),(2,1)] [.int .i64 0,.int .i64 0,.slice none 0 0]:=iL (Tryz.prog.fieldsOf 176) sX sX sX
theorem sl182:tR Tryz.prog 182 191 1:=⟨by kernel_rfl,by kernel_rfl⟩
theorem sl186:tR Tryz.prog 186 190 2:=⟨by kernel_rfl,by kernel_rfl⟩
theorem agg190:yH Tryz.prog 190 2=true:=sX
theorem size190:(Tryz.prog.info? 190).map (·.size)=some 2:=sX
theorem zero190:C7 Tryz.prog 190 [.bool false,.slice none 0 0]:=lM sX
theorem el190:B9 Tryz.prog 190 2 32 [.bool false,.slice none 0 0]:=lV sX U
theorem st190:B5 Tryz.prog 190 [(0,1),(1,1)] [.bool false,.slice none 0 0]:=iL (Tryz.prog.fieldsOf 190) sX sX sX
theorem one191:wZ Tryz.prog 191=true:=sX
theorem size191:(Tryz.prog.info? 191).map (·.size)=some 1:=sX
theorem sl191:tR Tryz.prog 191 190 2:=⟨by kernel_rfl,by kernel_rfl⟩
theorem el191:B9 Tryz.prog 191 1 24 [.slice none 0 0]:=lV sX U
theorem u199:Tryz.prog.underlying 199=some (.int .u64):=sX
theorem u214:Tryz.prog.underlying 214=some (.int .u64):=sX
theorem one215:wZ Tryz.prog 215=true:=sX
theorem size215:(Tryz.prog.info? 215).map (·.size)=some 1:=sX
theorem el215:B9 Tryz.prog 215 1 4 [.int .u32 0]:=lV sX U
theorem u215:Tryz.prog.underlying 215=some (.int .u32):=sX
theorem agg230:yH Tryz.prog 230 4=true:=sX
theorem zero230:C7 Tryz.prog 230 [.int .i64 0,.int .i64 0,.int .i64 0,.int .i64 0]:=lM sX
theorem st230:B5 Tryz.prog 230 [(0,1),(1,1),(2,1),(3,1)] [.int .i64 0,.int .i64 0,.int .i64 0,.int .i64 0]:=iL (Tryz.prog.fieldsOf 230) sX sX sX
theorem ja:Dj Tryz.prog 230 4:=⟨by kernel_rfl,by kernel_rfl,by kernel_rfl,by kernel_rfl⟩
theorem fa267_2:Cx Tryz.prog 267 2 2:=fun _ _ _=>sX
theorem st267:B5 Tryz.prog 267 [(0,1),(1,1),(2,1)] [.int .i64 0,.slice none 0 0,.slice none 0 0]:=iL (Tryz.prog.fieldsOf 267) sX sX sX
theorem mp137:F4 Tryz.prog 137 3 Int:=⟨⟨3,by kernel_rfl,fun _=>by kernel_rfl⟩,H4.int u3⟩
theorem mp166:F4 Tryz.prog 166 230 K4:=⟨⟨3,by kernel_rfl,fun _=>by kernel_rfl⟩,H4.k4 ja⟩
theorem fn12:vF Tryz.prog 12:=⟨Tryz.f12,Tryz.func12,U,by kernel_rfl⟩
theorem fn14:vF Tryz.prog 14:=⟨Tryz.f14,Tryz.func14,U,by kernel_rfl⟩
theorem fn22:vF Tryz.prog 22:=⟨Tryz.f22,Tryz.func22,U,by kernel_rfl⟩
theorem fn36:vF Tryz.prog 36:=⟨Tryz.f36,Tryz.func36,U,by kernel_rfl⟩
theorem fn47:vF Tryz.prog 47:=⟨Tryz.f47,Tryz.func47,U,by kernel_rfl⟩
theorem fn48:vF Tryz.prog 48:=⟨Tryz.f48,Tryz.func48,U,by kernel_rfl⟩
theorem fn49:vF Tryz.prog 49:=⟨Tryz.f49,Tryz.func49,U,by kernel_rfl⟩
theorem fn72:vF Tryz.prog 72:=⟨Tryz.f72,Tryz.func72,U,by kernel_rfl⟩
theorem fn88:vF Tryz.prog 88:=⟨Tryz.f88,Tryz.func88,U,by kernel_rfl⟩
theorem fn89:vF Tryz.prog 89:=⟨Tryz.f89,Tryz.func89,U,by kernel_rfl⟩
theorem fn93:vF Tryz.prog 93:=⟨Tryz.f93,Tryz.func93,U,by kernel_rfl⟩
theorem fn98:vF Tryz.prog 98:=⟨Tryz.f98,Tryz.func98,U,by kernel_rfl⟩
theorem fn99:vF Tryz.prog 99:=⟨Tryz.f99,Tryz.func99,U,by kernel_rfl⟩
theorem fn100:vF Tryz.prog 100:=⟨Tryz.f100,Tryz.func100,U,by kernel_rfl⟩
theorem fn105:vF Tryz.prog 105:=⟨Tryz.f105,Tryz.func105,U,by kernel_rfl⟩
theorem fn121:vF Tryz.prog 121:=⟨Tryz.f121,Tryz.func121,U,by kernel_rfl⟩
theorem fn151:vF Tryz.prog 151:=⟨Tryz.f151,Tryz.func151,U,by kernel_rfl⟩
theorem fn168:vF Tryz.prog 168:=⟨Tryz.f168,Tryz.func168,U,by kernel_rfl⟩
theorem fn188:vF Tryz.prog 188:=⟨Tryz.f188,Tryz.func188,U,by kernel_rfl⟩
theorem fn191:vF Tryz.prog 191:=⟨Tryz.f191,Tryz.func191,U,by kernel_rfl⟩
theorem fn192:vF Tryz.prog 192:=⟨Tryz.f192,Tryz.func192,U,by kernel_rfl⟩
theorem fn193:vF Tryz.prog 193:=⟨Tryz.f193,Tryz.func193,U,by kernel_rfl⟩
theorem fn194:vF Tryz.prog 194:=⟨Tryz.f194,Tryz.func194,U,by kernel_rfl⟩
theorem fn195:vF Tryz.prog 195:=⟨Tryz.f195,Tryz.func195,U,by kernel_rfl⟩
theorem fn196:vF Tryz.prog 196:=⟨Tryz.f196,Tryz.func196,U,by kernel_rfl⟩
theorem fn197:vF Tryz.prog 197:=⟨Tryz.f197,Tryz.func197,U,by kernel_rfl⟩
theorem fn199:vF Tryz.prog 199:=⟨Tryz.f199,Tryz.func199,U,by kernel_rfl⟩
theorem fn216:vF Tryz.prog 216:=⟨Tryz.f216,Tryz.func216,U,by kernel_rfl⟩
theorem fn227:vF Tryz.prog 227:=⟨Tryz.f227,Tryz.func227,U,by kernel_rfl⟩
theorem fn228:vF Tryz.prog 228:=⟨Tryz.f228,Tryz.func228,U,by kernel_rfl⟩
theorem fn229:vF Tryz.prog 229:=⟨Tryz.f229,Tryz.func229,U,by kernel_rfl⟩
theorem fn230:vF Tryz.prog 230:=⟨Tryz.f230,Tryz.func230,U,by kernel_rfl⟩
theorem fn231:vF Tryz.prog 231:=⟨Tryz.f231,Tryz.func231,U,by kernel_rfl⟩
theorem fn232:vF Tryz.prog 232:=⟨Tryz.f232,Tryz.func232,U,by kernel_rfl⟩
theorem fn233:vF Tryz.prog 233:=⟨Tryz.f233,Tryz.func233,U,by kernel_rfl⟩
theorem fn234:vF Tryz.prog 234:=⟨Tryz.f234,Tryz.func234,U,by kernel_rfl⟩
theorem fn278:vF Tryz.prog 278:=⟨Tryz.f278,Tryz.func278,U,by kernel_rfl⟩
theorem mixed:Tryz.prog.follows .mixedOrders=true:=sX
end Go.Proofs.YtfdcckcadfhpeaaGreatDoor.T
namespace Go.Proofs.YtfdcckcadfhpeaaGreatDoor
open Go Go.Sl
instance:Tab Tryz.prog where
 fn:=[10,15,20,33,34,35,41,42,43,44,45,50,52,53,54,56,57,58,59,60,67,69,70,71,72,73,81,82,83,84,85,86,87,90,91,92,94,95,96,97,101,102,103,104,105,106,112,113,114,115,116,117,118,119,120,127,128,141,142,143,144,145,146,147,148,149,150,152,153,154,161,162,163,164,165,166,167,168,186,189,190,198,200,201,210,211,212,213,214,215,216,224,227,244,245,246,264,267,268,277,278,279,280,281,283,284,285]
 fnP:=.of sX
 one:=[3,4,9,22,23,24,76,123,137,138,150,166,272]
 agg:=[(26,4),(28,15),(52,2),(91,5),(119,3),(158,2),(190,2),(230,4)]
 sl:=[22,23,24,63,86,123,138,159,182,191]
 fa:=[(26,0,0),(26,1,1),(26,2,2),(26,3,3),(28,0,0),(28,1,1),(28,2,2),(28,3,3),(28,4,7),(28,5,11),(52,0,0),(52,1,1),(62,0,0),(62,1,1),(62,2,2),(91,0,0),(91,1,1),(91,2,2),(91,3,3),(91,4,4),(140,0,0),(140,1,1),(143,1,4),(143,2,5),(143,3,6),(143,4,7),(143,5,8),(143,6,9),(158,0,0),(158,1,1),(168,0,0),(168,1,1),(168,2,2),(168,3,3),(190,0,0),(190,1,1),(230,1,1),(230,2,2),(267,0,0),(267,1,1),(267,2,2)]
 oneP:=.of sX
 aggP:=.of sX
 slP:=.of sX
 faP:=⟨fun _ _ _=>by kernel_rfl,fun _ _ _=>by kernel_rfl,fun _ _ _=>by kernel_rfl,fun _ _ _=>by kernel_rfl,fun _ _ _=>by kernel_rfl,fun _ _ _=>by kernel_rfl,fun _ _ _=>by kernel_rfl,fun _ _ _=>by kernel_rfl,fun _ _ _=>by kernel_rfl,fun _ _ _=>by kernel_rfl,fun _ _ _=>by kernel_rfl,fun _ _ _=>by kernel_rfl,fun _ _ _=>by kernel_rfl,fun _ _ _=>by kernel_rfl,fun _ _ _=>by kernel_rfl,fun _ _ _=>by kernel_rfl,fun _ _ _=>by kernel_rfl,fun _ _ _=>by kernel_rfl,fun _ _ _=>by kernel_rfl,fun _ _ _=>by kernel_rfl,fun _ _ _=>by kernel_rfl,fun _ _ _=>by kernel_rfl,fun _ _ _=>by kernel_rfl,fun _ _ _=>by kernel_rfl,fun _ _ _=>by kernel_rfl,fun _ _ _=>by kernel_rfl,fun _ _ _=>by kernel_rfl,fun _ _ _=>by kernel_rfl,fun _ _ _=>by kernel_rfl,fun _ _ _=>by kernel_rfl,fun _ _ _=>by kernel_rfl,fun _ _ _=>by kernel_rfl,fun _ _ _=>by kernel_rfl,fun _ _ _=>by kernel_rfl,fun _ _ _=>by kernel_rfl,fun _ _ _=>by kernel_rfl,fun _ _ _=>by kernel_rfl,fun _ _ _=>by kernel_rfl,fun _ _ _=>by kernel_rfl,fun _ _ _=>by kernel_rfl,fun _ _ _=>by kernel_rfl,I3⟩
end Go.Proofs.YtfdcckcadfhpeaaGreatDoor
namespace Go.Proofs.YtfdcckcadfhpeaaGreatDoor.T
open Go Go.Sl
theorem ar296:D2 Tryz.prog 296 64 1 (List.replicate 64 (.int .u8 0)):=D2.of 5 sX sX sX
end Go.Proofs.YtfdcckcadfhpeaaGreatDoor.T
namespace Go.Proofs.YtfdcckcadfhpeaaGreatDoor
open Go Go.Sl
def wH (c:Int):Int:=if c=2 then 1 else if c=4 then 2 else if c=8 then 3 else if c=16 then 4 else if c=32 then 5 else if c=64 then 6 else if c=128 then 7 else if c=256 then 8 else if c=512 then 9 else 0
def JF:List Value:=[0,1,56,2,57,49,28,3,61,58,42,50,38,29,17,4,62,47,59,36,45,43,51,22,53,39,33,30,24,18,12,5,63,55,48,27,60,41,37,16,46,35,44,21,52,32,23,11,54,26,40,15,34,20,31,10,25,14,19,9,13,8,7,6].map fun n=>.int .u8 n
def TabOk (G:A2):Prop:=∀ k v,JF[k]?=some v→G.cell 1 k=some v
theorem TabOk.up {G G':A2} (h:TabOk G) (hl:G.le G'):TabOk G':=fun k v hv=>Nv hl (h k v hv)
theorem TabOk.cell {G:A2} (h:TabOk G) (k:Nat) (v:Value) (hv:JF[k]?=some v):G.cell 1 k=some v:=h k v hv
theorem Ds {c:Int} (h:wH c≠0):c=2∨c=4∨c=8∨c=16∨c=32∨c=64∨c=128∨c=256∨c=512:=by
 unfold wH at h
 repeat' split at h
 all_goals omega
theorem QV:∀ k:Fin 511,(bits .and .i64 ((k.val:Int)+2) ((k.val:Int)+2 - 1)=0)↔wH ((k.val:Int)+2)≠0:=xI
theorem Gq {c:Int} (h:2≤c∧c≤512):bits .and .i64 c (c - 1)=0↔wH c≠0:=by
 have:=QV ⟨(c - 2).toNat,by omega⟩;have e:(((c - 2).toNat:Nat):Int)+2=c:=sU;simpa only [e] using this
theorem Mb {c:Int} (h:c<2):wH c=0:=by
 unfold wH
 repeat' split
 all_goals omega
theorem jb (G:A2) (hT:TabOk G) (c:Int) (h:wH c≠0):Does Tryz.prog 188 [.int .u64 c] G [] (fun v G' Ho=>v=.int .i64 (wH c)∧G'=G∧Ho=[]):=by
 refine D0 Tryz.func188 Tryz.ntmps188 fun w=>?_;rcases Ds h with rfl | rfl | rfl | rfl | rfl | rfl | rfl | rfl | rfl
 · have hcell:=hT.cell 1 (.int .u8 1) U;refine dG ?_;refine dE U ?_;refine aB 1 [] ?_;refine eC ?_;refine cH ?_;refine dG ?_;refine dG ?_;refine dE U ?_;refine aB 2 [] ?_;refine eC ?_;refine cH ?_;refine nO U xL ?_;refine kG ?_;refine cH ?_;refine dG ?_;refine dE U ?_;refine aB 2 [] ?_;refine aZ (nI U) ?_;refine aZ (mA U U) ?_;refine aZ (kV U U) ?_;refine aZ (pE U U sU) ?_;refine iK 10 U (show _=Value.int .u64 1 by kernel_rfl) ?_;refine aZ (jH 1 T.ar296 U U U U) ?_;refine aZ (eE T.one5 U sV) ?_;refine aZ (lS U T.u3 U) ?_;refine aB 1 [] ?_;refine eC ?_;refine cH ?_;refine mR ?_;refine cG ?_;exact ⟨U,U,U⟩
 · have hcell:=hT.cell 3 (.int .u8 2) U;refine dG ?_;refine dE U ?_;refine aB 1 [] ?_;refine eC ?_;refine cH ?_;refine dG ?_;refine dG ?_;refine dE U ?_;refine aB 2 [] ?_;refine eC ?_;refine cH ?_;refine nO U xL ?_;refine kG ?_;refine cH ?_;refine dG ?_;refine dE U ?_;refine aB 2 [] ?_;refine aZ (nI U) ?_;refine aZ (mA U U) ?_;refine aZ (kV U U) ?_;refine aZ (pE U U sU) ?_;refine iK 10 U (show _=Value.int .u64 3 by kernel_rfl) ?_;refine aZ (jH 3 T.ar296 U U U U) ?_;refine aZ (eE T.one5 U sV) ?_;refine aZ (lS U T.u3 U) ?_;refine aB 1 [] ?_;refine eC ?_;refine cH ?_;refine mR ?_;refine cG ?_;exact ⟨U,U,U⟩
 · have hcell:=hT.cell 7 (.int .u8 3) U;refine dG ?_;refine dE U ?_;refine aB 1 [] ?_;refine eC ?_;refine cH ?_;refine dG ?_;refine dG ?_;refine dE U ?_;refine aB 2 [] ?_;refine eC ?_;refine cH ?_;refine nO U xL ?_;refine kG ?_;refine cH ?_;refine dG ?_;refine dE U ?_;refine aB 2 [] ?_;refine aZ (nI U) ?_;refine aZ (mA U U) ?_;refine aZ (kV U U) ?_;refine aZ (pE U U sU) ?_;refine iK 10 U (show _=Value.int .u64 7 by kernel_rfl) ?_;refine aZ (jH 7 T.ar296 U U U U) ?_;refine aZ (eE T.one5 U sV) ?_;refine aZ (lS U T.u3 U) ?_;refine aB 1 [] ?_;refine eC ?_;refine cH ?_;refine mR ?_;refine cG ?_;exact ⟨U,U,U⟩
 · have hcell:=hT.cell 15 (.int .u8 4) U;refine dG ?_;refine dE U ?_;refine aB 1 [] ?_;refine eC ?_;refine cH ?_;refine dG ?_;refine dG ?_;refine dE U ?_;refine aB 2 [] ?_;refine eC ?_;refine cH ?_;refine nO U xL ?_;refine kG ?_;refine cH ?_;refine dG ?_;refine dE U ?_;refine aB 2 [] ?_;refine aZ (nI U) ?_;refine aZ (mA U U) ?_;refine aZ (kV U U) ?_;refine aZ (pE U U sU) ?_;refine iK 10 U (show _=Value.int .u64 15 by kernel_rfl) ?_;refine aZ (jH 15 T.ar296 U U U U) ?_;refine aZ (eE T.one5 U sV) ?_;refine aZ (lS U T.u3 U) ?_;refine aB 1 [] ?_;refine eC ?_;refine cH ?_;refine mR ?_;refine cG ?_;exact ⟨U,U,U⟩
 · have hcell:=hT.cell 31 (.int .u8 5) U;refine dG ?_;refine dE U ?_;refine aB 1 [] ?_;refine eC ?_;refine cH ?_;refine dG ?_;refine dG ?_;refine dE U ?_;refine aB 2 [] ?_;refine eC ?_;refine cH ?_;refine nO U xL ?_;refine kG ?_;refine cH ?_;refine dG ?_;refine dE U ?_;refine aB 2 [] ?_;refine aZ (nI U) ?_;refine aZ (mA U U) ?_;refine aZ (kV U U) ?_;refine aZ (pE U U sU) ?_;refine iK 10 U (show _=Value.int .u64 31 by kernel_rfl) ?_;refine aZ (jH 31 T.ar296 U U U U) ?_;refine aZ (eE T.one5 U sV) ?_;refine aZ (lS U T.u3 U) ?_;refine aB 1 [] ?_;refine eC ?_;refine cH ?_;refine mR ?_;refine cG ?_;exact ⟨U,U,U⟩
 · have hcell:=hT.cell 63 (.int .u8 6) U;refine dG ?_;refine dE U ?_;refine aB 1 [] ?_;refine eC ?_;refine cH ?_;refine dG ?_;refine dG ?_;refine dE U ?_;refine aB 2 [] ?_;refine eC ?_;refine cH ?_;refine nO U xL ?_;refine kG ?_;refine cH ?_;refine dG ?_;refine dE U ?_;refine aB 2 [] ?_;refine aZ (nI U) ?_;refine aZ (mA U U) ?_;refine aZ (kV U U) ?_;refine aZ (pE U U sU) ?_;refine iK 10 U (show _=Value.int .u64 63 by kernel_rfl) ?_;refine aZ (jH 63 T.ar296 U U U U) ?_;refine aZ (eE T.one5 U sV) ?_;refine aZ (lS U T.u3 U) ?_;refine aB 1 [] ?_;refine eC ?_;refine cH ?_;refine mR ?_;refine cG ?_;exact ⟨U,U,U⟩
 · have hcell:=hT.cell 62 (.int .u8 7) U;refine dG ?_;refine dE U ?_;refine aB 1 [] ?_;refine eC ?_;refine cH ?_;refine dG ?_;refine dG ?_;refine dE U ?_;refine aB 2 [] ?_;refine eC ?_;refine cH ?_;refine nO U xL ?_;refine kG ?_;refine cH ?_;refine dG ?_;refine dE U ?_;refine aB 2 [] ?_;refine aZ (nI U) ?_;refine aZ (mA U U) ?_;refine aZ (kV U U) ?_;refine aZ (pE U U sU) ?_;refine iK 10 U (show _=Value.int .u64 62 by kernel_rfl) ?_;refine aZ (jH 62 T.ar296 U U U U) ?_;refine aZ (eE T.one5 U sV) ?_;refine aZ (lS U T.u3 U) ?_;refine aB 1 [] ?_;refine eC ?_;refine cH ?_;refine mR ?_;refine cG ?_;exact ⟨U,U,U⟩
 · have hcell:=hT.cell 61 (.int .u8 8) U;refine dG ?_;refine dE U ?_;refine aB 1 [] ?_;refine eC ?_;refine cH ?_;refine dG ?_;refine dG ?_;refine dE U ?_;refine aB 2 [] ?_;refine eC ?_;refine cH ?_;refine nO U xL ?_;refine kG ?_;refine cH ?_;refine dG ?_;refine dE U ?_;refine aB 2 [] ?_;refine aZ (nI U) ?_;refine aZ (mA U U) ?_;refine aZ (kV U U) ?_;refine aZ (pE U U sU) ?_;refine iK 10 U (show _=Value.int .u64 61 by kernel_rfl) ?_;refine aZ (jH 61 T.ar296 U U U U) ?_;refine aZ (eE T.one5 U sV) ?_;refine aZ (lS U T.u3 U) ?_;refine aB 1 [] ?_;refine eC ?_;refine cH ?_;refine mR ?_;refine cG ?_;exact ⟨U,U,U⟩
 have hcell:=hT.cell 59 (.int .u8 9) U;refine dG ?_;refine dE U ?_;refine aB 1 [] ?_;refine eC ?_;refine cH ?_;refine dG ?_;refine dG ?_;refine dE U ?_;refine aB 2 [] ?_;refine eC ?_;refine cH ?_;refine nO U xL ?_;refine kG ?_;refine cH ?_;refine dG ?_;refine dE U ?_;refine aB 2 [] ?_;refine aZ (nI U) ?_;refine aZ (mA U U) ?_;refine aZ (kV U U) ?_;refine aZ (pE U U sU) ?_;refine iK 10 U (show _=Value.int .u64 59 by kernel_rfl) ?_;refine aZ (jH 59 T.ar296 U U U U) ?_;refine aZ (eE T.one5 U sV) ?_;refine aZ (lS U T.u3 U) ?_;refine aB 1 [] ?_;refine eC ?_;refine cH ?_;refine mR ?_;refine cG ?_;exact ⟨U,U,U⟩
theorem jc (G:A2) (hT:TabOk G) (c:Int) (h:wH c≠0):Does Tryz.prog 143 [.int .u64 c] G [] (fun v G' Ho=>v=.int .i64 (wH c)∧G'=G∧Ho=[]):=by
 refine D0 Tryz.func143 Tryz.ntmps143 fun w=>?_;refine dG ?_;refine dE U ?_;refine aB 1 [] ?_;refine eC ?_;refine cH ?_;refine dG ?_;refine BQ U ?_;refine kG ?_;refine cH ?_;refine dG ?_;refine dE U ?_;refine aB 1 [] ?_;refine oH U T.fn188 U (jb _ sV _ sV) ?_;refine aB 1 [] ?_;refine eC ?_;refine cH ?_;refine mR ?_;refine cG ?_;exact ⟨U,U,U⟩
end Go.Proofs.YtfdcckcadfhpeaaGreatDoor
