/- uN of the proof (part 2): what the rows' text needs of the texts that lead to it. -/
import Derived.Test.YtfdcckcadfhpeaaGreatDoorMRa
set_option linter.unusedVariables false
set_option linter.unusedSimpArgs false
set_option linter.unusedSectionVars false
set_option maxHeartbeats 4000000
set_option maxRecDepth 100000
namespace Go.Sl
open Go
structure R2 where
 a:Int
 b:Int
 deriving DecidableEq
instance:Inhabited R2:=⟨⟨0,0⟩⟩
instance:Cells R2:=⟨2,fun i=>[.int .i64 i.a,.int .i64 i.b],fun _=>rfl,fun _=>rfl⟩
structure R6 where
 a:Int
 b:Int
 c:Int
 d:Int
 e:Int
 f:Int
 deriving DecidableEq
instance:Inhabited R6:=⟨⟨0,0,0,0,0,0⟩⟩
instance:Cells R6:=⟨6,fun i=>[.int .i64 i.a,.int .i64 i.b,.int .i64 i.c,.int .i64 i.d,.int .i64 i.e,.int .i64 i.f],fun _=>rfl,fun _=>rfl⟩
section scope
variable {P:Program} {b:Frame} {a:Act} {k:List Item} {cs:List Frame} {w:World} {Q:Exit→Act→World→Prop} {F:Fence} {n:Nat}
theorem xV {c:Code}:step P (lone (b.atR a (.code (.scope c) :: k)) cs w)=.next (lone (b.atR a (.code c :: .inScope c :: k)) cs w):=
 step_lone_go (by simp [stepG,stepG.exec,Frame.atR])
theorem Rb {c:Code}:step P (lone (b.atR a (.inScope c :: k)) cs w)=.next (lone (b.atR a k) cs w):=
 step_lone_go (by simp [stepG,stepG.exec,Frame.atR])
def Nn (Q:Exit→Act→World→Prop):Exit→Act→World→Prop
 | .goto _,_,_=>False
 | e,a,w=>Q e a w
theorem BV {c:Code} (h:c.wpIn F n P (Nn Q) a w):(Code.scope c).wpIn F n P Q a w:=by
 intro b k cs hro hb hr
 have h0:(lone (b.atR a (.code (.scope c) :: k)) cs w).fenced P F:=fenced_calm hb hr rfl
 obtain ⟨e,a₁,w₁,hq,harr⟩:=h b (.inScope c :: k) cs hro hb hr
 cases e with
 | normal=>exact ⟨.normal,a₁,w₁,hq,.head h0 xV (StepsIn.trans harr (.one (fenced_calm hb hr rfl) Rb))⟩
 | exit id =>
   have hx:exitTo id (.inScope c :: k)=exitTo id k:=by simp [exitTo]
   exact ⟨.exit id,a₁,w₁,hq,fun k' hk=>.head h0 xV (harr.1 k' (by rw [hx];exact hk)),
    fun hr' hk=>let ⟨k₁,h1,h2⟩:=harr.2 hr' (by rw [hx];exact hk);⟨k₁,h1,.head h0 xV h2⟩⟩
 | goto l=>exact hq.elim
 | ret=>exact ⟨_,a₁,w₁,hq,.of_steps (.one h0 xV) harr⟩
 | panic ch=>exact ⟨_,a₁,w₁,hq,.of_steps (.one h0 xV) harr⟩
 | outgrown=>exact ⟨_,a₁,w₁,hq,.of_steps (.one h0 xV) harr⟩
end scope
section scopeS
variable {r:Option Nat} {P:Program} {B:Bs} {S:St} {Q:Exit→Act→World→Prop}
theorem Wc.scope {c:Code} (h:Wc r P c B S (Nn Q)):Wc r P (.scope c) B S Q:=fun a w hh=>BV (h a w hh)
abbrev mH:=@Wc.scope
theorem GJ (h:Ar Q .normal B S):Ar (Nn Q) .normal B S:=h
abbrev sD:=@GJ
theorem GK (h:Ar Q .ret B S):Ar (Nn Q) .ret B S:=h
abbrev iR:=@GK
theorem Ru {id:Nat} (h:Ar Q (.exit id) B S):Ar (Nn Q) (.exit id) B S:=h
end scopeS
theorem Fl {H:Hp}:∀ {L:Hp},(∀ p∈L,H.get p.1=some p.2)→H.sub L
 | [],_=>trivial
 | (i,x) :: L,h=>⟨h (i,x) bF,Fl fun p hp=>h p (aY _ hp)⟩
section
variable {P:Program} {ops:Array Oper} {rest:List Oper} {B:Bs} {e:Env} {D:List Deferred} {H H0:Hp} {G:Imm} {K:Act→World→Prop}
 {ty:TypeId} {pos:String} {after:Array Edge} {d:Nat} {f:Nat} {listed:Array Bool}
theorem Ju {Q:Exit→Act→World→Prop} {x:Exit} (t:Nat) (o:Obj) (h:Ar Q x B ⟨e,D,(t,none,o) :: H,G⟩):Ar Q x B ⟨e,D,H,G⟩:=fun a w hh=>h a w (hh.noBlock t o)
theorem No {o:Op} {j:Nat} {want:Bool} {t:Nat} (hj:(ops[j]?).bind (·.dst)=some t) (he:e.get t=some undef) (hn:Nat.ble (d+1) B.n=true)
 (h:Wl P ops rest B ⟨(d,undef) :: e,D,H,G⟩ K):Wl P ops (⟨some d,o,ty,pos,after,some (j,want)⟩ :: rest) B ⟨e,D,H,G⟩ K:=by
 intro a w hh
 unfold tF
 have hy:yielded ops a.tmps j=none:=by simp [yielded,hj,hh.env t _ he,undef]
 rw [aD (by simp [Region.wanted,hy])]
 exact h _ _ (hh.put hn undef)
end
def Hp.pick (H:Hp):Nat→List Nat→Hp
 | _,[]=>[]
 | i,t :: ts=>match H.get t with | some x=>(i,x) :: Hp.pick H (i+1) ts | none=>Hp.pick H (i+1) ts
theorem Lr (H:Hp):∀ (ts:List Nat) (i j:Nat) (x:Option Nat×Obj),(H.pick i ts).get j=some x→i≤j∧∃ t,ts[j - i]?=some t∧H.get t=some x
 | [],i,j,x,h=>by simp [Hp.pick,Hp.get] at h
 | t :: ts,i,j,x,h=>by
   unfold Hp.pick at h
   have rec':(H.pick (i+1) ts).get j=some x→i≤j∧∃ t',(t :: ts)[j - i]?=some t'∧H.get t'=some x:=fun h=>by
    obtain ⟨h1,t',h2,h3⟩:=Lr H ts (i+1) j x h
    refine ⟨by omega,t',?_,h3⟩
    rw [show j - i=(j - (i+1))+1 by omega]
    simpa using h2
   split at h
   · rename_i y hy
     have h':Hp.get ((i,y) :: H.pick (i+1) ts) j=some x:=h
     rw [bH] at h'
     split at h'
     · rename_i e;subst e;cases h';exact ⟨aH _,t,by simp,hy⟩
     exact rec' h'
   exact rec' h
theorem Hold.pick {B:Bs} {e:Env} {D:List Deferred} {H:Hp} {G:Imm} {a:Act} {w:World} (hh:Hold B ⟨e,D,H,G⟩ a w) {ts:List Nat} (hn:ts.Nodup):Hold B ⟨e,D,H.pick 0 ts,G⟩ a w:=by
 have key:∀ t x,(H.pick 0 ts).get t=some x→∃ t',ts[t]?=some t'∧H.get t'=some x:=fun t x hx=>by
  obtain ⟨_,t',h1,h2⟩:=Lr H ts 0 t x hx
  exact ⟨t',by simpa using h1,h2⟩
 refine ⟨hh.size,hh.defers,hh.env,⟨?_,?_,hh.mem.imm,?_⟩,hh.upd,?_,hh.le,hh.new⟩
 · intro t b o hx;obtain ⟨t',_,h2⟩:=key _ _ hx;exact hh.mem.own _ b o h2
 · intro t u b o o' hx hy
   obtain ⟨t',h1,h2⟩:=key _ _ hx
   obtain ⟨u',h3,h4⟩:=key _ _ hy
   have:=hh.mem.one _ _ b _ _ h2 h4
   subst this
   obtain ⟨h5,h6⟩:=bZ.1 h1
   obtain ⟨h7,h8⟩:=bZ.1 h3
   rcases Nat.lt_trichotomy t u with h | h | h
   · exact absurd (h6.trans h8.symm) (List.pairwise_iff_getElem.1 hn t u h5 h7 h)
   · exact h
   exact absurd (h8.trans h6.symm) (List.pairwise_iff_getElem.1 hn u t h7 h5 h)
 · intro t b o hx;obtain ⟨t',_,h2⟩:=key _ _ hx;exact hh.mem.off _ b o h2
 intro t b o hx;obtain ⟨t',_,h2⟩:=key _ _ hx;exact hh.mine _ b o h2
section
variable {P:Program} {ops:Array Oper} {rest:List Oper} {B:Bs} {e:Env} {D:List Deferred} {H H0:Hp} {G:Imm} {K:Act→World→Prop}
 {ty:TypeId} {pos:String} {after:Array Edge} {d:Nat} {f:Nat} {listed:Array Bool}
theorem Ar.pick {Q:Exit→Act→World→Prop} {x:Exit} (ts:List Nat) (hn:ts.Nodup) (h:Ar Q x B ⟨e,D,H.pick 0 ts,G⟩):Ar Q x B ⟨e,D,H,G⟩:=fun a w hh=>h a w (hh.pick hn)
abbrev lY:=@Ar.pick
theorem Hp.sub_self:∀ (i:Nat) (ts:List Nat),(H.pick i ts).sub (H.pick i ts):=fun i ts=>by
 refine Fl fun p hp=>?_
 have key:∀ (ts:List Nat) (i:Nat) (p:Nat×Option Nat×Obj),p∈H.pick i ts→i≤p.1∧(H.pick i ts).get p.1=some p.2:=by
  intro ts
  induction ts with
  | nil=>intro i p hp;simp [Hp.pick] at hp
  | cons t ts ih =>
    intro i p hp
    unfold Hp.pick at hp ⊢
    split
    · rename_i x hx
      rw [hx] at hp
      rcases iG.1 hp with rfl | hp
      · exact ⟨aH _,by show Hp.get ((i,x) :: _) i=_;rw [bH,aF rfl]⟩
      obtain ⟨h1,h2⟩:=ih (i+1) p hp
      exact ⟨by omega,by show Hp.get ((i,x) :: _) p.1=_;rw [bH,aD (by omega)];exact h2⟩
    rename_i hx
    rw [hx] at hp
    obtain ⟨h1,h2⟩:=ih (i+1) p hp
    exact ⟨by omega,h2⟩
 exact (key ts i p hp).2
abbrev lO:=@Hp.sub_self
def QX {ι:Type} (B:Bs) (I:ι→St) (φ:ι→Prop):Act→World→Prop:=fun a w=>∃ j,φ j∧Hold B (I j) a w
theorem QY {ι:Type} {r:Option Nat} {x y:Code} {Q:Exit→Act→World→Prop} (I:ι→Env×Hp) (φ:ι→Prop)
 (h1:Wc r P x B ⟨e,D,H,G⟩ (Exit.then (QX B (fun i=>⟨(I i).1,D,(I i).2,G⟩) φ) Q)) (h2:∀ i,φ i→Wc r P y B ⟨(I i).1,D,(I i).2,G⟩ Q):Wc r P (.seq x y) B ⟨e,D,H,G⟩ Q:=by
 refine dF fun a w hh b k cs hro hb hr=>?_
 obtain ⟨ex,a',w',hq,ha⟩:=h1 a w hh b k cs hro hb hr
 refine ⟨ex,a',w',?_,ha⟩
 cases ex with
 | normal=>obtain ⟨j,hj,hI⟩:=hq;exact h2 j hj a' w' hI
 | exit id=>exact hq
 | goto l=>exact hq
 | ret=>exact hq
 | panic ch=>exact hq
 | outgrown=>exact hq
abbrev oH:=@QY
theorem QZ {ι:Type} {I:ι→St} {φ:ι→Prop} {Q:Exit→Act→World→Prop} (j:ι) (hφ:φ j)
 (hI:I j=⟨(I j).e,D,(I j).H,G⟩) (he:e.sub (I j).e) (hH:H.sub (I j).H):Ar (Exit.then (QX B I φ) Q) .normal B ⟨e,D,H,G⟩:=
 fun a w hh=>⟨j,hφ,by rw [hI];exact hh.sub he hH⟩
abbrev lZ:=@QZ
def BW (H:Hp) (Gx:Imm):Prop:=∀ t b o,H.get t=some (some b,o)→Gx b=some o
theorem HoldH.lend {H:Hp} {G:Imm} {w:World} (h:HoldH H G w):∃ Gx:Imm,G.le Gx∧BW H Gx∧HoldH [] Gx w∧(∀ b,Gx b≠none→G b=none→∃ t o,H.get t=some (some b,o)):=by
 classical
 refine ⟨fun b=>if hx:∃ o,∃ t,H.get t=some (some b,o) then some (Classical.choose hx) else G b,?_,?_,⟨?_,?_,?_,?_⟩,?_⟩
 · intro b o hb
   have hn:¬∃ o,∃ t,H.get t=some (some b,o):=fun ⟨o',t,ht⟩=>by rw [h.off t b o' ht] at hb;cases hb
   simp only [hn,dif_neg,not_false_eq_true];exact hb
 · intro t b o ht
   have hx:∃ o,∃ t,H.get t=some (some b,o):=⟨o,t,ht⟩
   simp only [hx,dif_pos]
   obtain ⟨t',ht'⟩:=iB hx
   have:=h.one _ _ b _ _ ht ht'
   subst this
   rw [ht] at ht'
   simp only [bY,eT,true_and] at ht'
   rw [←ht']
 · intro t b o hx;simp [Hp.get] at hx
 · intro t t' b o o' hx;simp [Hp.get] at hx
 · intro b o hb
   try simp only at hb
   split at hb
   · rename_i hx
     obtain ⟨t',ht'⟩:=iB hx
     cases hb
     exact h.own t' b _ ht'
   exact h.imm b o hb
 · intro t b o hx;simp [Hp.get] at hx
 intro b hb hg
 try simp only at hb
 split at hb
 · rename_i hx;exact ⟨_,_,(iB hx).choose_spec⟩
 exact absurd hg hb
theorem Arr.own {α:Type} [Cells α] {Gx:Imm} {a:Option Addr} {c:Nat} {E:TypeId} {xs:List α} {junk:List Value} (hb:BW H Gx) (t:Nat) (ht:H.get t=some (a.map (·.block),Row E xs junk)) (ho:OwnA a c xs junk):Arr Gx a xs:=by
 rcases ho with ⟨rfl,rfl,rfl,_⟩ | ⟨b,rfl,_⟩
 · exact kE Gx
 exact Ug (E:=E) (junk:=junk) (hb t b _ ht)
theorem KB {fn:FuncId} {xs:Array Operand} {ats:Array TypeId} {vs:List Value} {post:Imm→Value→Imm→Hp→Prop} (k:Nat)
 (hn:Nat.ble (d+1) B.n=true) (hf:tH P fn) (hx:e.evs xs.toList=some vs)
 (hF:∀ Gx,G.le Gx→BW H Gx→Does P fn vs Gx [] (post Gx))
 (h:∀ v Gx G' Ho,G.le Gx→post Gx v G' Ho→Wl P ops rest B ⟨(d,v) :: e,D,Ho.shift k++H,G⟩ K) :
 Wl P ops (⟨some d,.call { callee:=.value (.func fn),args:=xs,argTypes:=ats },ty,pos,after,none⟩ :: rest) B ⟨e,D,H,G⟩ K:=by
 intro a w hh
 obtain ⟨f,h1,h2,h3⟩:=hf
 unfold tF
 rw [aF (by simp [Region.wanted])]
 unfold De
 have hrun:(execOp a.eval ⟨some d,.call { callee:=.value (.func fn),args:=xs,argTypes:=ats },ty,pos,after,none⟩).run P w=.ok (.enter fn vs.toArray) w:=by
  simp [execOp,resolve,Deferred.ofValue,invoke,Act.eval,hh.args hx,zT w _ h1 h2 h3]
 rw [hrun]
 obtain ⟨Gx,g1,g2,g3,_⟩:=hh.mem.lend
 refine (hF Gx g1 g2 w g3).mono fun x w' ⟨v,G',Ho,q1,q2,q3,q4,q5,q6,q7⟩=>⟨v,q1,?_⟩
 refine h v Gx G' Ho g1 q7 _ _ (Hold.put ?_ hn v)
 have hno:∀ b,¬Hp.has [] b:=fun b ⟨t,o,hx⟩=>by simp [Hp.get] at hx
 have hup:Upd (fun _=>False) w w':=q4.mono (fun k _ hk=>hno k hk)
 have hg:=hh.grow hup
 have hfr:∀ t b o,Ho.get t=some (some b,o)→w.heap.size≤b:=fun t b o hx=>(q6 t b o hx).resolve_right (hno b)
 have hsplit:∀ i b o,(Ho.shift k++H).get i=some (some b,o)→(k≤i∧Ho.get (i - k)=some (some b,o))∨H.get i=some (some b,o):=by
  intro i b o hx
  rw [fD,gC] at hx
  by_cases hi:k≤i
  · rw [aF hi] at hx
    cases hgg:Ho.get (i - k) with
    | some x=>rw [hgg] at hx;exact .inl ⟨hi,by simpa using hx⟩
    | none=>rw [hgg] at hx;simp only [iK] at hx;exact .inr hx
  rw [aD hi] at hx;simp only [iK] at hx;exact .inr hx
 refine ⟨hg.size,hg.defers,hg.env,⟨?_,?_,hg.mem.imm,?_⟩,hg.upd,?_,hg.le,hg.new⟩
 · intro i b o hx
   rcases hsplit i b o hx with ⟨_,h'⟩ | h'
   · exact q2.own _ b o h'
   exact hg.mem.own i b o h'
 · intro i j b o o' hx hy
   rcases hsplit i b o hx with ⟨hi,h'⟩ | h' <;> rcases hsplit j b o' hy with ⟨hj,h''⟩ | h''
   · have:=q2.one _ _ b _ _ h' h'';omega
   · have:=hfr _ b o h';have h4:b<w.heap.size:=hh.mem.lt h'';omega
   · have:=hfr _ b o' h'';have h4:b<w.heap.size:=hh.mem.lt h';omega
   exact hg.mem.one _ _ b _ _ h' h''
 · intro i b o hx
   rcases hsplit i b o hx with ⟨_,h'⟩ | h'
   · have hb:=hfr _ b o h'
     cases hgb:G b with
     | none=>exact hgb
     | some y=>have:b<w.heap.size:=hh.mem.ltG hgb;omega
   exact hg.mem.off i b o h'
 intro i b o hx
 rcases hsplit i b o hx with ⟨_,h'⟩ | h'
 · exact .inl (aV hh.upd.size (hfr _ b o h'))
 exact hh.mine i b o h'
theorem KC {fn:FuncId} {xs:Array Operand} {ats:Array TypeId} {vs:List Value} {Hi:Hp} {q:Value→Prop} (k:Nat)
 (hn:Nat.ble (d+1) B.n=true) (hf:tH P fn) (hx:e.evs xs.toList=some vs)
 (hF:Does P fn vs G Hi (fun v G' Ho=>q v∧G'=G∧Ho=Hi)) (hHi:∀ t x,Hi.get t=some x→H.get (k+t)=some x)
 (h:∀ v,q v→Wl P ops rest B ⟨(d,v) :: e,D,H,G⟩ K) :
 Wl P ops (⟨some d,.call { callee:=.value (.func fn),args:=xs,argTypes:=ats },ty,pos,after,none⟩ :: rest) B ⟨e,D,H,G⟩ K:=by
 refine eK k hn hf hx hF hHi fun v G' Ho _ ⟨h1,h2,h3⟩=>?_
 subst h2 h3
 intro a w hh
 refine h v h1 a w (hh.weaken (fun _ _ h=>h) (fun t x hx=>?_))
 rw [fD,gC]
 by_cases hk:k≤t
 · rw [aF hk]
   cases hg:Hp.get Ho (t - k) with
   | some y =>
     have:=hHi _ _ hg
     rw [show k+(t - k)=t by omega,hx] at this
     simpa using this.symm
   | none =>
     simp only [iK]
     rw [fD]
     cases hkl:(Hp.kill k Ho).get t with
     | none=>simpa using hx
     | some y =>
       exfalso
       have key:∀ (L:Hp),L.get (t - k)=none→(Hp.kill k L).get t=none:=by
        intro L
        induction L with
        | nil=>intro _;rfl
        | cons z L ih =>
          obtain ⟨j,z⟩:=z
          intro hz
          rw [bH] at hz
          show Hp.get ((k+j,none,default) :: Hp.kill k L) t=none
          rw [bH]
          split at hz
          · cases hz
          rename_i hne;rw [aD (by omega)];exact ih hz
       rw [key Ho hg] at hkl;cases hkl
 rw [aD hk]
 simp only [iK]
 rw [fD]
 cases hkl:(Hp.kill k Ho).get t with
 | none=>simpa using hx
 | some y =>
   exfalso
   have key:∀ (L:Hp),(Hp.kill k L).get t=none:=by
    intro L
    induction L with
    | nil=>rfl
    | cons z L ih =>
      obtain ⟨j,z⟩:=z
      show Hp.get ((k+j,none,default) :: Hp.kill k L) t=none
      rw [bH,aD (by omega)];exact ih
   rw [key Ho] at hkl;cases hkl
theorem KD {fn:FuncId} {xs:Array Operand} {ats:Array TypeId} {vs:List Value} {Hi:Hp} {r:Value} (k:Nat)
 (hn:Nat.ble (d+1) B.n=true) (hf:tH P fn) (hx:e.evs xs.toList=some vs)
 (hF:Does P fn vs G Hi (fun v G' Ho=>v=r∧G'=G∧Ho=Hi)) (hHi:∀ t x,Hi.get t=some x→H.get (k+t)=some x)
 (h:Wl P ops rest B ⟨(d,r) :: e,D,H,G⟩ K) :
 Wl P ops (⟨some d,.call { callee:=.value (.func fn),args:=xs,argTypes:=ats },ty,pos,after,none⟩ :: rest) B ⟨e,D,H,G⟩ K:=
 KC k hn hf hx hF hHi (fun v hv=>hv▸h)
abbrev eH:=@KD
def DW (H:Hp) (k:Nat):Hp→Prop
 | []=>True
 | (t,x) :: L=>H.get (k+t)=some x∧DW H k L
theorem sJ {k:Nat}:∀ {Hi:Hp},DW H k Hi→∀ t x,Hi.get t=some x→H.get (k+t)=some x
 | [],_,t,x,h=>by simp [Hp.get] at h
 | (j,y) :: L,⟨h1,h2⟩,t,x,h=>by
   rw [bH] at h
   split at h
   · rename_i hj;subst hj;cases h;exact h1
   exact sJ h2 t x h
section own
variable {α:Type} [Cells α] {a:Option Addr} {c:Nat} {xs:List α} {junk:List Value}
theorem OwnA.addr (h:OwnA a c xs junk) (hn:0<xs.length):a=some ⟨ab a,0,none⟩:=by
 rcases h with ⟨_,h,_⟩ | ⟨b,rfl,_⟩
 · subst h;simp at hn
 rfl
theorem OwnA.blk (h:OwnA a c xs junk) (hn:0<xs.length):a.map (·.block)=some (ab a):=by rw [h.addr hn];rfl
theorem OwnA.le (h:OwnA a c xs junk):xs.length≤c:=by
 rcases h with ⟨_,rfl,_,rfl⟩ | ⟨b,_,_,h,_⟩
 · simp
 exact h
theorem Rc {T:TypeId} {x i:Operand} {k:IntKind} {m:Int} {E:Nat} (hT:sW P T E (Cells.sz α)) (hx:e.ev x=some (.slice a xs.length c)) (hi:e.ev i=some (.int k m)) (ho:OwnA a c xs junk) (hb:0≤m∧m<xs.length) :
 Qy P (.indexAddr T x i) ty e H G (.pointer (some ⟨ab a,0+m.toNat*Cells.sz α,none⟩)):=by
 have ha:=ho.addr sE
 rw [ha] at hx
 exact eI hT hx hi hb
abbrev dO:=@Rc
theorem KE [Inhabited α] {T:TypeId} {x:Operand} {E:TypeId} {m:Int} {v:Value} (t k:Nat) (h1:wL P T=true) (hx:e.ev x=some (.pointer (some ⟨ab a,0+m.toNat*Cells.sz α+k,none⟩)))
 (ht:H.get t=some (a.map (·.block),Row E xs junk)) (ho:OwnA a c xs junk) (hm:0≤m∧m<xs.length) (hk:Nat.ble (k+1) (Cells.sz α)=true) (hv:(Cells.enc (xs[m.toNat]?.getD default))[k]?=some v):Qy P (.load T x) ty e H G v:=by
 rw [ho.blk sE] at ht
 exact Xm t k h1 hx ht hm hk hv
abbrev fG:=@KE
theorem GL [Inhabited α] {T:TypeId} {x:Operand} {E:TypeId} {m:Int} (t:Nat) (h1:yB P T (Cells.sz α)=true) (hx:e.ev x=some (.pointer (some ⟨ab a,0+m.toNat*Cells.sz α,none⟩)))
 (ht:H.get t=some (a.map (·.block),Row E xs junk)) (ho:OwnA a c xs junk) (hm:0≤m∧m<xs.length):Qy P (.load T x) ty e H G (.agg (Cells.enc (xs[m.toNat]?.getD default)).toArray):=by
 rw [ho.blk sE] at ht
 exact Jq t h1 hx ht hm
abbrev pK:=@GL
theorem RA {T:TypeId} {x y:Operand} {E:TypeId} {m:Int} {v:Value} {z:α} (t:Nat) (hs:(P.info? T).map (·.size)=some (Cells.sz α))
 (hx:e.ev x=some (.pointer (some ⟨ab a,0+m.toNat*Cells.sz α,none⟩))) (hy:e.ev y=some v) (ht:H.get t=some (a.map (·.block),Row E xs junk)) (ho:OwnA a c xs junk) (hm:0≤m∧m<xs.length) (hv:v.cells=(Cells.enc z).toArray)
 (h:OwnA a c (xs.set m.toNat z) junk→Wl P ops rest B ⟨e,D,(t,a.map (·.block),Row E (xs.set m.toNat z) junk) :: H,G⟩ K):Wl P ops (⟨none,.store T x y,ty,pos,after,none⟩ :: rest) B ⟨e,D,H,G⟩ K:=by
 have h':=h (by
  rcases ho with ⟨_,h,_⟩ | ⟨b,h1,h2,h3,h4⟩
  · subst h;simp at hm;omega
  exact .inr ⟨b,h1,by simpa using h2,by simpa using h3,h4⟩)
 have hb:=ho.blk sE
 rw [hb] at ht h'
 exact DT t hs hx hy hv ht hm h'
abbrev cU:=@RA
theorem subA_zero {n sz c:Nat} {cs:List Value} (h:SlG G a n sz cs):subA a c 0 sz=a:=by
 unfold subA;split
 · rfl
 cases a <;> simp [Addr.add]
end own
end
section
variable {P:Program} {ops:Array Oper} {rest:List Oper} {B:Bs} {e:Env} {D:List Deferred} {H:Hp} {G:Imm} {K:Act→World→Prop} {ty:TypeId} {pos:String} {after:Array Edge}
end
def lrec (q:Loop) (s:LoopState) (p:Option Code):Obj:=.loop { q with state:=s,pending:=p }
def YieldDoes (P:Program) (l:Nat) (vs:List Value) (G:Imm) (Hi:Hp) (post:Value→Imm→Hp→Prop):Prop:=
 ∀ w,HoldH Hi G w→∃ f tmps assign body,(Instr.yield l vs.toArray).run P w=.ok (.round l f tmps assign body) w∧RoundIn Fence.wide 0 P l f tmps assign body w (DoesPost G Hi w post)
def Hq {β:Type} (P:Program) (f:FuncId) (caps:List Value) (G:Imm) (enc:β→List Value) (xs:List β):Prop:=
 ∀ (ι:Type) (J:ι→Hp) (inv:Nat→ι→Prop) (stop:ι→Prop) (l:Nat) (i0:ι),inv 0 i0→
  (∀ k x i,xs[k]?=some x→inv k i→YieldDoes P l (enc x) G (J i) (fun v G' Ho=>G'=G∧∃ j,Ho=J j∧((v=.bool true∧inv (k+1) j)∨(v=.bool false∧stop j))))→
  Does P f (.func (.yield l) #[] #[] :: caps) G (J i0) (fun v G' Ho=>G'=G∧∃ j,Ho=J j∧(inv xs.length j∨stop j))
def Al (K:Nat):Hp→Bool
 | []=>true
 | (t,_) :: h=>Nat.ble (t+1) K && Al K h
theorem Hr {K:Nat}:∀ {A:Hp},Al K A=true→∀ t,K≤t→A.get t=none
 | [],_,t,_=>rfl
 | (i,x) :: A,h,t,ht=>by
   simp only [Al,aU] at h
   have h1:=dD h.1
   rw [bH,aD (by omega)]
   exact Hr h.2 t ht
abbrev qB:=@Hr
section
variable {P:Program} {ops:Array Oper} {rest:List Oper} {B:Bs} {e:Env} {D:List Deferred} {H:Hp} {G:Imm} {K:Act→World→Prop}
 {ty:TypeId} {pos:String} {after:Array Edge} {d:Nat}
theorem Dq (k:Nat):∀ (L:Hp) (t:Nat),t<k→(Hp.kill k L).get t=none
 | [],_,_=>rfl
 | (j,z) :: L,t,h=>by
   show Hp.get ((k+j,none,default) :: Hp.kill k L) t=none
   rw [bH,aD (by omega)]
   exact Dq k L t h
theorem Hold.tail {a:Act} {w:World} (k:Nat) {A Hi Ho:Hp} {G':Imm} (hA:Al k A=true) (hh:Hold B ⟨e,D,Ho.shift k++(Hi.kill k++(A++Hi.shift k)),G'⟩ a w):Hold B ⟨e,D,A++Ho.shift k,G'⟩ a w:=by
 refine hh.weaken (fun _ _ h=>h) fun t x hx=>?_
 rw [fD] at hx
 rw [fD,fD,fD]
 rcases aK t k with ht | ht
 · have h1:(Ho.shift k).get t=none:=by rw [gC,aD (by omega)]
   have h2:(Hi.shift k).get t=none:=by rw [gC,aD (by omega)]
   have h3:(Hi.kill k).get t=none:=Dq k Hi t ht
   rw [h1,h2,h3]
   rw [h1] at hx
   simpa using hx
 rw [qB hA t ht] at hx
 simp only [iK] at hx
 rw [hx];rfl
theorem Wl.yield {g:Operand} {l:Nat} {xs:Array Operand} {ats:Array TypeId} {vs:List Value} {A Hi:Hp} {post:Value→Imm→Hp→Prop} (k:Nat)
 (hn:Nat.ble (d+1) B.n=true) (hg:e.ev g=some (.func (.yield l) #[] #[])) (hx:e.evs xs.toList=some vs) (hH:H=A++Hi.shift k) (hA:Al k A=true)
 (hF:YieldDoes P l vs G Hi post) (h:∀ v G' Ho,G.le G'→post v G' Ho→Wl P ops rest B ⟨(d,v) :: e,D,A++Ho.shift k,G'⟩ K) :
 Wl P ops (⟨some d,.call { callee:=.value g,args:=xs,argTypes:=ats },ty,pos,after,none⟩ :: rest) B ⟨e,D,H,G⟩ K:=by
 intro a w hh
 subst hH
 unfold tF
 rw [aF (by simp [Region.wanted])]
 unfold De
 have hHi:∀ t x,Hi.get t=some x→Hp.get (A++Hi.shift k) (k+t)=some x:=fun t x hx=>by
  rw [fD,qB hA (k+t) sE,iK,gC,aF (by omega),kG];exact hx
 have hw:HoldH Hi G w:=⟨fun t b o x=>hh.mem.own _ b o (hHi _ _ x),fun t t' b o o' x y=>by have:=hh.mem.one _ _ b _ _ (hHi _ _ x) (hHi _ _ y);omega,hh.mem.imm,fun t b o x=>hh.mem.off _ b o (hHi _ _ x)⟩
 obtain ⟨f,tmps,assign,body,hy,hR⟩:=hF w hw
 have hrun:(execOp a.eval ⟨some d,.call { callee:=.value g,args:=xs,argTypes:=ats },ty,pos,after,none⟩).run P w=.ok (.round l f tmps assign body) w:=by
  simp [execOp,resolve,Deferred.ofValue,invoke,hh.eval hg,hh.args hx,hy]
 rw [hrun]
 refine hR.mono fun x w' ⟨v,G',Ho,h1,h2,h3,h4,h5,h6,h7⟩=>⟨v,h1,?_⟩
 exact h v G' Ho h3 h7 _ _ (((hh.called k hHi h2 h3 h4 h5 h6).tail k hA).put hn v)
def Hp.tl (H:Hp) (k:Nat) (T:Hp):Prop:=∀ t x,(T.shift k).get t=some x→H.get t=some x
theorem BX (k:Nat) (T:Hp):Hp.tl (T.shift k) k T:=fun _ _ h=>h
theorem BY {k t:Nat} {x:Option Nat×Obj} {H T:Hp} (ht:Nat.ble (t+1) k=true) (h:Hp.tl H k T):Hp.tl ((t,x) :: H) k T:=fun i y hi=>by
 have hk:k≤i:=by
  rcases aK i k with h1 | h1
  · rw [gC,aD (by omega)] at hi;cases hi
  exact h1
 have:=dD ht
 rw [bH,aD (by omega)]
 exact h i y hi
theorem Hold.cutT {a:Act} {w:World} {e':Env} {A T:Hp} {k:Nat} (hh:Hold B ⟨e,D,H,G⟩ a w) (he:e.sub e') (hH:H.sub A) (ht:H.tl k T):Hold B ⟨e',D,A++T.shift k,G⟩ a w:=by
 refine hh.weaken (Dg he) fun t x hx=>?_
 rw [fD] at hx
 cases hA:A.get t with
 | some y =>
   rw [hA] at hx
   have hx':y=x:=by simpa using hx
   subst hx'
   exact kW hH t y hA
 | none=>rw [hA] at hx;exact ht t x (by simpa using hx)
theorem Jv {g:Operand} {l:Nat} {xs:Array Operand} {ats:Array TypeId} {vs:List Value} {A Hi:Hp} {post:Value→Imm→Hp→Prop} (k:Nat)
 (hn:Nat.ble (d+1) B.n=true) (hg:e.ev g=some (.func (.yield l) #[] #[])) (hx:e.evs xs.toList=some vs) (hH:H.sub A) (ht:H.tl k Hi) (hA:Al k A=true)
 (hF:YieldDoes P l vs G Hi post) (h:∀ v G' Ho,G.le G'→post v G' Ho→Wl P ops rest B ⟨(d,v) :: e,D,A++Ho.shift k,G'⟩ K) :
 Wl P ops (⟨some d,.call { callee:=.value g,args:=xs,argTypes:=ats },ty,pos,after,none⟩ :: rest) B ⟨e,D,H,G⟩ K:=by
 intro a w hh
 refine Wl.yield (H:=A++Hi.shift k) k hn hg hx rfl hA hF h a w (hh.weaken (fun _ _ h=>h) (fun t x hx=>?_))
 rw [fD] at hx
 cases hA:A.get t with
 | some y =>
   rw [hA] at hx
   have hx':y=x:=by simpa using hx
   subst hx'
   exact kW hH t y hA
 | none=>rw [hA] at hx;exact ht t x (by simpa using hx)
theorem Xn {ι:Type} {r:Option Nat} {c:Code} {Q:Exit→Act→World→Prop} (k:Nat) (I:ι→Env×Hp) (T:ι→Hp) (φ:ι→Prop) (μ:ι→Nat) (i0:ι) (h0:φ i0)
 (he:e.sub (I i0).1) (hH:H.sub (I i0).2) (ht:H.tl k (T i0))
 (hb:∀ i,φ i→Wc r P c B ⟨(I i).1,D,(I i).2++(T i).shift k,G⟩ (Exit.then (Dh B (fun i=>⟨(I i).1,D,(I i).2++(T i).shift k,G⟩) φ μ (μ i)) Q)):Wc r P (.loop c) B ⟨e,D,H,G⟩ Q:=
 Hl (fun i=>⟨(I i).1,D,(I i).2++(T i).shift k,G⟩) φ μ i0 h0 (fun _ _ h=>h.cutT he hH ht) hb
theorem GM {ι:Type} {I:ι→Env×Hp} {T:ι→Hp} {k:Nat} {φ:ι→Prop} {μ:ι→Nat} {m:Nat} {Q:Exit→Act→World→Prop} (j:ι) (hφ:φ j) (hμ:μ j<m)
 (he:e.sub (I j).1) (hH:H.sub (I j).2) (ht:H.tl k (T j)):Ar (Exit.then (Dh B (fun i=>⟨(I i).1,D,(I i).2++(T i).shift k,G⟩) φ μ m) Q) .normal B ⟨e,D,H,G⟩:=
 fun a w hh=>⟨j,hφ,hμ,hh.cutT he hH ht⟩
theorem Mi {r:Option Nat} {c:Code} {Q:Exit→Act→World→Prop} (k:Nat) (h:Wc r P c B ⟨e,D,H.shift k,G⟩ Q):Wc r P c B ⟨e,D,H,G⟩ Q:=by
 intro a w hh
 have hg:∀ t x,(H.shift k).get t=some x→k≤t∧H.get (t - k)=some x:=fun t x hx=>by
  rw [gC] at hx
  split at hx
  · rename_i h1;exact ⟨h1,hx⟩
  cases hx
 refine h a w ⟨hh.size,hh.defers,hh.env,⟨?_,?_,hh.mem.imm,?_⟩,hh.upd,?_,hh.le,hh.new⟩
 · intro t b o hx;exact hh.mem.own _ b o (hg _ _ hx).2
 · intro t t' b o o' hx hy
   have h1:=hg _ _ hx;have h2:=hg _ _ hy
   have:=hh.mem.one _ _ b _ _ h1.2 h2.2;omega
 · intro t b o hx;exact hh.mem.off _ b o (hg _ _ hx).2
 intro t b o hx;exact hh.mine _ b o (hg _ _ hx).2
theorem VX {H L:Hp} (h:H.sub L):∀ t x,L.get t=some x→H.get t=some x:=kW h
abbrev oU:=@VX
theorem Gd {H A T:Hp} {k:Nat} (h:H.sub A) (ht:H.tl k T):∀ t x,Hp.get (A++T.shift k) t=some x→H.get t=some x:=fun t x hx=>by
 rw [fD] at hx
 cases hA:A.get t with
 | some y =>
   rw [hA] at hx
   have hx':y=x:=by simpa using hx
   subst hx'
   exact kW h t y hA
 | none=>rw [hA] at hx;exact ht t x (by simpa using hx)
theorem Xo {H L:Hp} {i:Nat} {y:Option Nat×Obj} (h:H.get i=some y) (hL:∀ t x,L.get t=some x→H.get t=some x):∀ t x,Hp.get ((i,y) :: L) t=some x→H.get t=some x:=fun t x hx=>by
 rw [bH] at hx
 split at hx
 · rename_i he;subst he;cases hx;exact h
 exact hL t x hx
abbrev qT:=@Xo
theorem Xp {A T:Hp} {k t:Nat} (h:A.get t=none) (hk:Nat.ble (t+1) k=true):Hp.get (A++T.shift k) t=none:=by
 have:=dD hk
 rw [fD,h,iK,gC,aD (by omega)]
theorem RB {fn:Func} {G0:Imm} {Hi Ho:Hp} {w0:World} {post:Value→Imm→Hp→Prop} {n k:Nat} {x:Exit} (hx:x=.normal∨x=.ret) (hres:fn.results=#[]) (ht:H.tl k Ho) (hp:post (.tuple #[]) G Ho) :
 Ar (BR P fn G0 Hi w0 post) x ⟨n,w0,Hi.has,G0⟩ ⟨e,[],H,G⟩:=by
 intro a w hh
 have key:a.defers=[]∧∃ v,(results fn a.tmps).run P w=.ok v w∧DoesPost G0 Hi w0 post (.returned v) w:=by
  have hg:∀ t x,Ho.get t=some x→H.get (k+t)=some x:=fun t x hx=>ht _ _ (by rw [gC,aF (by omega),kG];exact hx)
  refine ⟨hh.defers,.tuple #[],by simp [yM,hres],.tuple #[],G,Ho,rfl,⟨?_,?_,hh.mem.imm,?_⟩,hh.le,hh.upd,hh.new,?_,hp⟩
  · intro t b o h;exact hh.mem.own _ b o (hg _ _ h)
  · intro t t' b o o' h h';have:=hh.mem.one _ _ b _ _ (hg _ _ h) (hg _ _ h');omega
  · intro t b o h;exact hh.mem.off _ b o (hg _ _ h)
  intro t b o h;exact hh.mine _ b o (hg _ _ h)
 rcases hx with rfl | rfl <;> exact key
abbrev pE:=@RB
def RC (P:Program) (fn:Func) (G:Imm) (Hi:Hp) (w:World) (post:Value→Imm→Hp→Prop):Exit→Act→World→Prop:=bodyPostM (FF none) 0 P fn (DoesPost G Hi w post)
theorem Xq {f:FuncId} {fn:Func} {c:Code} {n:Nat} {args:List Value} {Hi:Hp} {post:Value→Imm→Hp→Prop} (hf:P.funcs[f]?=some fn) (hb:fn.body=some c) (hn:fn.ntmps=n)
 (hl:Nat.ble args.length n=true) (h:∀ w,Wc none P c ⟨n,w,Hi.has,G⟩ ⟨xN 0 args,[],Hi,G⟩ (RC P fn G Hi w post)):Does P f args G Hi post:=by
 intro w hw
 have hl':=dD hl
 refine Af.1 (callsIn_of_wp_marks (F:=FF none) (n:=0) hf hb trivial (h w _ w ?_))
 refine ⟨?_,rfl,?_,hw,mI _ _,fun t b o hx=>.inr ⟨t,o,hx⟩,bK _,fun b h1 h2=>(h1 h2).elim⟩
 · simp [hn];omega
 intro i v hi
 obtain ⟨_,h2⟩:=qV args 0 i v hi
 have h2':args[i]?=some v:=by simpa using h2
 have hlt:i<args.length:=(bZ.1 h2').1
 show (args.toArray++Array.replicate (fn.ntmps - args.toArray.size) undef)[i]?=some v
 rw [oY (by simpa using hlt)]
 simpa using h2'
abbrev nS:=@Xq
def mark (b:Nat):Deferred:={ target:=.collected b,args:=#[] }
theorem Am (w:World) (b:Nat) (o:Obj):Upd (·=b) w (w.putObj b o):=⟨rfl,rfl,rfl,by simp,fun k _ hk=>World.putObj_heap_other hk⟩
section out
variable {fn:Func} {G0:Imm} {Hi:Hp} {w0:World} {post:Value→Imm→Hp→Prop} {x:Exit}
theorem BZ (hx:x=.normal∨x=.ret) (t:Nat) {b:Nat} (ht:H.get t=some (some b,.deferred (some []))) (h:Ar (RC P fn G0 Hi w0 post) .ret B ⟨e,D,(t,some b,.deferred none) :: H,G⟩) :
 Ar (RC P fn G0 Hi w0 post) x B ⟨e,mark b :: D,H,G⟩:=by
 intro a w hh
 have hb:w.heap[b]?=some (.deferred (some [])):=hh.mem.own t b _ ht
 have hlt:=(eY.1 hb).1
 have hh1:Hold B ⟨e,D,H,G⟩ { a with defers:=D } w:=⟨hh.size,rfl,hh.env,hh.mem,hh.upd,hh.mine,hh.le,hh.new⟩
 have h1:=h _ _ (hh1.set ht (Am w b (.deferred none)) (kR hlt))
 have key:LeavesInM (FF none) 0 P fn a.tmps (DoesPost G0 Hi w0 post) a.defers .returning w:=by
  rw [hh.defers]
  exact ⟨by simp,.inl ⟨b,_,rfl,run_takeDeferred hb,h1⟩⟩
 rcases hx with rfl | rfl <;> exact key
abbrev nJ:=@BZ
theorem KF (hx:x=.normal∨x=.ret) (h:Ar (BR P fn G0 Hi w0 post) .ret B ⟨e,[],H,G⟩):Ar (RC P fn G0 Hi w0 post) x B ⟨e,[],H,G⟩:=by
 intro a w hh
 obtain ⟨hd,v,hr,hR⟩:=h a w hh
 have key:LeavesInM (FF none) 0 P fn a.tmps (DoesPost G0 Hi w0 post) a.defers .returning w:=by
  rw [hd];exact ⟨v,hr,hR⟩
 rcases hx with rfl | rfl <;> exact key
abbrev nT:=@KF
end out
def Env.ps:List Nat→List Value→Env→Env
 | t :: ts,v :: vs,e=>Env.ps ts vs ((t,v) :: e)
 | _,_,e=>e
def Np (P:Program) (l:Nat) (body:Code) (R:Ending→World→Prop):Exit→Act→World→Prop:=
 Exit.then (fun a₁ w₁=>∃ w₂,(Instr.beginRound l).run P w₁=.ok () w₂∧body.wpIn (FF (some l)) 0 P (roundPost P l R) a₁ w₂) (fun _ _ _=>False)
theorem KG {l:Nat} {body:Code} {R:Ending→World→Prop} {q:Loop} {p:Option Code} (t:Nat) (ht:H.get t=some (some l,lrec q .ready p))
 (h:Wc (some l) P body B ⟨e,D,(t,some l,lrec q .busy p) :: H,G⟩ (roundPost P l R)):Ar (Np P l body R) .normal B ⟨e,D,H,G⟩:=by
 intro a w hh
 have hb:=hh.mem.own t l _ ht
 have hlt:=(eY.1 hb).1
 refine ⟨_,run_beginRound hb rfl,?_⟩
 exact h _ _ (hh.set ht (Am w l _) (kR hlt))
abbrev qZ:=@KG
section round
variable {ι:Type} {x:Exit} {l n:Nat} {w0:World} {Hi:Hp} {G0:Imm} {post:Value→Imm→Hp→Prop} {q:Loop} {p:Option Code}
theorem Xr (c:Option Code) (hx:(x=.normal∧c=none)∨(x=.ret∧c=some .ret)∨∃ id,x=.exit id∧c=some (.exit id)) (t:Nat) (ht:H.get t=some (some l,lrec q .busy p)) {Ho:Hp}
 (hp:post (.bool c.isNone) G Ho) (hHo:∀ i y,Ho.get i=some y→Hp.get ((t,some l,lrec q (if c.isNone then .ready else .done) c) :: H) i=some y) :
 Ar (roundPost P l (DoesPost G0 Hi w0 post)) x ⟨n,w0,Hi.has,G0⟩ ⟨e,D,H,G⟩:=by
 intro a w hh
 have hb:=hh.mem.own t l _ ht
 have hlt:=(eY.1 hb).1
 have h2:=hh.set ht (o':=lrec q (if c.isNone then .ready else .done) c) (Am w l _) (kR hlt)
 have h3:=h2.weaken (e':=e) (H':=Ho) (fun _ _ h=>h) hHo
 have key:∃ v w',(Instr.endRound l c).run P w=.ok v w'∧DoesPost G0 Hi w0 post (.returned v) w':=
  ⟨_,_,run_endRound c hb,.bool c.isNone,G,Ho,rfl,h3.mem,h3.le,h3.upd,h3.new,h3.mine,hp⟩
 rcases hx with ⟨rfl,rfl⟩ | ⟨rfl,rfl⟩ | ⟨id,rfl,rfl⟩ <;> exact key
abbrev kQ:=@Xr
end round
theorem Dr {n:Nat}:∀ (ts:List Nat) (vs:List Value) (e:Env) (tmps:Array Value),tmps.size=n→(∀ i v,e.get i=some v→tmps[i]?=some v)→ts.all (fun t=>Nat.ble (t+1) n)=true→
 ((ts.zip vs).foldl (fun t (p:Nat×Value)=>t.setIfInBounds p.1 p.2) tmps).size=n∧∀ i v,(Env.ps ts vs e).get i=some v→((ts.zip vs).foldl (fun t (p:Nat×Value)=>t.setIfInBounds p.1 p.2) tmps)[i]?=some v
 | [],vs,e,tmps,hs,he,_=>by
   have:Env.ps [] vs e=e:=by cases vs <;> rfl
   rw [this];simpa using ⟨hs,he⟩
 | t :: ts,[],e,tmps,hs,he,_=>by simpa [Env.ps] using ⟨hs,he⟩
 | t :: ts,v :: vs,e,tmps,hs,he,hb=>by
   simp only [kB,aU] at hb
   have ht:=dD hb.1
   refine Dr ts vs ((t,v) :: e) (tmps.setIfInBounds t v) (by simpa using hs) (fun i u hu=>?_) hb.2
   rw [jG] at hu
   rw [Array.getElem?_setIfInBounds]
   by_cases hi:t=i
   · rw [aF hi] at hu ⊢;rw [aF (by omega)];exact hu
   rw [aD hi] at hu ⊢;exact he i u hu
section stmt
variable {β ι:Type} {Q:Exit→Act→World→Prop} {f:FuncId} {fst caps:List Value} {enc:β→List Value} {xs:List β} {ps:List Nat} {assign body:Code} {g:Operand}
def YF:Option Code→LoopState | none=>.ready | some _=>.done
abbrev RJ (tl td:Nat) (q:Loop) (l dd:Nat) (A:Hp) (p:Option Code):Hp:=(tl,some l,lrec q (YF p) p) :: (td,some dd,.deferred (some [])) :: A
theorem Wc.rangeFunc (tl td:Nat) (I:ι→Hp) (inv:Nat→ι→Prop) (stop:Code→ι→Prop) (i0:ι) (hg:e.ev g=some (.func (.func f) #[] caps.toArray)) (hf:tH P f)
 (hps:∀ x,(enc x).length=ps.length) (hpb:ps.all (fun t=>Nat.ble (t+1) B.n)=true) (hit:Hq P f caps G enc xs) (h0:inv 0 i0) (hH:∀ t x,(I i0).get t=some x→H.get t=some x)
 (htl:Nat.beq tl td=false∧∀ i,(I i).get tl=none)
 (hround:∀ k x i l dd q w0,xs[k]?=some x→inv k i→Wc (some l) P assign ⟨B.n,w0,(RJ tl td q l dd (I i) none).has,G⟩ ⟨Env.ps ps (enc x) e,[],RJ tl td q l dd (I i) none,G⟩
  (Np P l body (DoesPost G (RJ tl td q l dd (I i) none) w0 (fun v G' Ho=>G'=G∧∃ j:ι×Option Code,Ho=RJ tl td q l dd (I j.1) j.2∧((v=.bool true∧j.2=none∧inv (k+1) j.1)∨(v=.bool false∧∃ c,j.2=some c∧stop c j.1))))))
 (hdone:∀ j dd,inv xs.length j→Ar Q .normal B ⟨e,mark dd :: D,(td,some dd,.deferred (some [])) :: I j,G⟩)
 (hstop:∀ j dd c,stop c j→Wc none P c B ⟨e,mark dd :: D,(td,some dd,.deferred (some [])) :: I j,G⟩ Q) :
 Wc none P (.rangeFunc g ps.toArray assign body) B ⟨e,D,H,G⟩ Q:=by
 intro a w hh
 refine wpIn_rangeFunc fun fn _=>?_
 obtain ⟨q,hq⟩:∃ q:Loop,q={ state:=.ready,pending:=none,fn,tmps:=a.tmps,params:=ps.toArray,assign,body,defers:=w.heap.size }:=⟨_,rfl⟩
 obtain ⟨fnn,hf1,hf2,hf3⟩:=hf
 obtain ⟨ht3,htI⟩:=htl
 have hne:tl≠td:=fun h=>by subst h;simp at ht3
 have hA:=hh.alloc td (.deferred (some []))
 have hB:=hA.alloc tl (lrec q .ready none)
 rw [World.size_alloc] at hB
 refine ⟨w.heap.size+1,[mark w.heap.size],(w.alloc (.deferred (some []))).alloc (lrec q .ready none),{ target:=.fn (.func f) caps.toArray,args:=#[.func (.yield (w.heap.size+1)) #[] #[]] },(w.alloc (.deferred (some []))).alloc (lrec q .ready none),f,
  (.func (.yield (w.heap.size+1)) #[] #[] :: caps).toArray,(w.alloc (.deferred (some []))).alloc (lrec q .ready none),?_,?_,?_,?_,fun h=>by simp [FF] at h,?_⟩
 · have:=run_enterLoop_outer (P:=P) (w:=w) fn a.tmps ps.toArray assign body
   rw [hq];exact this
 · have hev:Act.eval a g=.func (.func f) #[] caps.toArray:=hh.eval hg
   simp only [resolve,hev]
   simp [go_sem]
 · intro f' hf';trivial
 · simp [invoke,zT _ _ hf1 hf2 hf3]
 have hB':Hold B ⟨e,D,RJ tl td q (w.heap.size+1) w.heap.size (I i0) none,G⟩ a ((w.alloc (.deferred (some []))).alloc (lrec q .ready none)):=by
  refine hB.weaken (fun _ _ h=>h) fun t x hx=>?_
  rw [bH] at hx ⊢
  split at hx <;> rename_i h1
  · rw [aF h1];exact hx
  rw [aD h1]
  rw [bH] at hx ⊢
  split at hx <;> rename_i h2
  · rw [aF h2];exact hx
  rw [aD h2];exact hH t x hx
 have hC:=hit (ι×Option Code) (fun s=>RJ tl td q (w.heap.size+1) w.heap.size (I s.1) s.2) (fun k j=>j.2=none∧inv k j.1) (fun j=>∃ c,j.2=some c∧stop c j.1) (w.heap.size+1) (i0,none) ⟨rfl,h0⟩ (fun k x i hx hi=>?_)
 · refine Af.2 ((hC _ hB'.mem).mono fun ex w' ⟨v,G',Ho,h1,h2,h3,h4,h5,h6,h7,j,h8,h9⟩=>?_)
   subst h1 h7
   have hcl:=hB'.called 0 (Hi:=RJ tl td q (w.heap.size+1) w.heap.size (I i0) none) (fun t x hx=>by rw [dC];exact hx) h2 h3 h4 h5 h6
   have hD:Hold B ⟨e,D,Ho,G'⟩ a w':=hcl.weaken (fun _ _ h=>h) (fun t x hx=>by
    rw [fD,gC,aF (aM _),mV,hx];rfl)
   rw [h8] at hD
   obtain ⟨ji,jp⟩:=j
   have hget:Hp.get (RJ tl td q (w.heap.size+1) w.heap.size (I ji) jp) tl=some (some (w.heap.size+1),lrec q (YF jp) jp):=by
    rw [bH,aF rfl]
   have hbk:=hD.mem.own tl _ _ hget
   have hlt:=(eY.1 hbk).1
   have hE:=hD.set hget (o':=lrec q .exhausted jp) (Am w' _ _) (kR hlt)
   have hF:Hold B ⟨e,D,(td,some w.heap.size,.deferred (some [])) :: I ji,G'⟩ a (w'.putObj (w.heap.size+1) (lrec q .exhausted jp)):=by
    refine hE.weaken (fun _ _ h=>h) fun t x hx=>?_
    rw [bH] at hx ⊢
    have htn:tl≠t:=fun h=>by
     subst h
     rw [aD (lE hne)] at hx
     have:=htI ji
     rw [hx] at this;cases this
    rw [aD htn]
    rw [bH,aD htn,bH]
    exact hx
   have hG:Hold B ⟨e,mark w.heap.size :: D,(td,some w.heap.size,.deferred (some [])) :: I ji,G'⟩ { a with defers:=[mark w.heap.size]++a.defers } (w'.putObj (w.heap.size+1) (lrec q .exhausted jp)):=
    ⟨hF.size,by show [mark w.heap.size]++a.defers=_;rw [hF.defers];rfl,hF.env,hF.mem,hF.upd,hF.mine,hF.le,hF.new⟩
   have hend:(Instr.endLoop (w.heap.size+1)).run P w'=.ok jp (w'.putObj (w.heap.size+1) (lrec q .exhausted jp)):=run_endLoop hbk (by cases jp <;> simp [YF])
   refine ⟨jp,_,hend,?_⟩
   rcases h9 with ⟨hj,hi⟩ | ⟨c,hj,hs⟩
   · have hj':jp=none:=hj
     subst hj'
     exact hdone ji _ hi _ _ hG
   have hj':jp=some c:=hj
   subst hj'
   exact hstop ji _ c hs _ _ hG
 obtain ⟨i,ip⟩:=i
 obtain ⟨hip,hi⟩:=hi
 have hip':ip=none:=hip
 subst hip'
 intro w2 hw2
 have hl2:w2.heap[w.heap.size+1]?=some (lrec q .ready none):=hw2.own tl _ _ (by rw [bH,aF rfl];rfl)
 have hq2:q.params=ps.toArray∧q.tmps=a.tmps∧q.assign=assign∧q.body=body:=by rw [hq];exact ⟨rfl,rfl,rfl,rfl⟩
 have hy:=run_yield (P:=P) (args:=(enc x).toArray) hl2 (by show _=q.params.size;rw [hq2.1];simp [hps x])
 refine ⟨_,_,_,_,hy,roundIn_of_wpIn (F:=Fence.wide) (n:=0) trivial ?_⟩
 have hz:=Dr ps (enc x) e a.tmps hh.size hh.env hpb
 have hr:=hround k x i (w.heap.size+1) w.heap.size q w2 hx hi
 have hhold:Hold ⟨B.n,w2,(RJ tl td q (w.heap.size+1) w.heap.size (I i) none).has,G⟩ ⟨Env.ps ps (enc x) e,[],RJ tl td q (w.heap.size+1) w.heap.size (I i) none,G⟩
  { tmps:=(q.params.zip (enc x).toArray).foldl (fun tmps (t,a)=>tmps.setIfInBounds t a) q.tmps,defers:=[] } w2:=by
  refine ⟨?_,rfl,?_,hw2,mI _ _,fun t b o hx=>.inr ⟨t,o,hx⟩,bK _,fun b h1 h2=>(h1 h2).elim⟩
  · show ((q.params.zip (enc x).toArray).foldl _ q.tmps).size=B.n
    rw [hq2.1,hq2.2.1]
    have:=hz.1
    simpa using this
  intro i v hv
  show ((q.params.zip (enc x).toArray).foldl _ q.tmps)[i]?=some v
  rw [hq2.1,hq2.2.1]
  have:=hz.2 i v hv
  simpa using this
 have h:=hr _ w2 hhold
 show q.assign.wpIn (FF (some (w.heap.size+1))) 0 P (Np P (w.heap.size+1) q.body _) _ _
 rw [hq2.2.2.1,hq2.2.2.2]
 exact h
abbrev pS:=@Wc.rangeFunc
end stmt
end
section
variable {P:Program} {e:Env} {H:Hp} {G:Imm} {ty:TypeId}
theorem Ds {t E:TypeId} {a:Option Addr} {n c:Nat} (ht:P.underlying t=some (.slice E)) (d:Nat) (w:World):(Op.equalIn (d+1) t (.slice a n c) (.slice none 0 0)).run P w=.ok a.isNone w:=by
 cases a <;> simp [Op.equalIn,cW ht]
theorem Nq {t t':TypeId} {x y:Operand} {a:Option Addr} {n c E sz:Nat} (ht:sW P t E sz) (hx:e.ev x=some (.slice a n c)) (hy:e.ev y=some (.slice none 0 0)):Qy P (.binOp .eql t x y t') ty e H G (.bool (decide (a=none))):=fun w0 w _ _ _ _ hh=>by
 have:=Ds (P:=P) (a:=a) (n:=n) (c:=c) ht.1 9999 w
 simp [execOp,hh.eval hx,hh.eval hy,binOp,eqGuard,Op.equal,Op.maxDepth,this]
 cases a <;> rfl
abbrev jI:=@Nq
theorem Rd {T:TypeId} {x i:Operand} {b o n sz:Nat} {zs:List Value} {k:IntKind} {m:Int} (j:Nat) (hT:ArrayOf P T n sz zs) (hx:e.ev x=some (.pointer (some ⟨b,o,none⟩))) (hi:e.ev i=some (.int k m))
 (hb:decide (0≤m∧m<n)=true) (hj:Nat.beq (m.toNat*sz) j=true):Qy P (.indexAddr T x i) ty e H G (.pointer (some ⟨b,o+j,none⟩)):=fun a w _ _ _ _ hh=>by
 obtain ⟨z,E,hu,_,_,hs⟩:=hT
 have hb':=gP hb
 have hj':=cR hj
 simp [execOp,Instr.indexAt,Instr.sureAddr,hh.eval hx,hh.eval hi,asIntOf,cW hu,hb',run_sizeOf w hs,Be,hj']
abbrev jH:=@Rd
end
section
variable {P:Program} {B:Bs} {e:Env} {D:List Deferred} {H:Hp} {G:Imm}
theorem Hold.base {a:Act} {w:World} (hh:Hold B ⟨e,D,H,G⟩ a w):Hold B ⟨e,D,H,B.G0⟩ a w:=by
 refine ⟨hh.size,hh.defers,hh.env,⟨hh.mem.own,hh.mem.one,fun b o h=>hh.mem.imm b o (hh.le b o h),fun t b o h=>?_⟩,hh.upd,hh.mine,bK _,fun b h h0=>(h h0).elim⟩
 have h1:G b=none:=hh.mem.off t b o h
 show B.G0 b=none
 cases hg:B.G0 b with
 | none=>rfl
 | some x=>have h2:G b=some x:=hh.le b x hg;rw [h1] at h2;cases h2
theorem Ar.base {Q:Exit→Act→World→Prop} {x:Exit} (h:Ar Q x B ⟨e,D,H,B.G0⟩):Ar Q x B ⟨e,D,H,G⟩:=fun a w hh=>h a w hh.base
abbrev qD:=@Ar.base
theorem HoldH.less {Hi:Hp} {G G':Imm} {w:World} (hw:HoldH Hi G' w) (hl:G.le G'):HoldH Hi G w:=by
 refine ⟨hw.own,hw.one,fun b o h=>hw.imm b o (hl b o h),fun t b o h=>?_⟩
 have h1:=hw.off t b o h
 cases hg:G b with
 | none=>rfl
 | some x=>have:=hl b x hg;rw [h1] at this;cases this
theorem DoesPost.up {G G':Imm} {Hi:Hp} {w w':World} {q:Value→Hp→Prop} (hw:HoldH Hi G' w) {x:Ending} (h:DoesPost G Hi w (fun v G1 Ho=>G1=G∧q v Ho) x w') :
 DoesPost G' Hi w (fun v G1 Ho=>G1=G'∧q v Ho) x w':=by
 obtain ⟨v,G1,Ho,h1,h2,h3,h4,h5,h6,h7,h8⟩:=h
 have hnot:∀ b o,G' b=some o→¬Hi.has b:=fun b o hb ⟨t,o',ht⟩=>by have:=hw.off t b o' ht;rw [hb] at this;cases this
 refine ⟨v,G',Ho,h1,⟨h2.own,h2.one,fun b o hb=>?_,fun t b o ht=>?_⟩,bK _,h4,fun b h0 h0'=>(h0 h0').elim,h6,rfl,h8⟩
 · rw [h4.same b (hw.ltG hb) (hnot b o hb)];exact hw.imm b o hb
 cases hg:G' b with
 | none=>rfl
 | some y =>
   rcases h6 t b o ht with h | h
   · have:b<w.heap.size:=hw.ltG hg;omega
   exact (hnot b y hg h).elim
theorem YieldDoes.up {l:Nat} {vs:List Value} {G G':Imm} {Hi:Hp} {q:Value→Hp→Prop} (hl:G.le G') (h:YieldDoes P l vs G Hi (fun v G1 Ho=>G1=G∧q v Ho)):YieldDoes P l vs G' Hi (fun v G1 Ho=>G1=G'∧q v Ho):=by
 intro w hw
 obtain ⟨f,tmps,assign,body,h1,h2⟩:=h w (hw.less hl)
 exact ⟨f,tmps,assign,body,h1,h2.mono fun x w' hp=>hp.up hw⟩
end
section
variable {r:Option Nat} {P:Program} {B:Bs} {S:St} {Q:Exit→Act→World→Prop} {c:Code}
end
def KH (P:Program):List (Nat×Nat×Nat)→Prop
 | []=>True
 | x :: l=>yW P x.1 x.2.1 x.2.2∧KH P l
def AllSl (P:Program):List Nat→Prop
 | []=>True
 | x :: l=>(∃ E sz,sW P x E sz)∧AllSl P l
def AllOne (P:Program):List Nat→Prop
 | []=>True
 | x :: l=>wL P x=true∧AllOne P l
def AllAgg (P:Program):List (Nat×Nat)→Prop
 | []=>True
 | x :: l=>(yB P x.1 x.2=true∧(P.info? x.1).map (·.size)=some x.2)∧AllAgg P l
def AllFn (P:Program):List Nat→Prop
 | []=>True
 | x :: l=>tH P x∧AllFn P l
class Tab (P:Program) where
 fn:List Nat
 fnP:AllFn P fn
 one:List Nat
 agg:List (Nat×Nat)
 sl:List Nat
 fa:List (Nat×Nat×Nat)
 oneP:AllOne P one
 aggP:AllAgg P agg
 slP:AllSl P sl
 faP:KH P fa
def Um:List Nat→Nat→Bool
 | [],_=>false
 | x :: l,t=>bif Nat.beq x t then true else Um l t
def DX:List (Nat×Nat)→Nat→Option Nat
 | [],_=>none
 | (x,y) :: l,t=>bif Nat.beq x t then some y else DX l t
def KI:List (Nat×Nat×Nat)→Nat→Nat→Option Nat
 | [],_,_=>none
 | (x,y,z) :: l,s,f=>bif Nat.beq x s && Nat.beq y f then some z else KI l s f
theorem uG {α:Type} {b:Bool} {x y z:α} (h:(bif b then x else y)=z):(b=true∧x=z)∨(b=false∧y=z):=by cases b <;> simp_all
theorem Nr {P:Program}:∀ {l:List Nat} {t:Nat},AllOne P l→Um l t=true→wL P t=true
 | [],t,_,h=>by cases h
 | x :: l,t,ha,h=>by
   rcases uG h with ⟨h1,_⟩ | ⟨_,h2⟩
   · have:=cR h1;subst this;exact ha.1
   exact Nr ha.2 h2
theorem Un {P:Program}:∀ {l:List Nat} {t:Nat},AllFn P l→Um l t=true→tH P t
 | [],t,_,h=>by cases h
 | x :: l,t,ha,h=>by
   rcases uG h with ⟨h1,_⟩ | ⟨_,h2⟩
   · have:=cR h1;subst this;exact ha.1
   exact Un ha.2 h2
theorem DY {P:Program}:∀ {l:List Nat} {t:Nat},AllSl P l→Um l t=true→∃ E sz,sW P t E sz
 | [],t,_,h=>by cases h
 | x :: l,t,ha,h=>by
   rcases uG h with ⟨h1,_⟩ | ⟨_,h2⟩
   · have:=cR h1;subst this;exact ha.1
   exact DY ha.2 h2
theorem Jw {P:Program}:∀ {l:List (Nat×Nat)} {t k:Nat},AllAgg P l→DX l t=some k→yB P t k=true∧(P.info? t).map (·.size)=some k
 | [],t,k,_,h=>by cases h
 | (x,y) :: l,t,k,ha,h=>by
   rcases uG h with ⟨h1,h2⟩ | ⟨_,h2⟩
   · have:=cR h1;subst this;cases h2;exact ha.1
   exact Jw ha.2 h2
theorem Xs {P:Program}:∀ {l:List (Nat×Nat×Nat)} {s f k:Nat},KH P l→KI l s f=some k→yW P s f k
 | [],s,f,k,_,h=>by cases h
 | (x,y,z) :: l,s,f,k,ha,h=>by
   rcases uG h with ⟨h1,h2⟩ | ⟨_,h2⟩
   · simp only [aU] at h1
     have h3:=cR h1.1
     have h4:=cR h1.2
     subst h3;subst h4;cases h2;exact ha.1
   exact Xs ha.2 h2
def bx:IntKind→IntKind→Bool
 | .i8,.i8 | .i16,.i16 | .i32,.i32 | .i64,.i64 | .u8,.u8 | .u16,.u16 | .u32,.u32 | .u64,.u64=>true
 | _,_=>false
theorem KJ {a b:IntKind} (h:bx a b=true):a=b:=by cases a <;> cases b <;> first | rfl | cases h
def VY {α:Type}:List α→Nat→Option α
 | [],_=>none
 | x :: l,n=>bif Nat.beq n 0 then some x else VY l (Nat.pred n)
theorem Uo {α:Type}:∀ (l:List α) (n:Nat),VY l n=l[n]?
 | [],n=>by simp [VY]
 | x :: l,n=>by
   unfold VY
   cases n with
   | zero=>rfl
   | succ n=>simp only [Nat.beq,cond_false,Nat.pred_succ,Uo l n,iE]
abbrev Rz:=Value×List Nat×Prop
inductive IOp | eql | neq | lss | leq | gtr | geq | add | sub
def iop:BinOp→Option IOp
 | .eql=>some .eql | .neq=>some .neq | .lss=>some .lss | .leq=>some .leq | .gtr=>some .gtr | .geq=>some .geq | .add=>some .add | .sub=>some .sub
 | _=>none
def cp (o:IOp) (k:IntKind) (m n:Int) (hs:List Nat):Option Rz:=
 match o with
 | .eql=>some (.bool (decide (m=n)),hs,True)
 | .neq=>some (.bool (decide (m≠n)),hs,True)
 | .lss=>some (.bool (decide (m<n)),hs,True)
 | .leq=>some (.bool (decide (m≤n)),hs,True)
 | .gtr=>some (.bool (decide (n<m)),hs,True)
 | .geq=>some (.bool (decide (n≤m)),hs,True)
 | .add=>bif bx k .i64 then some (.int .i64 (m+n),hs,-9223372036854775808≤m+n∧m+n≤9223372036854775807) else none
 | .sub=>bif bx k .i64 then some (.int .i64 (m - n),hs,-9223372036854775808≤m - n∧m - n≤9223372036854775807) else none
def YG (P:Program) [Tab P] (e:Env) (H:Hp) (hs:List Nat):Op→Option Rz
 | .move x=>match e.ev x with | some v=>some (v,hs,True) | none=>none
 | .assign x=>match e.ev x with | some v=>some (v,hs,True) | none=>none
 | .pick c x y=>match e.ev c with
   | some (.bool b)=>match e.ev (bif b then x else y) with | some v=>some (v,hs,True) | none=>none
   | _=>none
 | .unOp .not _ x=>match e.ev x with | some (.bool b)=>some (.bool (!b),hs,True) | _=>none
 | .binOp o _ x y _=>match iop o with
   | some o=>match e.ev x with
     | some (.int k m)=>match e.ev y with
       | some (.int k' n)=>bif bx k k' then cp o k m n hs else none
       | _=>none
     | _=>none
   | none=>none
 | .extract x i=>match e.ev x with
   | some (.tuple ⟨vs⟩)=>match VY vs i with | some v=>some (v,hs,True) | none=>none
   | _=>none
 | .nilCheck x=>match e.ev x with
   | some (.pointer (some ad))=>some (.pointer (some ad),hs,True)
   | _=>none
 | .fieldAddr s x f=>match KI (Tab.fa P) s f with
   | some k=>match e.ev x with
     | some (.pointer (some ⟨b,o,none⟩))=>some (.pointer (some ⟨b,o+k,none⟩),hs,True)
     | _=>none
   | none=>none
 | .load T x=>match hs with
   | t :: hs=>match e.ev x with
     | some (.pointer (some ⟨b,off,none⟩))=>match H.get t with
       | some (some b',.cells ⟨cs⟩ _ _)=>match Um (Tab.one P) T with
         | true=>match VY cs off with | some v=>some (v,hs,b=b') | none=>none
         | false=>match DX (Tab.agg P) T with
           | some k=>bif Nat.beq off 0 && Nat.beq cs.length k then some (.agg cs.toArray,hs,b=b') else none
           | none=>none
       | _=>none
     | _=>none
   | []=>none
 | .call ⟨.builtin .len,⟨[x]⟩,⟨[T]⟩⟩=>match Um (Tab.sl P) T with
   | true=>match e.ev x with | some (.slice _ n _)=>some (.int .i64 n,hs,True) | _=>none
   | false=>none
 | _=>none
theorem VZ {P:Program} {e:Env} {H:Hp} {G:Imm} {ty t t':TypeId} {hs hs':List Nat} {bo:BinOp} {o:IOp} {x y:Operand} {k:IntKind} {m n:Int} {v:Value} {ob:Prop} (ho:iop bo=some o) (hx:e.ev x=some (.int k m)) (hy:e.ev y=some (.int k n))
 (h:cp o k m n hs=some (v,hs',ob)) (hob:ob):Qy P (.binOp bo t x y t') ty e H G v:=by
 cases bo <;> first | (cases ho;done) | skip
 all_goals
  cases ho
  unfold cp at h
  first
   | (cases h;first | exact Qy.eql hx hy | exact Qy.neq hx hy | exact Qy.lss hx hy | exact Qy.leq hx hy | exact Qy.gtr hx hy | exact Qy.geq hx hy)
   | (rcases uG h with ⟨hk,h⟩ | ⟨_,h⟩
      · have:=KJ hk
        subst this
        cases h
        first | exact Qy.add hx hy hob | exact Qy.sub hx hy hob
      cases h)
theorem Up {P:Program} [T:Tab P] {e:Env} {H:Hp} {G:Imm} {ty:TypeId} {hs hs':List Nat} {o:Op} {v:Value} {ob:Prop} (h:YG P e H hs o=some (v,hs',ob)) (hob:ob):Qy P o ty e H G v:=by
 unfold YG at h
 split at h
 · split at h
   · rename_i hx;cases h;exact cV hx
   cases h
 · split at h
   · rename_i hx;cases h;exact jN hx
   cases h
 · split at h
   · rename_i hc
     split at h
     · rename_i hv;cases h;exact Qy.pick hc hv
     cases h
   cases h
 · split at h
   · rename_i hx;cases h;exact Qy.not hx
   cases h
 · split at h
   · rename_i o' ho
     split at h
     · rename_i k m hx
       split at h
       · rename_i k' n hy
         rcases uG h with ⟨hk,h9⟩ | ⟨_,h9⟩
         · have h8:=KJ hk
           subst h8
           exact VZ ho hx hy h9 hob
         cases h9
       cases h
     cases h
   cases h
 · split at h
   · rename_i hx
     split at h
     · rename_i hv;cases h;rw [Uo] at hv;exact Qy.extract hx hv
     cases h
   cases h
 · split at h
   · rename_i hx;cases h;exact Qy.nilCheck hx
   cases h
 · split at h
   · rename_i k hk
     split at h
     · rename_i hx;cases h;exact fI (Xs T.faP hk) hx
     cases h
   cases h
 · split at h
   · split at h
     · rename_i hx
       split at h
       · rename_i hH
         split at h
         · rename_i h1
           split at h
           · rename_i hv
             cases h
             subst hob
             rw [Uo] at hv
             exact jT _ (Nr T.oneP h1) hx hH hv
           cases h
         split at h
         · rename_i k hk
           rcases uG h with ⟨hc,h⟩ | ⟨_,h⟩
           · cases h
             subst hob
             simp only [aU] at hc
             have h0:=cR hc.1
             subst h0
             exact oN _ (Jw T.aggP hk).1 hx hH (cR hc.2)
           cases h
         cases h
       cases h
     cases h
   cases h
 · split at h
   · rename_i h1
     split at h
     · rename_i hx
       cases h
       obtain ⟨E,sz,hT⟩:=DY T.slP h1
       exact Qy.len hT hx
     cases h
   cases h
 cases h
inductive Fr where
 | seq (y:Code)
 | thn (K:Act→World→Prop)
 | blk (id:Nat)
def Mj (P:Program) (r:Option Nat) (Q0:Exit→Act→World→Prop):List Fr→Exit→Act→World→Prop
 | []=>Q0
 | .seq y :: k=>Exit.then (y.wpIn (FF r) 0 P (Mj P r Q0 k)) (Mj P r Q0 k)
 | .thn K :: k=>Exit.then K (Mj P r Q0 k)
 | .blk id :: k=>Exit.inBlock id (Mj P r Q0 k)
def Reify (P:Program) (r:Option Nat) (Q:Exit→Act→World→Prop) (k:List Fr) (Q0:Exit→Act→World→Prop):Prop:=Q=Mj P r Q0 k
theorem Reify.seq {P:Program} {r:Option Nat} {Q Q0:Exit→Act→World→Prop} {k:List Fr} {y:Code} (h:Reify P r Q k Q0):Reify P r (Exit.then (y.wpIn (FF r) 0 P Q) Q) (.seq y :: k) Q0:=by
 unfold Reify at *;subst h;rfl
abbrev lT:=@Reify.seq
theorem Reify.thn {P:Program} {r:Option Nat} {Q Q0:Exit→Act→World→Prop} {k:List Fr} {K:Act→World→Prop} (h:Reify P r Q k Q0):Reify P r (Exit.then K Q) (.thn K :: k) Q0:=by
 unfold Reify at *;subst h;rfl
abbrev lS:=@Reify.thn
theorem Reify.blk {P:Program} {r:Option Nat} {Q Q0:Exit→Act→World→Prop} {k:List Fr} {id:Nat} (h:Reify P r Q k Q0):Reify P r (Exit.inBlock id Q) (.blk id :: k) Q0:=by
 unfold Reify at *;subst h;rfl
abbrev lV:=@Reify.blk
theorem CA {P:Program} {r r':Option Nat} {Q0 Q1:Exit→Act→World→Prop} {k:List Fr} (h:Reify P r Q0 k Q1):Reify P r (Mj P r' Q0 []) k Q1:=h
abbrev lK:=@CA
theorem CB {P:Program} {r:Option Nat} {Q0 Q1:Exit→Act→World→Prop} {k k':List Fr} {y:Code} (h:Reify P r (Mj P r Q0 k) k' Q1):Reify P r (Mj P r Q0 (.seq y :: k)) (.seq y :: k') Q1:=lT h
abbrev lJ:=@CB
theorem CC {P:Program} {r:Option Nat} {Q0 Q1:Exit→Act→World→Prop} {k k':List Fr} {K:Act→World→Prop} (h:Reify P r (Mj P r Q0 k) k' Q1):Reify P r (Mj P r Q0 (.thn K :: k)) (.thn K :: k') Q1:=lS h
abbrev lI:=@CC
theorem CD {P:Program} {r:Option Nat} {Q0 Q1:Exit→Act→World→Prop} {k k':List Fr} {id:Nat} (h:Reify P r (Mj P r Q0 k) k' Q1):Reify P r (Mj P r Q0 (.blk id :: k)) (.blk id :: k') Q1:=lV h
abbrev lL:=@CD
theorem Reify.none {P:Program} {Q:Exit→Act→World→Prop}:Reify P .none Q [] Q:=rfl
abbrev lH:=@Reify.none
theorem Reify.any {P:Program} {r:Option Nat} {Q:Exit→Act→World→Prop}:Reify P r Q [] Q:=rfl
abbrev mO:=@Reify.any
inductive Fo where
 | c (c:Code)
 | l (ops:Array Oper) (l:List Oper)
 | a (x:Exit)
def CE:List Oper→Nat→Option Nat
 | [],_=>none
 | x :: l,n=>bif Nat.beq n 0 then x.dst else CE l (Nat.pred n)
theorem Uq:∀ (l:List Oper) (n:Nat),CE l n=(l[n]?).bind (·.dst)
 | [],n=>by simp [CE]
 | x :: l,n=>by
   unfold CE
   cases n with
   | zero=>rfl
   | succ n=>simp only [Nat.beq,cond_false,Nat.pred_succ,Uq l n,iE]
abbrev Cf:=Fo×List Fr×Env×Hp×List Nat
def KK (P:Program) [Tab P] (n:Nat) (ops:Array Oper) (k:List Fr) (e:Env) (H:Hp) (hs:List Nat) (rest:List Oper):Oper→Option (Cf×Prop)
 | ⟨some d,o,_,_,_,none⟩=>match Nat.ble (d+1) n with
   | true=>match YG P e H hs o with
     | some (v,hs,ob)=>some ((.l ops rest,k,(d,v) :: e,H,hs),ob)
     | none=>none
   | false=>none
 | ⟨none,.store T x y,_,_,_,none⟩=>match hs with
   | t :: hs=>match e.ev x with
     | some (.pointer (some ⟨b,off,none⟩))=>match H.get t with
       | some (some b',.cells ⟨cs⟩ bt (0,0))=>match e.ev y with
         | some v=>match Um (Tab.one P) T with
           | true=>bif v.oneCell' && Nat.ble (off+1) cs.length then some ((.l ops rest,k,e,(t,some b',.cells (cs.set off v).toArray bt (0,0)) :: H,hs),b=b') else none
           | false=>match DX (Tab.agg P) T with
             | some m=>match v with
               | .agg ⟨vs⟩=>bif Nat.beq off 0 && (Nat.beq vs.length m && (Nat.beq vs.length cs.length && vs.all (·.oneCell'))) then some ((.l ops rest,k,e,(t,some b',.cells vs.toArray bt (0,0)) :: H,hs),b=b') else none
               | _=>none
             | none=>none
         | none=>none
       | _=>none
     | _=>none
   | []=>none
 | ⟨dst,o,ty,pos,after,some (j,w)⟩=>match CE ops.toList j with
   | some t=>match e.get t with
     | some (.bool b)=>bif (match b,w with | true,true=>true | false,false=>true | _,_=>false) then some ((.l ops (⟨dst,o,ty,pos,after,none⟩ :: rest),k,e,H,hs),True)
       else match dst with
        | some d=>bif Nat.ble (d+1) n then some ((.l ops rest,k,(d,undef) :: e,H,hs),True) else none
        | none=>none
     | _=>none
   | none=>none
 | _=>none
def cq (P:Program) [Tab P] (n:Nat):Fo→List Fr→Env→Hp→List Nat→Option (Cf×Prop)
 | .c (.seq x y),k,e,H,hs=>some ((.c x,.seq y :: k,e,H,hs),True)
 | .c .skip,k,e,H,hs=>some ((.a .normal,k,e,H,hs),True)
 | .c (.label _),k,e,H,hs=>some ((.a .normal,k,e,H,hs),True)
 | .c (.exit id),k,e,H,hs=>some ((.a (.exit id),k,e,H,hs),True)
 | .c .ret,k,e,H,hs=>some ((.a .ret,k,e,H,hs),True)
 | .c (.block id c),k,e,H,hs=>some ((.c c,.blk id :: k,e,H,hs),True)
 | .c (.region _ ⟨l⟩ false),k,e,H,hs=>bif l.all wB then some ((.l l.toArray l,k,e,H,hs),True) else none
 | .c (.cond c x y),k,e,H,h :: hs=>match e.ev c with
   | some (.bool b)=>bif Nat.beq h 1 then some ((.c x,k,e,H,hs),b=true) else some ((.c y,k,e,H,hs),b=false)
   | _=>none
 | .a .normal,.seq y :: k,e,H,hs=>some ((.c y,k,e,H,hs),True)
 | .a .normal,.blk _ :: k,e,H,hs=>some ((.a .normal,k,e,H,hs),True)
 | .a (.exit id),.blk j :: k,e,H,hs=>bif Nat.beq id j then some ((.a .normal,k,e,H,hs),True) else some ((.a (.exit id),k,e,H,hs),True)
 | .a (.exit id),_ :: k,e,H,hs=>some ((.a (.exit id),k,e,H,hs),True)
 | .a .ret,_ :: k,e,H,hs=>some ((.a .ret,k,e,H,hs),True)
 | .l _ [],k,e,H,hs=>some ((.a .normal,k,e,H,hs),True)
 | .l ops (o :: rest),k,e,H,hs=>KK P n ops k e H hs rest o
 | _,_,_,_,_=>none
def run (P:Program) [Tab P] (n:Nat):Nat→Fo→List Fr→Env→Hp→List Nat→Option (Cf×Prop)
 | 0,f,k,e,H,hs=>some ((f,k,e,H,hs),True)
 | m+1,f,k,e,H,hs=>match cq P n f k e H hs with
   | some ((f,k,e,H,hs),ob)=>match run P n m f k e H hs with
     | some (c,obs)=>some (c,ob∧obs)
     | none=>none
   | none=>none
section
variable {P:Program} {r:Option Nat} {B:Bs} {D:List Deferred} {G:Imm} {Q0:Exit→Act→World→Prop}
def Er (P:Program) (r:Option Nat) (B:Bs) (D:List Deferred) (G:Imm) (Q0:Exit→Act→World→Prop):Cf→Prop
 | (.c c,k,e,H,_)=>Wc r P c B ⟨e,D,H,G⟩ (Mj P r Q0 k)
 | (.l ops l,k,e,H,_)=>Wl P ops l B ⟨e,D,H,G⟩ (Mj P r Q0 k .normal)
 | (.a x,k,e,H,_)=>Ar (Mj P r Q0 k) x B ⟨e,D,H,G⟩
theorem KL [T:Tab P] {ops:Array Oper} {k:List Fr} {e:Env} {H:Hp} {hs:List Nat} {rest:List Oper} {o:Oper} {c:Cf} {ob:Prop} (h:KK P B.n ops k e H hs rest o=some (c,ob)) (hob:ob) (hg:Er P r B D G Q0 c) :
 Er P r B D G Q0 (.l ops (o :: rest),k,e,H,hs):=by
 unfold KK at h
 split at h
 · split at h
   · rename_i hn
     split at h
     · rename_i hq;cases h;exact eG hn (Up hq hob) hg
     cases h
   cases h
 · split at h
   · split at h
     · rename_i hx
       split at h
       · rename_i hH
         split at h
         · rename_i v hy
           split at h
           · rename_i h1
             rcases uG h with ⟨hc,h⟩ | ⟨_,h⟩
             · cases h
               subst hob
               simp only [aU] at hc
               exact Wl.store _ (Nr T.oneP h1) hx hy hc.1 hH hc.2 hg
             cases h
           split at h
           · rename_i m hm
             split at h
             · rename_i vs
               rcases uG h with ⟨hc,h⟩ | ⟨_,h⟩
               · cases h
                 subst hob
                 simp only [aU] at hc
                 have h0:=cR hc.1
                 subst h0
                 exact Xh _ (Jw T.aggP hm).2 hx hy (cR hc.2.1) hc.2.2.2 hH hc.2.2.1 hg
               cases h
             cases h
           cases h
         cases h
       cases h
     cases h
   cases h
 · split at h
   · rename_i t ht
     rw [Uq] at ht
     split at h
     · rename_i b hb
       rcases uG h with ⟨hw,h⟩ | ⟨hw,h⟩
       · cases h
         refine pP (t:=t) (by simpa using ht) (hb.trans ?_) hg
         split at hw <;> first | rfl | cases hw
       split at h
       · rcases uG h with ⟨hn,h⟩ | ⟨_,h⟩
         · cases h
           refine Wl.pass (t:=t) (by simpa using ht) (hb.trans ?_) hn hg
           rename_i w _ _ _ _ _
           cases b <;> cases w <;> first | rfl | cases hw
         cases h
       cases h
     cases h
   cases h
 cases h
theorem WA [T:Tab P] {f:Fo} {k:List Fr} {e:Env} {H:Hp} {hs:List Nat} {c:Cf} {ob:Prop} (h:cq P B.n f k e H hs=some (c,ob)) (hob:ob) (hg:Er P r B D G Q0 c) :
 Er P r B D G Q0 (f,k,e,H,hs):=by
 unfold cq at h
 split at h
 · cases h;exact dF hg
 · cases h;exact kC hg
 · cases h;exact Wc.label hg
 · cases h;exact Wc.exit hg
 · cases h;exact mT hg
 · cases h;exact Wc.block hg
 · rcases uG h with ⟨hd,h⟩ | ⟨_,h⟩
   · cases h;exact dH hd hg
   cases h
 · split at h
   · rename_i b hb
     rcases uG h with ⟨_,h⟩ | ⟨_,h⟩
     · cases h;subst hob;exact JN hb hg
     cases h;subst hob;exact Xe hb hg
   cases h
 · cases h;exact cO hg
 · cases h;exact rS hg
 · rcases uG h with ⟨hd,h9⟩ | ⟨hd,h9⟩
   · have h8:=cR hd
     subst h8
     cases h9;exact DP hg
   cases h9;exact BO hd hg
 · rename_i id fr k hne
   cases h
   cases fr with
   | seq y=>exact qY hg
   | thn K=>exact qY hg
   | blk j=>exact (hne j rfl).elim
 · rename_i fr k
   cases h
   cases fr with
   | seq y=>exact qC hg
   | thn K=>exact qC hg
   | blk j=>exact Jn hg
 · cases h;exact eM hg
 · exact KL h hob hg
 cases h
theorem An [T:Tab P]:∀ {m:Nat} {f:Fo} {k:List Fr} {e:Env} {H:Hp} {hs:List Nat} {c:Cf} {ob:Prop},run P B.n m f k e H hs=some (c,ob)→ob→Er P r B D G Q0 c→Er P r B D G Q0 (f,k,e,H,hs)
 | 0,f,k,e,H,hs,c,ob,h,hob,hg=>by cases h;exact hg
 | m+1,f,k,e,H,hs,c,ob,h,hob,hg=>by
   unfold run at h
   split at h
   · rename_i h1
     split at h
     · rename_i h2
       cases h
       exact WA h1 hob.1 (An h2 hob.2 hg)
     cases h
   cases h
end
section
variable {P:Program} [Tab P] {r:Option Nat} {B:Bs} {D:List Deferred} {G:Imm} {Q Q0:Exit→Act→World→Prop} {k k':List Fr} {e e':Env} {H H':Hp} {hs':List Nat} {ob:Prop} {c c':Code} {l l':List Oper} {ops ops':Array Oper} {x x':Exit}
theorem Wc.gc (n:Nat) (hs:List Nat) (hg:Wc r P c' B ⟨e',D,H',G⟩ (Mj P r Q0 k')) (hr:Reify P r Q k Q0:=by (repeat with_reducible (first | apply lK | apply lJ | apply lL | apply lI | apply lT | apply lV | apply lS));first | exact lH | exact mO) (h:run P B.n n (.c c) k e H hs=some ((.c c',k',e',H',hs'),ob):=by exact rfl) (hob:ob:=by (repeat refine And.intro Qt ?_);exact trivial):Wc r P c B ⟨e,D,H,G⟩ Q:=by
 unfold Reify at hr;subst hr
 exact An h hob hg
abbrev bJ:=@Wc.gc
theorem Wc.gl (n:Nat) (hs:List Nat) (hg:Wl P ops' l' B ⟨e',D,H',G⟩ (Mj P r Q0 k' .normal)) (hr:Reify P r Q k Q0:=by (repeat with_reducible (first | apply lK | apply lJ | apply lL | apply lI | apply lT | apply lV | apply lS));first | exact lH | exact mO) (h:run P B.n n (.c c) k e H hs=some ((.l ops' l',k',e',H',hs'),ob):=by exact rfl) (hob:ob:=by (repeat refine And.intro Qt ?_);exact trivial):Wc r P c B ⟨e,D,H,G⟩ Q:=by
 unfold Reify at hr;subst hr
 exact An h hob hg
abbrev aJ:=@Wc.gl
theorem Wc.ga (n:Nat) (hs:List Nat) (hg:Ar (Mj P r Q0 k') x' B ⟨e',D,H',G⟩) (hr:Reify P r Q k Q0:=by (repeat with_reducible (first | apply lK | apply lJ | apply lL | apply lI | apply lT | apply lV | apply lS));first | exact lH | exact mO) (h:run P B.n n (.c c) k e H hs=some ((.a x',k',e',H',hs'),ob):=by exact rfl) (hob:ob:=by (repeat refine And.intro Qt ?_);exact trivial):Wc r P c B ⟨e,D,H,G⟩ Q:=by
 unfold Reify at hr;subst hr
 exact An h hob hg
abbrev bE:=@Wc.ga
theorem Wl.gc (n:Nat) (hs:List Nat) (hg:Wc r P c' B ⟨e',D,H',G⟩ (Mj P r Q0 k')) (hr:Reify P r Q k Q0:=by (repeat with_reducible (first | apply lK | apply lJ | apply lL | apply lI | apply lT | apply lV | apply lS));first | exact lH | exact mO) (h:run P B.n n (.l ops l) k e H hs=some ((.c c',k',e',H',hs'),ob):=by exact rfl) (hob:ob:=by (repeat refine And.intro Qt ?_);exact trivial):Wl P ops l B ⟨e,D,H,G⟩ (Q .normal):=by
 unfold Reify at hr;subst hr
 exact An h hob hg
abbrev aZ:=@Wl.gc
theorem Wl.gl (n:Nat) (hs:List Nat) (hg:Wl P ops' l' B ⟨e',D,H',G⟩ (Mj P r Q0 k' .normal)) (hr:Reify P r Q k Q0:=by (repeat with_reducible (first | apply lK | apply lJ | apply lL | apply lI | apply lT | apply lV | apply lS));first | exact lH | exact mO) (h:run P B.n n (.l ops l) k e H hs=some ((.l ops' l',k',e',H',hs'),ob):=by exact rfl) (hob:ob:=by (repeat refine And.intro Qt ?_);exact trivial):Wl P ops l B ⟨e,D,H,G⟩ (Q .normal):=by
 unfold Reify at hr;subst hr
 exact An h hob hg
abbrev aL:=@Wl.gl
theorem Wl.ga (n:Nat) (hs:List Nat) (hg:Ar (Mj P r Q0 k') x' B ⟨e',D,H',G⟩) (hr:Reify P r Q k Q0:=by (repeat with_reducible (first | apply lK | apply lJ | apply lL | apply lI | apply lT | apply lV | apply lS));first | exact lH | exact mO) (h:run P B.n n (.l ops l) k e H hs=some ((.a x',k',e',H',hs'),ob):=by exact rfl) (hob:ob:=by (repeat refine And.intro Qt ?_);exact trivial):Wl P ops l B ⟨e,D,H,G⟩ (Q .normal):=by
 unfold Reify at hr;subst hr
 exact An h hob hg
abbrev aR:=@Wl.ga
theorem Ar.gc (n:Nat) (hs:List Nat) (hg:Wc r P c' B ⟨e',D,H',G⟩ (Mj P r Q0 k')) (hr:Reify P r Q k Q0:=by (repeat with_reducible (first | apply lK | apply lJ | apply lL | apply lI | apply lT | apply lV | apply lS));first | exact lH | exact mO) (h:run P B.n n (.a x) k e H hs=some ((.c c',k',e',H',hs'),ob):=by exact rfl) (hob:ob:=by (repeat refine And.intro Qt ?_);exact trivial):Ar Q x B ⟨e,D,H,G⟩:=by
 unfold Reify at hr;subst hr
 exact An h hob hg
abbrev mD:=@Ar.gc
theorem Ar.gl (n:Nat) (hs:List Nat) (hg:Wl P ops' l' B ⟨e',D,H',G⟩ (Mj P r Q0 k' .normal)) (hr:Reify P r Q k Q0:=by (repeat with_reducible (first | apply lK | apply lJ | apply lL | apply lI | apply lT | apply lV | apply lS));first | exact lH | exact mO) (h:run P B.n n (.a x) k e H hs=some ((.l ops' l',k',e',H',hs'),ob):=by exact rfl) (hob:ob:=by (repeat refine And.intro Qt ?_);exact trivial):Ar Q x B ⟨e,D,H,G⟩:=by
 unfold Reify at hr;subst hr
 exact An h hob hg
abbrev nE:=@Ar.gl
theorem Ar.ga (n:Nat) (hs:List Nat) (hg:Ar (Mj P r Q0 k') x' B ⟨e',D,H',G⟩) (hr:Reify P r Q k Q0:=by (repeat with_reducible (first | apply lK | apply lJ | apply lL | apply lI | apply lT | apply lV | apply lS));first | exact lH | exact mO) (h:run P B.n n (.a x) k e H hs=some ((.a x',k',e',H',hs'),ob):=by exact rfl) (hob:ob:=by (repeat refine And.intro Qt ?_);exact trivial):Ar Q x B ⟨e,D,H,G⟩:=by
 unfold Reify at hr;subst hr
 exact An h hob hg
abbrev dX:=@Ar.ga
theorem WB {K:Act→World→Prop} (n:Nat) (hs:List Nat) (hg:Wl P ops' l' B ⟨e',D,H',G⟩ K) (h:run P B.n n (.l ops l) [] e H hs=some ((.l ops' l',[],e',H',hs'),ob):=by exact rfl) (hob:ob:=by (repeat refine And.intro Qt ?_);exact trivial):Wl P ops l B ⟨e,D,H,G⟩ K:=
 An (r:=none) (Q0:=fun _=>K) h hob hg
abbrev aB:=@WB
end
section
variable {P:Program} {B:Bs} {e:Env} {D:List Deferred} {H H0:Hp} {G G0:Imm} {K:Act→World→Prop} {ops:Array Oper} {l rest:List Oper} {f:Nat} {listed:Array Bool} {wr:List (Nat×Nat)} {ty:TypeId} {pos:String} {after:Array Edge} {d:Nat}
theorem Gm.o1 {o:Oper} (i:Nat) (h:Wl P l.toArray [o] B ⟨e,D,H,G⟩ (Dl P l.toArray f (listed.setIfInBounds i true) wr H0 G0 K)) (hH:H.sub (H0.live wr listed):=by repeat (first | exact trivial | refine ⟨rfl,?_⟩)) (hG:G0.le G:=by first | exact bK _ | repeat (first | assumption | refine aQ ?_ sF)) (hr:Region.ready .any l.toArray listed=[i]:=by kernel_rfl) (ho:l[i]?=some o:=by exact rfl) :
 Gm P l.toArray (f+1) listed wr H0 G0 B ⟨e,D,H,G⟩ K:=jF i hH hG hr ho h
abbrev bV:=@Gm.o1
theorem Gm.o2 {o1 o2:Oper} (i j:Nat) (g1:Wl P l.toArray [o1] B ⟨e,D,H,G⟩ (Dl P l.toArray f (listed.setIfInBounds i true) wr H0 G0 K)) (g2:Wl P l.toArray [o2] B ⟨e,D,H,G⟩ (Dl P l.toArray f (listed.setIfInBounds j true) wr H0 G0 K))
 (hH:H.sub (H0.live wr listed):=by repeat (first | exact trivial | refine ⟨rfl,?_⟩)) (hG:G0.le G:=by first | exact bK _ | repeat (first | assumption | refine aQ ?_ sF)) (hr:Region.ready .any l.toArray listed=[i,j]:=by kernel_rfl) (h1:l[i]?=some o1:=by exact rfl) (h2:l[j]?=some o2:=by exact rfl) :
 Gm P l.toArray (f+1) listed wr H0 G0 B ⟨e,D,H,G⟩ K:=Gm.two i j hH hG hr h1 h2 g1 g2
abbrev nD:=@Gm.o2
theorem Gm.o3 {o1 o2 o3:Oper} (i j k:Nat) (g1:Wl P l.toArray [o1] B ⟨e,D,H,G⟩ (Dl P l.toArray f (listed.setIfInBounds i true) wr H0 G0 K)) (g2:Wl P l.toArray [o2] B ⟨e,D,H,G⟩ (Dl P l.toArray f (listed.setIfInBounds j true) wr H0 G0 K)) (g3:Wl P l.toArray [o3] B ⟨e,D,H,G⟩ (Dl P l.toArray f (listed.setIfInBounds k true) wr H0 G0 K))
 (hH:H.sub (H0.live wr listed):=by repeat (first | exact trivial | refine ⟨rfl,?_⟩)) (hG:G0.le G:=by first | exact bK _ | repeat (first | assumption | refine aQ ?_ sF)) (hr:Region.ready .any l.toArray listed=[i,j,k]:=by kernel_rfl) (h1:l[i]?=some o1:=by exact rfl) (h2:l[j]?=some o2:=by exact rfl) (h3:l[k]?=some o3:=by exact rfl) :
 Gm P l.toArray (f+1) listed wr H0 G0 B ⟨e,D,H,G⟩ K:=JV i j k hH hG hr h1 h2 h3 g1 g2 g3
theorem WC {Q:Exit→Act→World→Prop} {x:Exit} (h:Ar Q x B ⟨e,D,H,G⟩) (hr:Region.ready .any ops listed=[]:=by kernel_rfl) (hH:H.sub (H0.live wr listed):=by repeat (first | exact trivial | refine ⟨rfl,?_⟩)) (hG:G0.le G:=by first | exact bK _ | repeat (first | assumption | refine aQ ?_ sF)):Gm P ops 0 listed wr H0 G0 B ⟨e,D,H,G⟩ (Q x):=
 jB hr hH hG h
abbrev cZ:=@WC
theorem Gm.c [T:Tab P] {o:Op} {v:Value} {hs':List Nat} {ob:Prop} (i:Nat) (ts hs:List Nat) (h:Gm P l.toArray f (listed.setIfInBounds i true) wr H0 G0 B ⟨(d,v) :: e,D,H,G⟩ K) (ho:l[i]?=some ⟨some d,o,ty,pos,after,none⟩:=by exact rfl) (hv:YG P e (H0.only ts) hs o=some (v,hs',ob):=by exact rfl)
 (hob:ob:=by first | exact trivial | with_reducible rfl | assumption | omega | rfl) (hn:Nat.ble (d+1) B.n=true:=by exact rfl) (hB:yD l.toArray listed wr i ts=true:=by kernel_rfl):Gm P l.toArray (f+1) listed wr H0 G0 B ⟨e,D,H,G⟩ K:=
 eW i ts hB ho hn (Up hv hob) h
abbrev gO:=@Gm.c
theorem Gm.u {o:Op} {v:Value} (i:Nat) (ts:List Nat) (ho:l[i]?=some ⟨some d,o,ty,pos,after,none⟩) (hq:Qy P o ty e (H0.only ts) G0 v) (h:Gm P l.toArray f (listed.setIfInBounds i true) wr H0 G0 B ⟨(d,v) :: e,D,H,G⟩ K)
 (hn:Nat.ble (d+1) B.n=true:=by exact rfl) (hB:yD l.toArray listed wr i ts=true:=by kernel_rfl):Gm P l.toArray (f+1) listed wr H0 G0 B ⟨e,D,H,G⟩ K:=
 eW i ts hB ho hn hq h
abbrev dN:=@Gm.u
theorem Wl.k [T:Tab P] {f:FuncId} {xs:Array Operand} {ats:Array TypeId} {vs:List Value} {Hi:Hp} {post:Value→Imm→Hp→Prop} (k:Nat) (hx:e.evs xs.toList=some vs) (hF:Does P f vs G Hi post) (h:∀ v G' Ho,G.le G'→post v G' Ho→Wl P ops rest B ⟨(d,v) :: e,D,Ho.shift k++(Hi.kill k++H),G'⟩ K)
 (hn:Nat.ble (d+1) B.n=true:=by exact rfl) (hf:Um (Tab.fn P) f=true:=by exact rfl) (hHi:∀ t x,Hi.get t=some x→H.get (k+t)=some x:=by first | exact sJ trivial | exact sJ ⟨rfl,trivial⟩ | exact sJ ⟨rfl,rfl,trivial⟩ | exact sJ ⟨rfl,rfl,rfl,trivial⟩) :
 Wl P ops (⟨some d,.call { callee:=.value (.func f),args:=xs,argTypes:=ats },ty,pos,after,none⟩ :: rest) B ⟨e,D,H,G⟩ K:=eK k hn (Un T.fnP hf) hx hF hHi h
abbrev bX:=@Wl.k
theorem Wl.k0 [T:Tab P] {f:FuncId} {xs:Array Operand} {ats:Array TypeId} {vs:List Value} {r:Value} (hx:e.evs xs.toList=some vs) (hF:Does P f vs G [] (fun v G' Ho=>v=r∧G'=G∧Ho=[])) (h:Wl P ops rest B ⟨(d,r) :: e,D,H,G⟩ K)
 (hn:Nat.ble (d+1) B.n=true:=by exact rfl) (hf:Um (Tab.fn P) f=true:=by exact rfl) :
 Wl P ops (⟨some d,.call { callee:=.value (.func f),args:=xs,argTypes:=ats },ty,pos,after,none⟩ :: rest) B ⟨e,D,H,G⟩ K:=mG hn (Un T.fnP hf) hx hF h
abbrev cI:=@Wl.k0
end
section
variable {P:Program} {fn:Func} {G0:Imm} {Hi:Hp} {w0:World} {post:Value→Imm→Hp→Prop} {n:Nat} {e:Env} {H:Hp} {G:Imm} {x:Exit} {t1 t2 t3:Nat} {v1 v2 v3:Value}
theorem Ar.e1 (hp:post v1 G (H.only [])) (hx:x=.normal∨x=.ret:=by exact .inr rfl) (hres:fn.results=#[.tmp t1]:=by exact rfl) (h1:e.get t1=some v1:=by exact rfl):Ar (BR P fn G0 Hi w0 post) x ⟨n,w0,Hi.has,G0⟩ ⟨e,[],H,G⟩:=
 cK hx hres (.tmp h1) (aT _ _) hp
abbrev cP:=@Ar.e1
theorem Ar.e2 (hp:post (.tuple #[v1,v2]) G (H.only [])) (hx:x=.normal∨x=.ret:=by exact .inr rfl) (hres:fn.results=#[.tmp t1,.tmp t2]:=by exact rfl) (h1:e.get t1=some v1:=by exact rfl) (h2:e.get t2=some v2:=by exact rfl):Ar (BR P fn G0 Hi w0 post) x ⟨n,w0,Hi.has,G0⟩ ⟨e,[],H,G⟩:=
 fS hx hres (.tmp h1) (.tmp h2) (aT _ _) hp
abbrev gR:=@Ar.e2
theorem Ar.e3 (hp:post (.tuple #[v1,v2,v3]) G (H.only [])) (hx:x=.normal∨x=.ret:=by exact .inr rfl) (hres:fn.results=#[.tmp t1,.tmp t2,.tmp t3]:=by exact rfl) (h1:e.get t1=some v1:=by exact rfl) (h2:e.get t2=some v2:=by exact rfl) (h3:e.get t3=some v3:=by exact rfl) :
 Ar (BR P fn G0 Hi w0 post) x ⟨n,w0,Hi.has,G0⟩ ⟨e,[],H,G⟩:=rC hx hres (.tmp h1) (.tmp h2) (.tmp h3) (aT _ _) hp
abbrev kM:=@Ar.e3
end
section
variable {P:Program} {B:Bs} {e:Env} {D:List Deferred} {H:Hp} {G:Imm}
theorem Hs {ι:Type} {r:Option Nat} {x y:Code} {Q:Exit→Act→World→Prop} (I:ι→Env×Hp) (J:ι→Imm) (φ:ι→Prop)
 (h1:Wc r P x B ⟨e,D,H,G⟩ (Exit.then (QX B (fun i=>⟨(I i).1,D,(I i).2,J i⟩) φ) Q)) (h2:∀ i,φ i→Wc r P y B ⟨(I i).1,D,(I i).2,J i⟩ Q):Wc r P (.seq x y) B ⟨e,D,H,G⟩ Q:=by
 refine dF fun a w hh b k cs hro hb hr=>?_
 obtain ⟨ex,a',w',hq,ha⟩:=h1 a w hh b k cs hro hb hr
 refine ⟨ex,a',w',?_,ha⟩
 cases ex with
 | normal=>obtain ⟨j,hj,hI⟩:=hq;exact h2 j hj a' w' hI
 | _=>exact hq
end
theorem HoldH.freezeRow {α:Type} [Cells α] {H:Hp} {G:Imm} {w:World} (hh:HoldH H G w) {t:Nat} {ad:Option Addr} {c:Nat} {E:TypeId} {xs:List α} {junk:List Value} (ht:H.get t=some (ad.map (·.block),Row E xs junk)) (ho:OwnA ad c xs junk) :
 ∃ G',G.le G'∧Arr G' ad xs∧HoldH ((t,none,default) :: H) G' w∧∀ b,G' b≠none→G b=none→∃ o,H.get t=some (some b,o):=by
 have hB:Hold ⟨0,w,fun b=>H.has b,G⟩ ⟨[],[],H,G⟩ { tmps:=#[],defers:=[] } w:=
  ⟨rfl,rfl,fun i v h=>by simp [Env.get] at h,hh,mI _ _,fun t b o h=>.inr ⟨t,o,h⟩,bK _,fun b h h0=>(h h0).elim⟩
 rcases ho with ⟨rfl,rfl,rfl,_⟩ | ⟨b,rfl,hrest⟩
 · exact ⟨G,bK _,kE G,(hB.noBlock t default).mem,fun b h h0=>(h h0).elim⟩
 have ht':H.get t=some (some b,Row E xs junk):=ht
 obtain ⟨h1,h2⟩:=hB.freeze ht'
 refine ⟨_,h2,Ug (E:=E) (junk:=junk) Xb,h1.mem,fun b' hb h0=>?_⟩
 have hb':(if b'=b then some (Row E xs junk) else G b')≠none:=hb
 split at hb'
 · rename_i h;subst h;exact ⟨_,ht'⟩
 exact (hb' h0).elim
theorem Rv {α β:Type} [Cells α] [Cells β] {P:Program} {f:FuncId} {args:List Value} {G:Imm} {E E':TypeId} {q:Value→Option Addr→Nat→List α→Option Addr→Nat→List β→Prop}
 (h:Does P f args G [] (fun v G' Ho=>∃ (a:Option Addr) (c:Nat) (xs:List α) (j:List Value) (b:Option Addr) (d:Nat) (ys:List β) (j':List Value),q v a c xs b d ys∧OwnA a c xs j∧OwnA b d ys j'∧Ho=[(0,a.map (·.block),Row E xs j),(1,b.map (·.block),Row E' ys j')]∧G'=G)) :
 Does P f args G [] (fun v G' Ho=>∃ (a:Option Addr) (c:Nat) (xs:List α) (b:Option Addr) (d:Nat) (ys:List β),q v a c xs b d ys∧Arr G' a xs∧Arr G' b ys∧Ho=[]):=by
 intro w hw
 refine (h w hw).mono fun x w' ⟨v,G',Ho,h1,h2,h3,h4,h5,h6,a,c,xs,j,b,d,ys,j',hq,ho,ho',hHo,hG⟩=>?_
 subst hHo hG
 obtain ⟨G1,g1,g2,g3,g4⟩:=h2.freezeRow (t:=0) rfl ho
 obtain ⟨G2,k1,k2,k3,k4⟩:=g3.freezeRow (t:=1) (ad:=b) (E:=E') (xs:=ys) (junk:=j') rfl ho'
 have hnil:∀ t b o,Hp.get [] t=some (some b,o)→False:=fun t b o hx=>by simp [Hp.get] at hx
 refine ⟨v,G2,[],h1,⟨fun t b o hx=>(hnil t b o hx).elim,fun t t' b o o' hx=>(hnil t b o hx).elim,k3.imm,fun t b o hx=>(hnil t b o hx).elim⟩,aQ g1 k1,h4,fun bb hb h0=>?_,fun t b o hx=>(hnil t b o hx).elim,a,c,xs,b,d,ys,hq,g2.up k1,k2,rfl⟩
 by_cases hg1:G1 bb=none
 · obtain ⟨o,ho2⟩:=k4 bb hb hg1
   have ho3:Hp.get [(0,a.map (·.block),Row E xs j),(1,b.map (·.block),Row E' ys j')] 1=some (some bb,o):=by
    rw [bH,aD (by decide)] at ho2;exact ho2
   exact h6 1 bb o ho3
 obtain ⟨o,ho2⟩:=g4 bb hg1 h0
 exact h6 0 bb o ho2
section
variable {P:Program} {e:Env} {H:Hp} {G:Imm} {ty:TypeId} {t t':TypeId} {x y:Operand} {m n:Int}
theorem GN (hx:e.ev x=some (.int .u64 m)) (hy:e.ev y=some (.int .u64 n)) (hb:0≤m+n∧m+n≤18446744073709551615):Qy P (.binOp .add t x y t') ty e H G (.int .u64 (m+n)):=by
 have:=Uc (P:=P) (H:=H) (G:=G) (ty:=ty) (t:=t) (t':=t') hx hy;rwa [kH _ hb] at this
abbrev jC:=@GN
theorem GO (hx:e.ev x=some (.int .u64 m)) (hy:e.ev y=some (.int .u64 n)) (hb:0≤m - n∧m - n≤18446744073709551615):Qy P (.binOp .sub t x y t') ty e H G (.int .u64 (m - n)):=by
 have:=Hm (P:=P) (H:=H) (G:=G) (ty:=ty) (t:=t) (t':=t') hx hy;rwa [kH _ hb] at this
abbrev jM:=@GO
theorem GP (hx:e.ev x=some (.int .u64 m)) (hy:e.ev y=some (.int .u64 n)) (hb:0≤m*n∧m*n≤18446744073709551615):Qy P (.binOp .mul t x y t') ty e H G (.int .u64 (m*n)):=by
 have:=lW (P:=P) (H:=H) (G:=G) (ty:=ty) (t:=t) (t':=t') hx hy;rwa [kH _ hb] at this
abbrev pJ:=@GP
theorem Xt {m n:Int} (h:0≤m):m.tdiv n=m / n:=Int.tdiv_eq_ediv_of_nonneg h
theorem KM {m n:Int} (h:0≤m):m.tmod n=m % n:=oQ h
theorem KN {m n:Int} (h:0≤m) (hn:0<n):0≤m / n∧m / n≤m:=⟨nZ h (dW hn),Int.ediv_le_self _ h⟩
theorem Rw (hx:e.ev x=some (.int .u64 m)) (hy:e.ev y=some (.int .u64 n)) (hb:0≤m∧m≤18446744073709551615∧0<n):Qy P (.binOp .quo t x y t') ty e H G (.int .u64 (m / n)):=by
 have:=DQ (P:=P) (H:=H) (G:=G) (ty:=ty) (t:=t) (t':=t') hx hy sE
 have h1:=KN hb.1 hb.2.2
 rwa [Xt hb.1,kH _ ⟨h1.1,Int.le_trans h1.2 hb.2.1⟩] at this
theorem RD (hx:e.ev x=some (.int .i64 m)) (hy:e.ev y=some (.int .i64 n)) (hb:0≤m∧m≤9223372036854775807∧0<n):Qy P (.binOp .quo t x y t') ty e H G (.int .i64 (m / n)):=by
 have h1:=KN hb.1 hb.2.2
 have h2:m.tdiv n=m / n:=Xt hb.1
 have:=nW (P:=P) (H:=H) (G:=G) (ty:=ty) (t:=t) (t':=t') hx hy sE (by rw [h2];exact ⟨by omega,by omega⟩)
 rwa [h2] at this
abbrev rB:=@RD
theorem RE {k:IntKind} (hx:e.ev x=some (.int k m)) (hy:e.ev y=some (.int k n)) (hb:0≤m∧0<n):Qy P (.binOp .rem t x y t') ty e H G (.int k (m % n)):=by
 have:=rU (P:=P) (H:=H) (G:=G) (ty:=ty) (t:=t) (t':=t') hx hy sE
 rwa [KM hb.1] at this
abbrev mU:=@RE
theorem GQ {s:TypeId} {k:IntKind} (hs:(P.underlying s).isSome=true) (ht:P.underlying t=some (.int .u32)) (hx:e.ev x=some (.int k m)) (hb:0≤m∧m≤4294967295):Qy P (.convert s t x) ty e H G (.int .u32 m):=by
 have:=fN (P:=P) (H:=H) (G:=G) (ty:=ty) hs ht hx
 rwa [IntWalk.u32_in _ hb] at this
abbrev kF:=@GQ
theorem GR {s:TypeId} {k:IntKind} (hs:(P.underlying s).isSome=true) (ht:P.underlying t=some (.int .u64)) (hx:e.ev x=some (.int k m)) (hb:0≤m∧m≤18446744073709551615):Qy P (.convert s t x) ty e H G (.int .u64 m):=by
 have:=fN (P:=P) (H:=H) (G:=G) (ty:=ty) hs ht hx
 rwa [kH _ hb] at this
abbrev dI:=@GR
end
theorem Md (a b:Nat) (ha:a<4294967296) (hb:b<4294967296):bits .or .u32 (a:Int) (b:Int)=((a ||| b:Nat):Int):=by
 have hx:a ||| b<2 ^ 32:=Nat.or_lt_two_pow sE sE
 have h1:(BitVec.ofInt 32 (a:Int)).toNat=a:=by
  rw [jX,kX];exact lX sE
 have h2:(BitVec.ofInt 32 (b:Int)).toNat=b:=by
  rw [jX,kX];exact lX sE
 show IntKind.u32.wrap ((BitVec.ofInt 32 (a:Int) ||| BitVec.ofInt 32 (b:Int)).toNat:Int)=_
 rw [BitVec.toNat_or,h1,h2,IntKind.wrap_u32]
 omega
structure IV where
 neg:Bool
 a:Option Addr
 n:Nat
 c:Nat
instance:Inhabited IV:=⟨⟨false,none,0,0⟩⟩
instance:Cells IV:=⟨2,fun x=>[.bool x.neg,.slice x.a x.n x.c],fun _=>rfl,fun _=>rfl⟩
structure SV where
 a:Option Addr
 n:Nat
 c:Nat
instance:Inhabited SV:=⟨⟨none,0,0⟩⟩
instance:Cells SV:=⟨1,fun x=>[.slice x.a x.n x.c],fun _=>rfl,fun _=>rfl⟩
def cr (l:List U32):Prop:=∀ d∈l,0≤d.v∧d.v<65536
def Me:List U32→Int
 | []=>0
 | d :: l=>d.v+65536*Me l
def pw (n:Nat):Int:=((65536 ^ n:Nat):Int)
theorem WD (n:Nat):0<pw n:=by unfold pw;exact Int.ofNat_lt.2 (pA sN)
theorem YH {m n:Nat} (h:m≤n):pw m≤pw n:=by unfold pw;exact Int.ofNat_le.2 (gU sN h)
theorem tO {α:Type} {l:List α} {k:Nat} (h:l.length≤k):l.take k=l:=dL h
def Top (l:List U32):Prop:=l=[]∨(l[l.length - 1]?.getD default).v≠0
theorem Top.nil:Top []:=.inl rfl
structure IsInt (neg:Bool) (l:List U32) (z:Int):Prop where
 digs:cr l
 top:Top l
 sign:l=[]→neg=false
 val:z=if neg=true then -Me l else Me l
section
variable {P:Program} {B:Bs} {D:List Deferred}
theorem KO {ι:Type} {r:Option Nat} {c:Code} {Q:Exit→Act→World→Prop} {e:Env} {H:Hp} {G:Imm} (I:ι→Env×Hp) (g:ι→Imm) (φ:ι→Prop) (μ:ι→Nat) (i0:ι) (h0:φ i0) (hg:G=g i0)
 (he:e.sub (I i0).1) (hH:H.sub (I i0).2)
 (hb:∀ i,φ i→Wc r P c B ⟨(I i).1,D,(I i).2,g i⟩ (Exit.then (Dh B (fun i=>⟨(I i).1,D,(I i).2,g i⟩) φ μ (μ i)) Q)):Wc r P (.loop c) B ⟨e,D,H,G⟩ Q:=
 Hl (fun i=>⟨(I i).1,D,(I i).2,g i⟩) φ μ i0 h0 (fun _ _ h=>by rw [hg] at h;exact h.sub he hH) hb
abbrev iZ:=@KO
end
def Below (m:Nat) (zs:List Int):Prop:=∀ z∈zs,(z.natAbs:Int)<pw m
theorem Below.at {m:Nat} {zs:List Int} (h:Below m zs) (i:Nat):((zs[i]?.getD 0).natAbs:Int)<pw m:=by
 cases hx:zs[i]? with
 | none=>exact WD m
 | some z=>exact h z (List.mem_of_getElem? hx)
theorem Below.mono {m k:Nat} {zs:List Int} (h:Below m zs) (hk:m≤k):Below k zs:=fun z hz=>mN (h z hz) (YH hk)
def fnB (P : Program) (f : Nat) : Bool := match P.funcs[f]? with | some fn => fn.body.isSome && !(fn.name == "runtime.NumGoroutine") | none => false
theorem AllFn.of {P:Program}:∀ {l:List Nat},l.all (fnB P)=true→AllFn P l
 | [],_=>trivial
 | f :: l,h=>by
   rw [kB,aU] at h
   refine ⟨?_,AllFn.of h.2⟩
   have h1:=h.1
   unfold fnB at h1
   split at h1
   · rename_i fn hf
     rw [aU] at h1
     exact ⟨fn,hf,h1.1,by simpa using h1.2⟩
   cases h1
theorem AllOne.of {P:Program}:∀ {l:List Nat},l.all (wL P)=true→AllOne P l
 | [],_=>trivial
 | f :: l,h=>by
   rw [kB,aU] at h
   exact ⟨h.1,AllOne.of h.2⟩
def agB (P:Program) (x:Nat×Nat):Bool:=yB P x.1 x.2 && (match P.info? x.1 with | some i=>Nat.beq i.size x.2 | none=>false)
theorem AllAgg.of {P:Program}:∀ {l:List (Nat×Nat)},l.all (agB P)=true→AllAgg P l
 | [],_=>trivial
 | x :: l,h=>by
   rw [kB,aU] at h
   have h1:=h.1
   unfold agB at h1
   rw [aU] at h1
   refine ⟨⟨h1.1,?_⟩,AllAgg.of h.2⟩
   have h2:=h1.2
   split at h2
   · rename_i i hi
     rw [hi,←cR h2];rfl
   cases h2
def slB (P:Program) (t:Nat):Bool:=match P.underlying t with | some (.slice E)=>(P.info? E).isSome | _=>false
theorem AllSl.of {P:Program}:∀ {l:List Nat},l.all (slB P)=true→AllSl P l
 | [],_=>trivial
 | t :: l,h=>by
   rw [kB,aU] at h
   refine ⟨?_,AllSl.of h.2⟩
   have h1:=h.1
   unfold slB at h1
   split at h1
   · rename_i E hE
     cases hi:P.info? E with
     | none=>rw [hi] at h1;cases h1
     | some i=>exact ⟨E,i.size,hE,by rw [hi];rfl⟩
   cases h1
def RF:List (List Nat)→Nat→Nat
 | [],f=>f
 | _ :: s,f=>RF s f+1
def Xu:List (List Nat)→Array Bool→Array Bool
 | [],L=>L
 | [] :: s,L=>Xu s L
 | (i :: _) :: s,L=>Xu s (L.setIfInBounds i true)
def Ht (ops:Array Oper) (wr:List (Nat×Nat)):List (List Nat)→Array Bool→Bool
 | [],_=>true
 | [] :: _,_=>false
 | (i :: ts) :: s,L=>yD ops L wr i ts && Ht ops wr s (L.setIfInBounds i true)
def eqb (b w:Bool):Bool:=bif b then w else !w
def gmg (l:List Oper) (e:Env):Option (Nat×Bool)→Option Bool
 | none=>some true
 | some (j,w)=>match CE l j with
   | some t=>match e.get t with
     | some (.bool b)=>some (eqb b w)
     | _=>none
   | none=>none
def XZ (P:Program) [Tab P] (n:Nat) (l:List Oper) (H0:Hp):List (List Nat)→Env→Option (Env×Prop)
 | [],e=>some (e,True)
 | [] :: _,_=>none
 | (i :: ts) :: s,e=>match VY l i with
   | some ⟨some d,o,_,_,_,g⟩=>match Nat.ble (d+1) n with
     | true=>match gmg l e g with
       | some true=>match YG P e (H0.only ts) ts o with
         | some (v,_,ob)=>match XZ P n l H0 s ((d,v) :: e) with
           | some (e',obs)=>some (e',ob∧obs)
           | none=>none
         | none=>none
       | some false=>match ts with
         | []=>XZ P n l H0 s ((d,undef) :: e)
         | _ :: _=>none
       | none=>none
     | false=>none
   | _=>none
theorem Xv {l:List Oper} {e:Env} {j:Nat} {w x:Bool} (h:gmg l e (some (j,w))=some x):∃ t,(l[j]?).bind (·.dst)=some t∧e.get t=some (.bool (bif x then w else !w)):=by
 replace h:(match CE l j with
  | some t=>match e.get t with
    | some (.bool b)=>some (eqb b w)
    | _=>none
  | none=>none)=some x:=h
 split at h
 · rename_i t ht
   rw [Uq] at ht
   split at h
   · rename_i b hb
     refine ⟨t,ht,hb.trans ?_⟩
     cases b <;> cases w <;> cases h <;> rfl
   cases h
 cases h
theorem Ur {P:Program} [T:Tab P] {B:Bs} {D:List Deferred} {H H0:Hp} {G G0:Imm} {K:Act→World→Prop} {l:List Oper} {f:Nat} {wr:List (Nat×Nat)} {e':Env}:∀ {steps:List (List Nat)} {listed:Array Bool} {e:Env} {ob:Prop},XZ P B.n l H0 steps e=some (e',ob)→ob→Ht l.toArray wr steps listed=true→Gm P l.toArray f (Xu steps listed) wr H0 G0 B ⟨e',D,H,G⟩ K→Gm P l.toArray (RF steps f) listed wr H0 G0 B ⟨e,D,H,G⟩ K
 | [],listed,e,ob,h,_,_,hg=>by cases h;exact hg
 | [] :: s,listed,e,ob,h,_,_,_=>by cases h
 | (i :: ts) :: s,listed,e,ob,h,hob,hB,hg=>by
   unfold Ht at hB
   rw [aU] at hB
   unfold XZ at h
   split at h
   · rename_i d o ty pos after g hi
     rw [Uo] at hi
     split at h
     · rename_i hn
       split at h
       · rename_i hgm
         split at h
         · rename_i v hs' ob1 hq
           split at h
           · rename_i e1 obs h2
             cases h
             have hr:=Ur h2 hob.2 hB.2 hg
             cases g with
             | none=>exact eW i ts hB.1 hi hn (Up hq hob.1) hr
             | some jw =>
               obtain ⟨j,w⟩:=jw
               obtain ⟨t,ht,he⟩:=Xv hgm
               exact gG (t:=t) i ts hB.1 hi ht he hn (Up hq hob.1) hr
           cases h
         cases h
       · rename_i hgm
         split at h
         · have hr:=Ur h hob hB.2 hg
           cases g with
           | none=>cases hgm
           | some jw =>
             obtain ⟨j,w⟩:=jw
             obtain ⟨t,ht,he⟩:=Xv hgm
             exact iO (t:=t) i hB.1 hi ht he hn hr
         cases h
       cases h
     cases h
   cases h
section
variable {P:Program} {B:Bs} {e e':Env} {D:List Deferred} {H H0:Hp} {G G0:Imm} {K:Act→World→Prop} {ops:Array Oper} {l rest:List Oper} {f:Nat} {listed:Array Bool} {wr:List (Nat×Nat)} {ty:TypeId} {pos:String} {after:Array Edge} {d:Nat} {ob:Prop}
theorem Gm.r [T:Tab P] (steps:List (List Nat)) (h:Gm P l.toArray f (Xu steps listed) wr H0 G0 B ⟨e',D,H,G⟩ K) (hr:XZ P B.n l H0 steps e=some (e',ob):=by exact rfl) (hob:ob:=by (repeat refine And.intro VA ?_);exact trivial) (hB:Ht l.toArray wr steps listed=true:=by kernel_rfl) :
 Gm P l.toArray (RF steps f) listed wr H0 G0 B ⟨e,D,H,G⟩ K:=Ur hr hob hB h
abbrev dE:=@Gm.r
theorem Gm.y {o:Op} {v:Value} {j:Nat} {want:Bool} {t:Nat} (i:Nat) (ts:List Nat) (ho:l[i]?=some ⟨some d,o,ty,pos,after,some (j,want)⟩) (hq:Qy P o ty e (H0.only ts) G0 v) (h:Gm P l.toArray f (listed.setIfInBounds i true) wr H0 G0 B ⟨(d,v) :: e,D,H,G⟩ K)
 (hj:(l[j]?).bind (·.dst)=some t:=by exact rfl) (he:e.get t=some (.bool want):=by exact rfl) (hn:Nat.ble (d+1) B.n=true:=by exact rfl) (hB:yD l.toArray listed wr i ts=true:=by kernel_rfl):Gm P l.toArray (f+1) listed wr H0 G0 B ⟨e,D,H,G⟩ K:=
 gG i ts hB ho hj he hn hq h
abbrev pF:=@Gm.y
theorem Wl.p {o:Op} {v:Value} (hq:Qy P o ty e H G v) (h:Wl P ops rest B ⟨(d,v) :: e,D,H,G⟩ K) (hn:Nat.ble (d+1) B.n=true:=by exact rfl):Wl P ops (⟨some d,o,ty,pos,after,none⟩ :: rest) B ⟨e,D,H,G⟩ K:=eG hn hq h
abbrev aO:=@Wl.p
theorem Wl.b {e0:Env} {H0:Hp} {v:Value} (n m:Nat) (he:e.drop n=e0:=by exact rfl) (hf:e0.fresh (e.take n)=true:=by exact rfl) (hH:H.drop m=H0:=by exact rfl) (hg:H0.fresh (H.take m)=true:=by exact rfl) (hv:e.get d=some v:=by exact rfl) :
 Wl P ops [] B ⟨e,D,H,G⟩ (Hold B ⟨(d,v) :: e0,D,H0,G⟩):=iF n m he hf hH hg hv
abbrev dA:=@Wl.b
theorem Wl.x {T:TypeId} {x:Operand} {v:Value} {cs:List Value} (t:Nat) (h:∀ b,Wl P ops rest B ⟨(d,.pointer (some ⟨b,0,none⟩)) :: e,D,(t,some b,.cells cs.toArray T (0,0)) :: H,G⟩ K) (hn:Nat.ble (d+1) B.n=true:=by exact rfl) (hx:e.ev x=some v:=by exact rfl) (hv:v.cells=cs.toArray:=by exact rfl) :
 Wl P ops (⟨some d,.box T x,ty,pos,after,none⟩ :: rest) B ⟨e,D,H,G⟩ K:=qM t hn hx hv h
abbrev dQ:=@Wl.x
variable {α:Type} [Cells α]
theorem Wl.at {T:TypeId} {x i:Operand} {c:Nat} {k:IntKind} {m:Int} {E:Nat} {a:Option Addr} {xs:List α} (hT:sW P T E (Cells.sz α)) (h:Wl P ops rest B ⟨(d,.pointer (some ⟨ab a,ao a+m.toNat*Cells.sz α,none⟩)) :: e,D,H,G⟩ K)
 (hx:e.ev x=some (.slice a xs.length c):=by exact rfl) (hi:e.ev i=some (.int k m):=by exact rfl) (hs:Arr G a xs:=by assumption) (hb:0≤m∧m<xs.length:=by omega) (hn:Nat.ble (d+1) B.n=true:=by exact rfl):Wl P ops (⟨some d,.indexAddr T x i,ty,pos,after,none⟩ :: rest) B ⟨e,D,H,G⟩ K:=
 eG hn (jA hT hx hi hs hb) h
abbrev fP:=@Wl.at
theorem YI {T:TypeId} {x i:Operand} {c:Nat} {k:IntKind} {m:Int} {E:Nat} {a:Option Addr} {xs:List α} {junk:List Value} (hT:sW P T E (Cells.sz α)) (h:Wl P ops rest B ⟨(d,.pointer (some ⟨ab a,0+m.toNat*Cells.sz α,none⟩)) :: e,D,H,G⟩ K)
 (hx:e.ev x=some (.slice a xs.length c):=by exact rfl) (hi:e.ev i=some (.int k m):=by exact rfl) (hs:OwnA a c xs junk:=by assumption) (hb:0≤m∧m<xs.length:=by omega) (hn:Nat.ble (d+1) B.n=true:=by exact rfl):Wl P ops (⟨some d,.indexAddr T x i,ty,pos,after,none⟩ :: rest) B ⟨e,D,H,G⟩ K:=
 eG hn (dO hT hx hi hs hb) h
abbrev gX:=@YI
theorem Wl.lc [Inhabited α] {T:TypeId} {x:Operand} {a:Option Addr} {xs:List α} {m:Int} {v:Value} (k:Nat) (h1:wL P T=true) (h:Wl P ops rest B ⟨(d,v) :: e,D,H,G⟩ K) (hx:e.ev x=some (.pointer (some ⟨ab a,ao a+m.toNat*Cells.sz α+k,none⟩)):=by exact rfl)
 (hs:Arr G a xs:=by assumption) (hm:0≤m∧m<xs.length:=by omega) (hk:Nat.ble (k+1) (Cells.sz α)=true:=by exact rfl) (hv:(Cells.enc (xs[m.toNat]?.getD default))[k]?=some v:=by exact rfl) (hn:Nat.ble (d+1) B.n=true:=by exact rfl):Wl P ops (⟨some d,.load T x,ty,pos,after,none⟩ :: rest) B ⟨e,D,H,G⟩ K:=
 eG hn (cJ h1 hx (hs.cell hm k hk hv)) h
abbrev iY:=@Wl.lc
theorem Wl.le [Inhabited α] {T k:TypeId} {x:Operand} {a:Option Addr} {xs:List α} {m:Int} (h1:yB P T k=true) (h:Wl P ops rest B ⟨(d,.agg (Cells.enc (xs[m.toNat]?.getD default)).toArray) :: e,D,H,G⟩ K) (hx:e.ev x=some (.pointer (some ⟨ab a,ao a+m.toNat*Cells.sz α,none⟩)):=by exact rfl)
 (hs:Arr G a xs:=by assumption) (hm:0≤m∧m<xs.length:=by omega) (hl:(Cells.enc (xs[m.toNat]?.getD default)).length=k:=by exact rfl) (hn:Nat.ble (d+1) B.n=true:=by exact rfl):Wl P ops (⟨some d,.load T x,ty,pos,after,none⟩ :: rest) B ⟨e,D,H,G⟩ K:=
 eG hn (gZ h1 hx (hs.elem hm) hl) h
abbrev lB:=@Wl.le
theorem Wl.lo [Inhabited α] {T:TypeId} {x:Operand} {E:TypeId} {a:Option Addr} {c:Nat} {xs:List α} {junk:List Value} {m:Int} {v:Value} (t k:Nat) (h1:wL P T=true) (h:Wl P ops rest B ⟨(d,v) :: e,D,H,G⟩ K) (hx:e.ev x=some (.pointer (some ⟨ab a,0+m.toNat*Cells.sz α+k,none⟩)):=by exact rfl)
 (ht:H.get t=some (a.map (·.block),Row E xs junk):=by exact rfl) (ho:OwnA a c xs junk:=by assumption) (hm:0≤m∧m<xs.length:=by omega) (hk:Nat.ble (k+1) (Cells.sz α)=true:=by exact rfl) (hv:(Cells.enc (xs[m.toNat]?.getD default))[k]?=some v:=by exact rfl) (hn:Nat.ble (d+1) B.n=true:=by exact rfl) :
 Wl P ops (⟨some d,.load T x,ty,pos,after,none⟩ :: rest) B ⟨e,D,H,G⟩ K:=eG hn (fG t k h1 hx ht ho hm hk hv) h
abbrev mS:=@Wl.lo
theorem Gm.at {T:TypeId} {x i:Operand} {c:Nat} {k:IntKind} {m:Int} {E:Nat} {a:Option Addr} {xs:List α} (q:Nat) (hT:sW P T E (Cells.sz α)) (h:Gm P l.toArray f (listed.setIfInBounds q true) wr H0 G0 B ⟨(d,.pointer (some ⟨ab a,ao a+m.toNat*Cells.sz α,none⟩)) :: e,D,H,G⟩ K)
 (ho:l[q]?=some ⟨some d,.indexAddr T x i,ty,pos,after,none⟩:=by exact rfl) (hx:e.ev x=some (.slice a xs.length c):=by exact rfl) (hi:e.ev i=some (.int k m):=by exact rfl) (hs:Arr G0 a xs:=by assumption) (hb:0≤m∧m<xs.length:=by omega) (hn:Nat.ble (d+1) B.n=true:=by exact rfl) (hB:yD l.toArray listed wr q []=true:=by kernel_rfl) :
 Gm P l.toArray (f+1) listed wr H0 G0 B ⟨e,D,H,G⟩ K:=dN q [] ho (jA hT hx hi hs hb) h hn hB
abbrev mQ:=@Gm.at
theorem YJ {T:TypeId} {x i:Operand} {c:Nat} {k:IntKind} {m:Int} {E:Nat} {a:Option Addr} {xs:List α} {junk:List Value} (q:Nat) (hT:sW P T E (Cells.sz α)) (h:Gm P l.toArray f (listed.setIfInBounds q true) wr H0 G0 B ⟨(d,.pointer (some ⟨ab a,0+m.toNat*Cells.sz α,none⟩)) :: e,D,H,G⟩ K)
 (ho:l[q]?=some ⟨some d,.indexAddr T x i,ty,pos,after,none⟩:=by exact rfl) (hx:e.ev x=some (.slice a xs.length c):=by exact rfl) (hi:e.ev i=some (.int k m):=by exact rfl) (hs:OwnA a c xs junk:=by assumption) (hb:0≤m∧m<xs.length:=by omega) (hn:Nat.ble (d+1) B.n=true:=by exact rfl) (hB:yD l.toArray listed wr q []=true:=by kernel_rfl) :
 Gm P l.toArray (f+1) listed wr H0 G0 B ⟨e,D,H,G⟩ K:=dN q [] ho (dO hT hx hi hs hb) h hn hB
abbrev fH:=@YJ
theorem Gm.lc [Inhabited α] {T:TypeId} {x:Operand} {a:Option Addr} {xs:List α} {m:Int} {v:Value} (q:Nat) (ts:List Nat) (k:Nat) (h1:wL P T=true) (h:Gm P l.toArray f (listed.setIfInBounds q true) wr H0 G0 B ⟨(d,v) :: e,D,H,G⟩ K) (ho:l[q]?=some ⟨some d,.load T x,ty,pos,after,none⟩:=by exact rfl)
 (hx:e.ev x=some (.pointer (some ⟨ab a,ao a+m.toNat*Cells.sz α+k,none⟩)):=by exact rfl) (hs:Arr G0 a xs:=by assumption) (hm:0≤m∧m<xs.length:=by omega) (hk:Nat.ble (k+1) (Cells.sz α)=true:=by exact rfl) (hv:(Cells.enc (xs[m.toNat]?.getD default))[k]?=some v:=by exact rfl) (hn:Nat.ble (d+1) B.n=true:=by exact rfl) (hB:yD l.toArray listed wr q ts=true:=by kernel_rfl) :
 Gm P l.toArray (f+1) listed wr H0 G0 B ⟨e,D,H,G⟩ K:=dN q ts ho (cJ h1 hx (hs.cell hm k hk hv)) h hn hB
abbrev qU:=@Gm.lc
theorem Gm.le [Inhabited α] {T k:TypeId} {x:Operand} {a:Option Addr} {xs:List α} {m:Int} (q:Nat) (h1:yB P T k=true) (h:Gm P l.toArray f (listed.setIfInBounds q true) wr H0 G0 B ⟨(d,.agg (Cells.enc (xs[m.toNat]?.getD default)).toArray) :: e,D,H,G⟩ K) (ho:l[q]?=some ⟨some d,.load T x,ty,pos,after,none⟩:=by exact rfl)
 (hx:e.ev x=some (.pointer (some ⟨ab a,ao a+m.toNat*Cells.sz α,none⟩)):=by exact rfl) (hs:Arr G0 a xs:=by assumption) (hm:0≤m∧m<xs.length:=by omega) (hl:(Cells.enc (xs[m.toNat]?.getD default)).length=k:=by exact rfl) (hn:Nat.ble (d+1) B.n=true:=by exact rfl) (hB:yD l.toArray listed wr q []=true:=by kernel_rfl) :
 Gm P l.toArray (f+1) listed wr H0 G0 B ⟨e,D,H,G⟩ K:=dN q [] ho (gZ h1 hx (hs.elem hm) hl) h hn hB
theorem Gm.lo [Inhabited α] {T:TypeId} {x:Operand} {E:TypeId} {a:Option Addr} {c:Nat} {xs:List α} {junk:List Value} {m:Int} {v:Value} (q t k:Nat) (h1:wL P T=true) (h:Gm P l.toArray f (listed.setIfInBounds q true) wr H0 G0 B ⟨(d,v) :: e,D,H,G⟩ K) (ho:l[q]?=some ⟨some d,.load T x,ty,pos,after,none⟩:=by exact rfl)
 (hx:e.ev x=some (.pointer (some ⟨ab a,0+m.toNat*Cells.sz α+k,none⟩)):=by exact rfl) (ht:(H0.only [t]).get t=some (a.map (·.block),Row E xs junk):=by exact rfl) (hw:OwnA a c xs junk:=by assumption) (hm:0≤m∧m<xs.length:=by omega) (hk:Nat.ble (k+1) (Cells.sz α)=true:=by exact rfl)
 (hv:(Cells.enc (xs[m.toNat]?.getD default))[k]?=some v:=by exact rfl) (hn:Nat.ble (d+1) B.n=true:=by exact rfl) (hB:yD l.toArray listed wr q [t]=true:=by kernel_rfl):Gm P l.toArray (f+1) listed wr H0 G0 B ⟨e,D,H,G⟩ K:=dN q [t] ho (fG t k h1 hx ht hw hm hk hv) h hn hB
abbrev mZ:=@Gm.lo
theorem YK {s x:Operand} {T E bytes:Nat} {zs:List Value} {a ad:Option Addr} {c c2:Nat} {xs ys:List α} {junk:List Value} (t:Nat) (hT:sW P T E (Cells.sz α)) (hE:ElemOf P E (Cells.sz α) bytes zs) (hsrc:Src H G ad ys)
 (h:∀ a' c' junk',OwnA a' c' (xs++ys) junk'→Wl P ops rest B ⟨(d,.slice a' (xs++ys).length c') :: e,D,(t,a'.map (·.block),Row E (xs++ys) junk') :: H,G⟩ K) (hs:e.ev s=some (.slice a xs.length c):=by exact rfl) (hx:e.ev x=some (.slice ad ys.length c2):=by exact rfl)
 (ht:H.get t=some (a.map (·.block),Row E xs junk):=by exact rfl) (ho:OwnA a c xs junk:=by first | assumption | exact eD | exact fM tR) (hb:(xs.length+ys.length)*bytes≤140737488355328:=by first | omega | (simp only [aC,aW,cH,maxLen];omega)) (hl:xs.length+ys.length≤maxLen:=by first | omega | (simp only [aC,aW,cH,maxLen];omega)) (hn:Nat.ble (d+1) B.n=true:=by exact rfl) :
 Wl P ops (⟨some d,.call { callee:=.builtin .append,args:=#[s,x],argTypes:=#[T,T] },ty,pos,after,none⟩ :: rest) B ⟨e,D,H,G⟩ K:=gM t hn hT hE hs hx ht ho hsrc hb hl h
abbrev jS:=@YK
end
section
variable {P:Program} {B:Bs} {e:Env} {D:List Deferred} {H H0:Hp} {G G0:Imm} {K:Act→World→Prop} {l:List Oper} {f:Nat} {listed:Array Bool} {wr:List (Nat×Nat)} {Q:Exit→Act→World→Prop} {ops:Array Oper} {p:Prop} [Decidable p]
theorem YL {ι:Type} {I:ι→St} {φ:ι→Prop} {μ:ι→Nat} {m:Nat} (j:ι) (hφ:φ j) (hμ:μ j<m) (hI:I j=⟨(I j).e,D,(I j).H,G⟩:=by exact rfl) (he:e.sub (I j).e:=by repeat (first | exact trivial | refine ⟨rfl,?_⟩)) (hH:H.sub (I j).H:=by repeat (first | exact trivial | refine ⟨rfl,?_⟩)):Ar (Exit.then (Dh B I φ μ m) Q) .normal B ⟨e,D,H,G⟩:=fR j hφ hμ hI he hH
abbrev cL:=@YL
theorem Ar.mt {ι:Type} {I:ι→St} {φ:ι→Prop} (j:ι) (hφ:φ j) (hI:I j=⟨(I j).e,D,(I j).H,G⟩:=by exact rfl) (he:e.sub (I j).e:=by repeat (first | exact trivial | refine ⟨rfl,?_⟩)) (hH:H.sub (I j).H:=by repeat (first | exact trivial | refine ⟨rfl,?_⟩)):Ar (Exit.then (QX B I φ) Q) .normal B ⟨e,D,H,G⟩:=lZ j hφ hI he hH
abbrev mC:=@Ar.mt
theorem Wc.lp {ι:Type} {r:Option Nat} {c:Code} (I:ι→Env×Hp) (φ:ι→Prop) (μ:ι→Nat) (i0:ι) (h0:φ i0) (hb:∀ i,φ i→Wc r P c B ⟨(I i).1,D,(I i).2,G⟩ (Exit.then (Dh B (fun i=>⟨(I i).1,D,(I i).2,G⟩) φ μ (μ i)) Q)) (he:e.sub (I i0).1:=by repeat (first | exact trivial | refine ⟨rfl,?_⟩)) (hH:H.sub (I i0).2:=by repeat (first | exact trivial | refine ⟨rfl,?_⟩)) :
 Wc r P (.loop c) B ⟨e,D,H,G⟩ Q:=gL I φ μ i0 h0 he hH hb
abbrev gY:=@Wc.lp
theorem Wc.lg {ι:Type} {r:Option Nat} {c:Code} (I:ι→Env×Hp) (g:ι→Imm) (φ:ι→Prop) (μ:ι→Nat) (i0:ι) (h0:φ i0) (hb:∀ i,φ i→Wc r P c B ⟨(I i).1,D,(I i).2,g i⟩ (Exit.then (Dh B (fun i=>⟨(I i).1,D,(I i).2,g i⟩) φ μ (μ i)) Q)) (hg:G=g i0:=by exact rfl) (he:e.sub (I i0).1:=by repeat (first | exact trivial | refine ⟨rfl,?_⟩)) (hH:H.sub (I i0).2:=by repeat (first | exact trivial | refine ⟨rfl,?_⟩)) :
 Wc r P (.loop c) B ⟨e,D,H,G⟩ Q:=iZ I g φ μ i0 h0 hg he hH hb
theorem VC (t:Nat) (h:Wl P ops l B ⟨(t,.bool true) :: e,D,H,G⟩ K) (he:e.get t=some (.bool (decide p)):=by exact rfl) (hp:p:=by first | assumption | omega):Wl P ops l B ⟨e,D,H,G⟩ K:=mE t he hp h
theorem YM (t:Nat) (h:Wl P ops l B ⟨(t,.bool false) :: e,D,H,G⟩ K) (he:e.get t=some (.bool (decide p)):=by exact rfl) (hp:¬p:=by first | assumption | omega):Wl P ops l B ⟨e,D,H,G⟩ K:=mA t he hp h
abbrev oM:=@YM
theorem Wl.o1 {o:Oper} (i:Nat) (h:Wl P l.toArray [o] B ⟨e,D,H,G⟩ (Dl P l.toArray f (listed.setIfInBounds i true) wr H0 G0 K)) (hH:H.sub (H0.live wr listed):=by repeat (first | exact trivial | refine ⟨rfl,?_⟩)) (hG:G0.le G:=by first | exact bK _ | repeat (first | assumption | refine aQ ?_ sF)) (hr:Region.ready .any l.toArray listed=[i]:=by kernel_rfl) (ho:l[i]?=some o:=by exact rfl) :
 Wl P l.toArray [] B ⟨e,D,H,G⟩ (Dl P l.toArray (f+1) listed wr H0 G0 K):=bD (bV i h hH hG hr ho)
abbrev cG:=@Wl.o1
theorem YN {x:Exit} (h:Ar Q x B ⟨e,D,H,G⟩) (hr:Region.ready .any ops listed=[]:=by kernel_rfl) (hH:H.sub (H0.live wr listed):=by repeat (first | exact trivial | refine ⟨rfl,?_⟩)) (hG:G0.le G:=by first | exact bK _ | repeat (first | assumption | refine aQ ?_ sF)):Wl P ops [] B ⟨e,D,H,G⟩ (Dl P ops 0 listed wr H0 G0 (Q x)):=bD (cZ h hr hH hG)
abbrev eZ:=@YN
theorem YO [Tab P] {r:Option Nat} {id:Nat} {e':Env} {ob:Prop} (ts:List Nat) (wr:List (Nat×Nat)) (hm:P.follows .mixedOrders=true) (steps:List (List Nat)) {f:Nat} (h:Gm P l.toArray f (Xu steps (Array.replicate l.length false)) wr (H.only ts) G B ⟨e',D,H,G⟩ (Q .normal)) (hf:l.length=RF steps f:=by exact rfl)
 (hr:XZ P B.n l (H.only ts) steps e=some (e',ob):=by exact rfl) (hob:ob:=by (repeat refine And.intro VA ?_);exact trivial) (hB:Ht l.toArray wr steps (Array.replicate l.length false)=true:=by kernel_rfl) (hd:l.all wB=true:=by exact rfl) :
 Wc r P (.region id l.toArray true) B ⟨e,D,H,G⟩ Q:=gQ ts wr hm hd (by have:=Ur hr hob hB h;rw [←hf] at this;exact this)
abbrev cX:=@YO
end
theorem D0 {P:Program} {G:Imm} {f:FuncId} {fn:Func} {c:Code} {n:Nat} {args:List Value} {Hi:Hp} {post:Value→Imm→Hp→Prop} (hf:P.funcs[f]?=some fn) (hn:fn.ntmps=n) (h:∀ w,Wc none P c ⟨n,w,Hi.has,G⟩ ⟨xN 0 args,[],Hi,G⟩ (BR P fn G Hi w post)) (hb:fn.body=some c:=by exact rfl)
 (hl:Nat.ble args.length n=true:=by exact rfl):Does P f args G Hi post:=fK hf hb hn hl h
section
variable {P:Program} {fn:Func} {G0:Imm} {Hi:Hp} {w0:World} {post:Value→Imm→Hp→Prop} {n:Nat} {e:Env} {H:Hp} {G:Imm} {x:Exit} {t1 t2:Nat} {v1 v2:Value}
theorem Ar.p1 (L:List Nat) (hp:post v1 G (H.only L)) (hx:x=.normal∨x=.ret:=by exact .inr rfl) (hres:fn.results=#[.tmp t1]:=by exact rfl) (h1:e.get t1=some v1:=by exact rfl):Ar (BR P fn G0 Hi w0 post) x ⟨n,w0,Hi.has,G0⟩ ⟨e,[],H,G⟩:=
 cK hx hres (.tmp h1) (aT _ _) hp
abbrev mB:=@Ar.p1
theorem Ar.p2 (L:List Nat) (hp:post (.tuple #[v1,v2]) G (H.only L)) (hx:x=.normal∨x=.ret:=by exact .inr rfl) (hres:fn.results=#[.tmp t1,.tmp t2]:=by exact rfl) (h1:e.get t1=some v1:=by exact rfl) (h2:e.get t2=some v2:=by exact rfl):Ar (BR P fn G0 Hi w0 post) x ⟨n,w0,Hi.has,G0⟩ ⟨e,[],H,G⟩:=
 fS hx hres (.tmp h1) (.tmp h2) (aT _ _) hp
abbrev pD:=@Ar.p2
end
theorem Wc.i {P:Program} {r:Option Nat} {B:Bs} {S:St} {Q:Exit→Act→World→Prop} {c:Operand} {x y:Code} {p:Prop} [Decidable p] (ht:p→Wc r P x B S Q) (hf:¬p→Wc r P y B S Q) (hc:S.e.ev c=some (.bool (decide p)):=by exact rfl):Wc r P (.cond c x y) B S Q:=nK hc ht hf
abbrev cT:=@Wc.i
end Go.Sl
namespace Go.Proofs.YtfdcckcadfhpeaaGreatDoor.T
open Go Go.Sl
theorem one2:wL Tryz.prog 2=true:=sG
theorem u2:Tryz.prog.underlying 2=some (.int .i64):=sG
theorem one3:wL Tryz.prog 3=true:=sG
theorem size3:(Tryz.prog.info? 3).map (·.size)=some 1:=sG
theorem zero3:ZeroOf Tryz.prog 3 [.int .i64 0]:=iP sG
theorem el3:ElemOf Tryz.prog 3 1 8 [.int .i64 0]:=kL sG rfl
theorem u3:Tryz.prog.underlying 3=some (.int .i64):=sG
theorem one4:wL Tryz.prog 4=true:=sG
theorem size4:(Tryz.prog.info? 4).map (·.size)=some 1:=sG
theorem el4:ElemOf Tryz.prog 4 1 1 [.bool false]:=kL sG rfl
theorem u4:Tryz.prog.underlying 4=some .bool:=sG
theorem one5:wL Tryz.prog 5=true:=sG
theorem el5:ElemOf Tryz.prog 5 1 1 [.int .u8 0]:=kL sG rfl
theorem u5:Tryz.prog.underlying 5=some (.int .u8):=sG
theorem u6:Tryz.prog.underlying 6=some (.int .u8):=sG
theorem one22:wL Tryz.prog 22=true:=sG
theorem sl22:sW Tryz.prog 22 52 2:=⟨by kernel_rfl,by kernel_rfl⟩
theorem one23:wL Tryz.prog 23=true:=sG
theorem sl23:sW Tryz.prog 23 91 5:=⟨by kernel_rfl,by kernel_rfl⟩
theorem one24:wL Tryz.prog 24=true:=sG
theorem sl24:sW Tryz.prog 24 3 1:=⟨by kernel_rfl,by kernel_rfl⟩
theorem agg26:yB Tryz.prog 26 4=true:=sG
theorem size26:(Tryz.prog.info? 26).map (·.size)=some 4:=sG
theorem zero26:ZeroOf Tryz.prog 26 [.int .i64 0,.int .i64 0,.slice none 0 0,.slice none 0 0]:=iP sG
theorem fa26_3:yW Tryz.prog 26 3 3:=fun _ _ _=>sG
theorem el26:ElemOf Tryz.prog 26 4 64 [.int .i64 0,.int .i64 0,.slice none 0 0,.slice none 0 0]:=kL sG rfl
theorem st26:StructOf Tryz.prog 26 [(0,1),(1,1),(2,1),(3,1)] [.int .i64 0,.int .i64 0,.slice none 0 0,.slice none 0 0]:=gN (Tryz.prog.fieldsOf 26) sG sG sG
theorem agg28:yB Tryz.prog 28 15=true:=sG
theorem zero28:ZeroOf Tryz.prog 28 [.int .i64 0,.int .i64 0,.slice none 0 0,.int .i64 0,.int .i64 0,.slice none 0 0,.slice none 0 0,.int .i64 0,.int .i64 0,.slice none 0 0,.slice none 0 0,.int .i64 0,.int .i64 0,.slice none 0 0,.slice none 0 0]:=iP sG
theorem fa28_0:yW Tryz.prog 28 0 0:=fun _ _ _=>sG
theorem fa28_1:yW Tryz.prog 28 1 1:=fun _ _ _=>sG
theorem fa28_5:yW Tryz.prog 28 5 11:=fun _ _ _=>sG
theorem st28:StructOf Tryz.prog 28 [(0,1),(1,1),(2,1),(3,4),(7,4),(11,4)] [.int .i64 0,.int .i64 0,.slice none 0 0,.int .i64 0,.int .i64 0,.slice none 0 0,.slice none 0 0,.int .i64 0,.int .i64 0,.slice none 0 0,.slice none 0 0,.int .i64 0,.int .i64 0,.slice none 0 0,.slice none 0 0]:=gN (Tryz.prog.fieldsOf 28) sG sG sG
theorem sl38:sW Tryz.prog 38 5 1:=⟨by kernel_rfl,by kernel_rfl⟩
theorem agg42:yB Tryz.prog 42 2=true:=sG
theorem zero42:ZeroOf Tryz.prog 42 [.int .i64 0,.int .i64 0]:=iP sG
theorem st42:StructOf Tryz.prog 42 [(0,1),(1,1)] [.int .i64 0,.int .i64 0]:=gN (Tryz.prog.fieldsOf 42) sG sG sG
theorem ai42:Bl Tryz.prog 42 2:=⟨by kernel_rfl,by kernel_rfl,by kernel_rfl,by kernel_rfl⟩
theorem agg52:yB Tryz.prog 52 2=true:=sG
theorem zero52:ZeroOf Tryz.prog 52 [.int .i64 0,.int .i64 0]:=iP sG
theorem fa52_0:yW Tryz.prog 52 0 0:=fun _ _ _=>sG
theorem fa52_1:yW Tryz.prog 52 1 1:=fun _ _ _=>sG
theorem el52:ElemOf Tryz.prog 52 2 16 [.int .i64 0,.int .i64 0]:=kL sG rfl
theorem st52:StructOf Tryz.prog 52 [(0,1),(1,1)] [.int .i64 0,.int .i64 0]:=gN (Tryz.prog.fieldsOf 52) sG sG sG
theorem ai52:Bl Tryz.prog 52 2:=⟨by kernel_rfl,by kernel_rfl,by kernel_rfl,by kernel_rfl⟩
theorem sl66:sW Tryz.prog 66 2 1:=⟨by kernel_rfl,by kernel_rfl⟩
theorem one68:wL Tryz.prog 68=true:=sG
theorem size68:(Tryz.prog.info? 68).map (·.size)=some 1:=sG
theorem sl68:sW Tryz.prog 68 125 2:=⟨by kernel_rfl,by kernel_rfl⟩
theorem el68:ElemOf Tryz.prog 68 1 24 [.slice none 0 0]:=kL sG rfl
theorem sl74:sW Tryz.prog 74 26 4:=⟨by kernel_rfl,by kernel_rfl⟩
theorem one85:wL Tryz.prog 85=true:=sG
theorem el85:ElemOf Tryz.prog 85 1 8 [.pointer none]:=kL sG rfl
theorem sl86:sW Tryz.prog 86 85 1:=⟨by kernel_rfl,by kernel_rfl⟩
theorem agg91:yB Tryz.prog 91 5=true:=sG
theorem zero91:ZeroOf Tryz.prog 91 [.int .i64 0,.int .i64 0,.int .i64 0,.int .i64 0,.int .i64 0]:=iP sG
theorem el91:ElemOf Tryz.prog 91 5 40 [.int .i64 0,.int .i64 0,.int .i64 0,.int .i64 0,.int .i64 0]:=kL sG rfl
theorem st91:StructOf Tryz.prog 91 [(0,1),(1,1),(2,1),(3,1),(4,1)] [.int .i64 0,.int .i64 0,.int .i64 0,.int .i64 0,.int .i64 0]:=gN (Tryz.prog.fieldsOf 91) sG sG sG
theorem ai91:Bl Tryz.prog 91 5:=⟨by kernel_rfl,by kernel_rfl,by kernel_rfl,by kernel_rfl⟩
theorem sl96:sW Tryz.prog 96 100 5:=⟨by kernel_rfl,by kernel_rfl⟩
theorem agg100:yB Tryz.prog 100 5=true:=sG
theorem zero100:ZeroOf Tryz.prog 100 [.int .i64 0,.int .i64 0,.slice none 0 0,.slice none 0 0,.nilFunc]:=iP sG
theorem el100:ElemOf Tryz.prog 100 5 72 [.int .i64 0,.int .i64 0,.slice none 0 0,.slice none 0 0,.nilFunc]:=kL sG rfl
theorem st100:StructOf Tryz.prog 100 [(0,4),(4,1)] [.int .i64 0,.int .i64 0,.slice none 0 0,.slice none 0 0,.nilFunc]:=gN (Tryz.prog.fieldsOf 100) sG sG sG
theorem one110:wL Tryz.prog 110=true:=sG
theorem zero110:ZeroOf Tryz.prog 110 [.nilFunc]:=iP sG
theorem agg119:yB Tryz.prog 119 3=true:=sG
theorem zero119:ZeroOf Tryz.prog 119 [.pointer none,.pointer none,.pointer none]:=iP sG
theorem ar119:ArrayOf Tryz.prog 119 3 1 [.pointer none,.pointer none,.pointer none]:=ArrayOf.of 85 sG sG sG
theorem sl123:sW Tryz.prog 123 215 1:=⟨by kernel_rfl,by kernel_rfl⟩
theorem agg125:yB Tryz.prog 125 2=true:=sG
theorem size125:(Tryz.prog.info? 125).map (·.size)=some 2:=sG
theorem zero125:ZeroOf Tryz.prog 125 [.bool false,.slice none 0 0]:=iP sG
theorem el125:ElemOf Tryz.prog 125 2 32 [.bool false,.slice none 0 0]:=kL sG rfl
theorem st125:StructOf Tryz.prog 125 [(0,1),(1,1)] [.bool false,.slice none 0 0]:=gN (Tryz.prog.fieldsOf 125) sG sG sG
theorem zero138:ZeroOf Tryz.prog 138 [.slice none 0 0]:=iP sG
theorem sl138:sW Tryz.prog 138 4 1:=⟨by kernel_rfl,by kernel_rfl⟩
theorem st140:StructOf Tryz.prog 140 [(0,1),(1,1)] [.map none,.slice none 0 0]:=gN (Tryz.prog.fieldsOf 140) sG sG sG
theorem st143:StructOf Tryz.prog 143 [(0,4),(4,1),(5,1),(6,1),(7,1),(8,1),(9,1)] [.int .i64 0,.int .i64 0,.slice none 0 0,.slice none 0 0,.slice none 0 0,.slice none 0 0,.slice none 0 0,.slice none 0 0,.slice none 0 0,.slice none 0 0]:=gN (Tryz.prog.fieldsOf 143) sG sG sG
theorem ar145:ArrayOf Tryz.prog 145 2 1 [.int .i64 0,.int .i64 0]:=ArrayOf.of 3 sG sG sG
theorem one150:wL Tryz.prog 150=true:=sG
theorem zero150:ZeroOf Tryz.prog 150 [.nilFunc]:=iP sG
theorem agg158:yB Tryz.prog 158 2=true:=sG
theorem zero158:ZeroOf Tryz.prog 158 [.string ByteArray.empty,.nilFunc]:=iP sG
theorem el158:ElemOf Tryz.prog 158 2 24 [.string ByteArray.empty,.nilFunc]:=kL sG rfl
theorem st158:StructOf Tryz.prog 158 [(0,1),(1,1)] [.string ByteArray.empty,.nilFunc]:=gN (Tryz.prog.fieldsOf 158) sG sG sG
theorem sl159:sW Tryz.prog 159 158 2:=⟨by kernel_rfl,by kernel_rfl⟩
theorem st168:StructOf Tryz.prog 168 [(0,1),(1,1),(2,1),(3,1)] [.slice none 0 0,.map none,.map none,.int .i64 0]:=gN (Tryz.prog.fieldsOf 168) sG sG sG
theorem one171:wL Tryz.prog 171=true:=sG
theorem zero171:ZeroOf Tryz.prog 171 [.nilFunc]:=iP sG
theorem st176:StructOf Tryz.prog 176 [(0,1),(1,1),(2,1)] [.int .i64 0,.int .i64 0,.slice none 0 0]:=gN (Tryz.prog.fieldsOf 176) sG sG sG
theorem st198:StructOf Tryz.prog 198 [(0,1),(1,1),(2,1)] [.slice none 0 0,.int .i64 0,.bool false]:=gN (Tryz.prog.fieldsOf 198) sG sG sG
theorem u199:Tryz.prog.underlying 199=some (.int .u64):=sG
theorem one203:wL Tryz.prog 203=true:=sG
theorem agg206:yB Tryz.prog 206 5=true:=sG
theorem zero206:ZeroOf Tryz.prog 206 [.nilFunc,.nilFunc,.nilFunc,.nilFunc,.nilFunc]:=iP sG
theorem st206:StructOf Tryz.prog 206 [(0,1),(1,1),(2,1),(3,1),(4,1)] [.nilFunc,.nilFunc,.nilFunc,.nilFunc,.nilFunc]:=gN (Tryz.prog.fieldsOf 206) sG sG sG
theorem u214:Tryz.prog.underlying 214=some (.int .u64):=sG
theorem one215:wL Tryz.prog 215=true:=sG
theorem size215:(Tryz.prog.info? 215).map (·.size)=some 1:=sG
theorem el215:ElemOf Tryz.prog 215 1 4 [.int .u32 0]:=kL sG rfl
theorem u215:Tryz.prog.underlying 215=some (.int .u32):=sG
theorem agg230:yB Tryz.prog 230 4=true:=sG
theorem zero230:ZeroOf Tryz.prog 230 [.int .i64 0,.int .i64 0,.int .i64 0,.int .i64 0]:=iP sG
theorem st230:StructOf Tryz.prog 230 [(0,1),(1,1),(2,1),(3,1)] [.int .i64 0,.int .i64 0,.int .i64 0,.int .i64 0]:=gN (Tryz.prog.fieldsOf 230) sG sG sG
theorem YP:Bl Tryz.prog 230 4:=⟨by kernel_rfl,by kernel_rfl,by kernel_rfl,by kernel_rfl⟩
theorem sl237:sW Tryz.prog 237 68 1:=⟨by kernel_rfl,by kernel_rfl⟩
theorem u253:Tryz.prog.underlying 253=some (.int .i8):=sG
theorem fa267_2:yW Tryz.prog 267 2 2:=fun _ _ _=>sG
theorem st267:StructOf Tryz.prog 267 [(0,1),(1,1),(2,1)] [.int .i64 0,.slice none 0 0,.slice none 0 0]:=gN (Tryz.prog.fieldsOf 267) sG sG sG
theorem agg281:yB Tryz.prog 281 5=true:=sG
theorem zero281:ZeroOf Tryz.prog 281 [.nilFunc,.nilFunc,.nilFunc,.nilFunc,.nilFunc]:=iP sG
theorem st281:StructOf Tryz.prog 281 [(0,1),(1,1),(2,1),(3,1),(4,1)] [.nilFunc,.nilFunc,.nilFunc,.nilFunc,.nilFunc]:=gN (Tryz.prog.fieldsOf 281) sG sG sG
theorem u292:Tryz.prog.underlying 292=some (.int .i16):=sG
theorem mp137:MapT Tryz.prog 137 3 Int:=⟨⟨3,by kernel_rfl,fun _=>by kernel_rfl⟩,KeyT.int u3⟩
theorem mp166:MapT Tryz.prog 166 230 K4:=⟨⟨3,by kernel_rfl,fun _=>by kernel_rfl⟩,KeyT.k4 YP⟩
theorem fn47:tH Tryz.prog 47:=⟨Tryz.f47,Tryz.func47,rfl,by kernel_rfl⟩
theorem fn48:tH Tryz.prog 48:=⟨Tryz.f48,Tryz.func48,rfl,by kernel_rfl⟩
theorem fn49:tH Tryz.prog 49:=⟨Tryz.f49,Tryz.func49,rfl,by kernel_rfl⟩
theorem fn65:tH Tryz.prog 65:=⟨Tryz.f65,Tryz.func65,rfl,by kernel_rfl⟩
theorem fn72:tH Tryz.prog 72:=⟨Tryz.f72,Tryz.func72,rfl,by kernel_rfl⟩
theorem fn75:tH Tryz.prog 75:=⟨Tryz.f75,Tryz.func75,rfl,by kernel_rfl⟩
theorem fn86:tH Tryz.prog 86:=⟨Tryz.f86,Tryz.func86,rfl,by kernel_rfl⟩
theorem fn88:tH Tryz.prog 88:=⟨Tryz.f88,Tryz.func88,rfl,by kernel_rfl⟩
theorem fn89:tH Tryz.prog 89:=⟨Tryz.f89,Tryz.func89,rfl,by kernel_rfl⟩
theorem fn91:tH Tryz.prog 91:=⟨Tryz.f91,Tryz.func91,rfl,by kernel_rfl⟩
theorem fn92:tH Tryz.prog 92:=⟨Tryz.f92,Tryz.func92,rfl,by kernel_rfl⟩
theorem fn93:tH Tryz.prog 93:=⟨Tryz.f93,Tryz.func93,rfl,by kernel_rfl⟩
theorem fn98:tH Tryz.prog 98:=⟨Tryz.f98,Tryz.func98,rfl,by kernel_rfl⟩
theorem fn99:tH Tryz.prog 99:=⟨Tryz.f99,Tryz.func99,rfl,by kernel_rfl⟩
theorem fn100:tH Tryz.prog 100:=⟨Tryz.f100,Tryz.func100,rfl,by kernel_rfl⟩
theorem fn105:tH Tryz.prog 105:=⟨Tryz.f105,Tryz.func105,rfl,by kernel_rfl⟩
theorem fn107:tH Tryz.prog 107:=⟨Tryz.f107,Tryz.func107,rfl,by kernel_rfl⟩
theorem fn109:tH Tryz.prog 109:=⟨Tryz.f109,Tryz.func109,rfl,by kernel_rfl⟩
theorem fn110:tH Tryz.prog 110:=⟨Tryz.f110,Tryz.func110,rfl,by kernel_rfl⟩
theorem fn132:tH Tryz.prog 132:=⟨Tryz.f132,Tryz.func132,rfl,by kernel_rfl⟩
theorem fn136:tH Tryz.prog 136:=⟨Tryz.f136,Tryz.func136,rfl,by kernel_rfl⟩
theorem fn138:tH Tryz.prog 138:=⟨Tryz.f138,Tryz.func138,rfl,by kernel_rfl⟩
theorem fn144:tH Tryz.prog 144:=⟨Tryz.f144,Tryz.func144,rfl,by kernel_rfl⟩
theorem fn145:tH Tryz.prog 145:=⟨Tryz.f145,Tryz.func145,rfl,by kernel_rfl⟩
theorem fn146:tH Tryz.prog 146:=⟨Tryz.f146,Tryz.func146,rfl,by kernel_rfl⟩
theorem fn147:tH Tryz.prog 147:=⟨Tryz.f147,Tryz.func147,rfl,by kernel_rfl⟩
theorem fn151:tH Tryz.prog 151:=⟨Tryz.f151,Tryz.func151,rfl,by kernel_rfl⟩
theorem fn170:tH Tryz.prog 170:=⟨Tryz.f170,Tryz.func170,rfl,by kernel_rfl⟩
theorem fn171:tH Tryz.prog 171:=⟨Tryz.f171,Tryz.func171,rfl,by kernel_rfl⟩
theorem fn172:tH Tryz.prog 172:=⟨Tryz.f172,Tryz.func172,rfl,by kernel_rfl⟩
theorem fn173:tH Tryz.prog 173:=⟨Tryz.f173,Tryz.func173,rfl,by kernel_rfl⟩
theorem fn176:tH Tryz.prog 176:=⟨Tryz.f176,Tryz.func176,rfl,by kernel_rfl⟩
theorem fn177:tH Tryz.prog 177:=⟨Tryz.f177,Tryz.func177,rfl,by kernel_rfl⟩
theorem fn178:tH Tryz.prog 178:=⟨Tryz.f178,Tryz.func178,rfl,by kernel_rfl⟩
theorem fn188:tH Tryz.prog 188:=⟨Tryz.f188,Tryz.func188,rfl,by kernel_rfl⟩
theorem fn189:tH Tryz.prog 189:=⟨Tryz.f189,Tryz.func189,rfl,by kernel_rfl⟩
theorem fn190:tH Tryz.prog 190:=⟨Tryz.f190,Tryz.func190,rfl,by kernel_rfl⟩
theorem fn191:tH Tryz.prog 191:=⟨Tryz.f191,Tryz.func191,rfl,by kernel_rfl⟩
theorem fn192:tH Tryz.prog 192:=⟨Tryz.f192,Tryz.func192,rfl,by kernel_rfl⟩
theorem fn193:tH Tryz.prog 193:=⟨Tryz.f193,Tryz.func193,rfl,by kernel_rfl⟩
theorem fn194:tH Tryz.prog 194:=⟨Tryz.f194,Tryz.func194,rfl,by kernel_rfl⟩
theorem fn195:tH Tryz.prog 195:=⟨Tryz.f195,Tryz.func195,rfl,by kernel_rfl⟩
theorem fn196:tH Tryz.prog 196:=⟨Tryz.f196,Tryz.func196,rfl,by kernel_rfl⟩
theorem fn197:tH Tryz.prog 197:=⟨Tryz.f197,Tryz.func197,rfl,by kernel_rfl⟩
theorem fn199:tH Tryz.prog 199:=⟨Tryz.f199,Tryz.func199,rfl,by kernel_rfl⟩
theorem fn205:tH Tryz.prog 205:=⟨Tryz.f205,Tryz.func205,rfl,by kernel_rfl⟩
theorem fn217:tH Tryz.prog 217:=⟨Tryz.f217,Tryz.func217,rfl,by kernel_rfl⟩
theorem fn218:tH Tryz.prog 218:=⟨Tryz.f218,Tryz.func218,rfl,by kernel_rfl⟩
theorem fn219:tH Tryz.prog 219:=⟨Tryz.f219,Tryz.func219,rfl,by kernel_rfl⟩
theorem fn220:tH Tryz.prog 220:=⟨Tryz.f220,Tryz.func220,rfl,by kernel_rfl⟩
theorem fn224:tH Tryz.prog 224:=⟨Tryz.f224,Tryz.func224,rfl,by kernel_rfl⟩
theorem fn227:tH Tryz.prog 227:=⟨Tryz.f227,Tryz.func227,rfl,by kernel_rfl⟩
theorem fn228:tH Tryz.prog 228:=⟨Tryz.f228,Tryz.func228,rfl,by kernel_rfl⟩
theorem fn229:tH Tryz.prog 229:=⟨Tryz.f229,Tryz.func229,rfl,by kernel_rfl⟩
theorem fn230:tH Tryz.prog 230:=⟨Tryz.f230,Tryz.func230,rfl,by kernel_rfl⟩
theorem fn231:tH Tryz.prog 231:=⟨Tryz.f231,Tryz.func231,rfl,by kernel_rfl⟩
theorem fn232:tH Tryz.prog 232:=⟨Tryz.f232,Tryz.func232,rfl,by kernel_rfl⟩
theorem fn233:tH Tryz.prog 233:=⟨Tryz.f233,Tryz.func233,rfl,by kernel_rfl⟩
theorem fn234:tH Tryz.prog 234:=⟨Tryz.f234,Tryz.func234,rfl,by kernel_rfl⟩
theorem fn236:tH Tryz.prog 236:=⟨Tryz.f236,Tryz.func236,rfl,by kernel_rfl⟩
theorem fn237:tH Tryz.prog 237:=⟨Tryz.f237,Tryz.func237,rfl,by kernel_rfl⟩
theorem fn239:tH Tryz.prog 239:=⟨Tryz.f239,Tryz.func239,rfl,by kernel_rfl⟩
theorem fn241:tH Tryz.prog 241:=⟨Tryz.f241,Tryz.func241,rfl,by kernel_rfl⟩
theorem fn242:tH Tryz.prog 242:=⟨Tryz.f242,Tryz.func242,rfl,by kernel_rfl⟩
theorem fn265:tH Tryz.prog 265:=⟨Tryz.f265,Tryz.func265,rfl,by kernel_rfl⟩
theorem fn276:tH Tryz.prog 276:=⟨Tryz.f276,Tryz.func276,rfl,by kernel_rfl⟩
theorem mixed:Tryz.prog.follows .mixedOrders=true:=sG
end Go.Proofs.YtfdcckcadfhpeaaGreatDoor.T
namespace Go.Proofs.YtfdcckcadfhpeaaGreatDoor
open Go Go.Sl
instance:Tab Tryz.prog where
 fn:=[10,11,13,15,17,20,21,32,33,34,37,38,41,42,43,44,45,50,51,52,53,54,55,56,60,64,66,67,68,72,73,74,75,76,77,78,81,82,83,84,85,86,87,90,94,95,96,97,101,102,103,104,105,106,108,111,112,123,124,125,126,128,129,130,131,133,134,135,137,138,139,141,142,143,144,148,149,150,152,153,154,155,156,157,158,159,160,161,162,169,174,175,176,177,179,180,181,182,183,184,185,186,198,200,201,202,203,204,206,207,208,209,221,222,223,227,235,238,240,243,247,248,249,250,251,252,264,265,266,269]
 fnP:=.of sG
 one:=[3,4,9,22,23,24,32,38,68,76,98,110,123,126,128,137,138,150,166,171,203,204,272,277,278,279]
 agg:=[(26,4),(28,15),(42,2),(52,2),(91,5),(100,5),(119,3),(125,2),(158,2),(206,5),(230,4),(281,5)]
 sl:=[22,23,24,38,66,68,74,86,96,123,138,159,237]
 fa:=[(26,0,0),(26,1,1),(26,2,2),(26,3,3),(28,0,0),(28,1,1),(28,2,2),(28,3,3),(28,4,7),(28,5,11),(42,0,0),(52,0,0),(52,1,1),(91,0,0),(91,1,1),(91,2,2),(91,3,3),(91,4,4),(100,0,0),(100,1,4),(125,0,0),(125,1,1),(140,0,0),(140,1,1),(143,1,4),(143,2,5),(143,3,6),(143,4,7),(143,5,8),(143,6,9),(158,0,0),(158,1,1),(168,0,0),(168,1,1),(168,2,2),(168,3,3),(198,0,0),(198,1,1),(198,2,2),(206,0,0),(206,1,1),(206,2,2),(206,3,3),(206,4,4),(230,1,1),(230,2,2),(267,0,0),(267,1,1),(267,2,2),(281,0,0),(281,1,1),(281,2,2),(281,3,3),(281,4,4)]
 oneP:=.of sG
 aggP:=.of sG
 slP:=.of sG
 faP:=⟨fun _ _ _=>by kernel_rfl,fun _ _ _=>by kernel_rfl,fun _ _ _=>by kernel_rfl,fun _ _ _=>by kernel_rfl,fun _ _ _=>by kernel_rfl,fun _ _ _=>by kernel_rfl,fun _ _ _=>by kernel_rfl,fun _ _ _=>by kernel_rfl,fun _ _ _=>by kernel_rfl,fun _ _ _=>by kernel_rfl,fun _ _ _=>by kernel_rfl,fun _ _ _=>by kernel_rfl,fun _ _ _=>by kernel_rfl,fun _ _ _=>by kernel_rfl,fun _ _ _=>by kernel_rfl,fun _ _ _=>by kernel_rfl,fun _ _ _=>by kernel_rfl,fun _ _ _=>by kernel_rfl,fun _ _ _=>by kernel_rfl,fun _ _ _=>by kernel_rfl,fun _ _ _=>by kernel_rfl,fun _ _ _=>by kernel_rfl,fun _ _ _=>by kernel_rfl,fun _ _ _=>by kernel_rfl,fun _ _ _=>by kernel_rfl,fun _ _ _=>by kernel_rfl,fun _ _ _=>by kernel_rfl,fun _ _ _=>by kernel_rfl,fun _ _ _=>by kernel_rfl,fun _ _ _=>by kernel_rfl,fun _ _ _=>by kernel_rfl,fun _ _ _=>by kernel_rfl,fun _ _ _=>by kernel_rfl,fun _ _ _=>by kernel_rfl,fun _ _ _=>by kernel_rfl,fun _ _ _=>by kernel_rfl,fun _ _ _=>by kernel_rfl,fun _ _ _=>by kernel_rfl,fun _ _ _=>by kernel_rfl,fun _ _ _=>by kernel_rfl,fun _ _ _=>by kernel_rfl,fun _ _ _=>by kernel_rfl,fun _ _ _=>by kernel_rfl,fun _ _ _=>by kernel_rfl,fun _ _ _=>by kernel_rfl,fun _ _ _=>by kernel_rfl,fun _ _ _=>by kernel_rfl,fun _ _ _=>by kernel_rfl,fun _ _ _=>by kernel_rfl,fun _ _ _=>by kernel_rfl,fun _ _ _=>by kernel_rfl,fun _ _ _=>by kernel_rfl,fun _ _ _=>by kernel_rfl,fun _ _ _=>by kernel_rfl,trivial⟩
end Go.Proofs.YtfdcckcadfhpeaaGreatDoor
namespace Go.Proofs.YtfdcckcadfhpeaaGreatDoor.T
open Go Go.Sl
theorem ar296:ArrayOf Tryz.prog 296 64 1 (List.replicate 64 (.int .u8 0)):=ArrayOf.of 5 sG sG sG
end Go.Proofs.YtfdcckcadfhpeaaGreatDoor.T
namespace Go.Proofs.YtfdcckcadfhpeaaGreatDoor
open Go Go.Sl
def vR (c:Int):Int:=if c=2 then 1 else if c=4 then 2 else if c=8 then 3 else if c=16 then 4 else if c=32 then 5 else if c=64 then 6 else if c=128 then 7 else if c=256 then 8 else if c=512 then 9 else 0
def DZ:List Value:=[0,1,56,2,57,49,28,3,61,58,42,50,38,29,17,4,62,47,59,36,45,43,51,22,53,39,33,30,24,18,12,5,63,55,48,27,60,41,37,16,46,35,44,21,52,32,23,11,54,26,40,15,34,20,31,10,25,14,19,9,13,8,7,6].map fun n=>.int .u8 n
def TabOk (G:Imm):Prop:=∀ k v,DZ[k]?=some v→G.cell 1 k=some v
theorem TabOk.up {G G':Imm} (h:TabOk G) (hl:G.le G'):TabOk G':=fun k v hv=>Ln hl (h k v hv)
theorem TabOk.cell {G:Imm} (h:TabOk G) (k:Nat) (v:Value) (hv:DZ[k]?=some v):G.cell 1 k=some v:=h k v hv
theorem Bu {c:Int} (h:vR c≠0):c=2∨c=4∨c=8∨c=16∨c=32∨c=64∨c=128∨c=256∨c=512:=by
 unfold vR at h
 repeat' split at h
 all_goals omega
theorem KP:∀ k:Fin 511,(bits .and .i64 ((k.val:Int)+2) ((k.val:Int)+2 - 1)=0)↔vR ((k.val:Int)+2)≠0:=Ll
theorem Es {c:Int} (h:2≤c∧c≤512):bits .and .i64 c (c - 1)=0↔vR c≠0:=by
 have:=KP ⟨(c - 2).toNat,by omega⟩
 have e:(((c - 2).toNat:Nat):Int)+2=c:=sE
 simpa only [e] using this
theorem Jx {c:Int} (h:c<2):vR c=0:=by
 unfold vR
 repeat' split
 all_goals omega
theorem ct (G:Imm) (hT:TabOk G) (c:Int) (h:vR c≠0):Does Tryz.prog 188 [.int .u64 c] G [] (fun v G' Ho=>v=.int .i64 (vR c)∧G'=G∧Ho=[]):=by
 refine D0 Tryz.func188 Tryz.ntmps188 fun w=>?_
 rcases Bu h with rfl | rfl | rfl | rfl | rfl | rfl | rfl | rfl | rfl
 · have hcell:=hT.cell 1 (.int .u8 1) rfl
   refine dF ?_
   refine dH rfl ?_
   refine aB 1 [] ?_
   refine eM ?_
   refine cO ?_
   refine dF ?_
   refine dF ?_
   refine dH rfl ?_
   refine aB 2 [] ?_
   refine eM ?_
   refine cO ?_
   refine nO rfl tJ ?_
   refine kC ?_
   refine cO ?_
   refine dF ?_
   refine dH rfl ?_
   refine aB 2 [] ?_
   refine aO (oI rfl) ?_
   refine aO (lD rfl rfl) ?_
   refine aO (lW rfl rfl) ?_
   refine aO (nV rfl rfl sE) ?_
   refine gK 10 rfl (show _=Value.int .u64 1 by kernel_rfl) ?_
   refine aO (jH 1 T.ar296 rfl rfl rfl rfl) ?_
   refine aO (cJ T.one5 rfl sF) ?_
   refine aO (fN rfl T.u3 rfl) ?_
   refine aB 1 [] ?_
   refine eM ?_
   refine cO ?_
   refine mT ?_
   refine cP ?_
   exact ⟨rfl,rfl,rfl⟩
 · have hcell:=hT.cell 3 (.int .u8 2) rfl
   refine dF ?_
   refine dH rfl ?_
   refine aB 1 [] ?_
   refine eM ?_
   refine cO ?_
   refine dF ?_
   refine dF ?_
   refine dH rfl ?_
   refine aB 2 [] ?_
   refine eM ?_
   refine cO ?_
   refine nO rfl tJ ?_
   refine kC ?_
   refine cO ?_
   refine dF ?_
   refine dH rfl ?_
   refine aB 2 [] ?_
   refine aO (oI rfl) ?_
   refine aO (lD rfl rfl) ?_
   refine aO (lW rfl rfl) ?_
   refine aO (nV rfl rfl sE) ?_
   refine gK 10 rfl (show _=Value.int .u64 3 by kernel_rfl) ?_
   refine aO (jH 3 T.ar296 rfl rfl rfl rfl) ?_
   refine aO (cJ T.one5 rfl sF) ?_
   refine aO (fN rfl T.u3 rfl) ?_
   refine aB 1 [] ?_
   refine eM ?_
   refine cO ?_
   refine mT ?_
   refine cP ?_
   exact ⟨rfl,rfl,rfl⟩
 · have hcell:=hT.cell 7 (.int .u8 3) rfl
   refine dF ?_
   refine dH rfl ?_
   refine aB 1 [] ?_
   refine eM ?_
   refine cO ?_
   refine dF ?_
   refine dF ?_
   refine dH rfl ?_
   refine aB 2 [] ?_
   refine eM ?_
   refine cO ?_
   refine nO rfl tJ ?_
   refine kC ?_
   refine cO ?_
   refine dF ?_
   refine dH rfl ?_
   refine aB 2 [] ?_
   refine aO (oI rfl) ?_
   refine aO (lD rfl rfl) ?_
   refine aO (lW rfl rfl) ?_
   refine aO (nV rfl rfl sE) ?_
   refine gK 10 rfl (show _=Value.int .u64 7 by kernel_rfl) ?_
   refine aO (jH 7 T.ar296 rfl rfl rfl rfl) ?_
   refine aO (cJ T.one5 rfl sF) ?_
   refine aO (fN rfl T.u3 rfl) ?_
   refine aB 1 [] ?_
   refine eM ?_
   refine cO ?_
   refine mT ?_
   refine cP ?_
   exact ⟨rfl,rfl,rfl⟩
 · have hcell:=hT.cell 15 (.int .u8 4) rfl
   refine dF ?_
   refine dH rfl ?_
   refine aB 1 [] ?_
   refine eM ?_
   refine cO ?_
   refine dF ?_
   refine dF ?_
   refine dH rfl ?_
   refine aB 2 [] ?_
   refine eM ?_
   refine cO ?_
   refine nO rfl tJ ?_
   refine kC ?_
   refine cO ?_
   refine dF ?_
   refine dH rfl ?_
   refine aB 2 [] ?_
   refine aO (oI rfl) ?_
   refine aO (lD rfl rfl) ?_
   refine aO (lW rfl rfl) ?_
   refine aO (nV rfl rfl sE) ?_
   refine gK 10 rfl (show _=Value.int .u64 15 by kernel_rfl) ?_
   refine aO (jH 15 T.ar296 rfl rfl rfl rfl) ?_
   refine aO (cJ T.one5 rfl sF) ?_
   refine aO (fN rfl T.u3 rfl) ?_
   refine aB 1 [] ?_
   refine eM ?_
   refine cO ?_
   refine mT ?_
   refine cP ?_
   exact ⟨rfl,rfl,rfl⟩
 · have hcell:=hT.cell 31 (.int .u8 5) rfl
   refine dF ?_
   refine dH rfl ?_
   refine aB 1 [] ?_
   refine eM ?_
   refine cO ?_
   refine dF ?_
   refine dF ?_
   refine dH rfl ?_
   refine aB 2 [] ?_
   refine eM ?_
   refine cO ?_
   refine nO rfl tJ ?_
   refine kC ?_
   refine cO ?_
   refine dF ?_
   refine dH rfl ?_
   refine aB 2 [] ?_
   refine aO (oI rfl) ?_
   refine aO (lD rfl rfl) ?_
   refine aO (lW rfl rfl) ?_
   refine aO (nV rfl rfl sE) ?_
   refine gK 10 rfl (show _=Value.int .u64 31 by kernel_rfl) ?_
   refine aO (jH 31 T.ar296 rfl rfl rfl rfl) ?_
   refine aO (cJ T.one5 rfl sF) ?_
   refine aO (fN rfl T.u3 rfl) ?_
   refine aB 1 [] ?_
   refine eM ?_
   refine cO ?_
   refine mT ?_
   refine cP ?_
   exact ⟨rfl,rfl,rfl⟩
 · have hcell:=hT.cell 63 (.int .u8 6) rfl
   refine dF ?_
   refine dH rfl ?_
   refine aB 1 [] ?_
   refine eM ?_
   refine cO ?_
   refine dF ?_
   refine dF ?_
   refine dH rfl ?_
   refine aB 2 [] ?_
   refine eM ?_
   refine cO ?_
   refine nO rfl tJ ?_
   refine kC ?_
   refine cO ?_
   refine dF ?_
   refine dH rfl ?_
   refine aB 2 [] ?_
   refine aO (oI rfl) ?_
   refine aO (lD rfl rfl) ?_
   refine aO (lW rfl rfl) ?_
   refine aO (nV rfl rfl sE) ?_
   refine gK 10 rfl (show _=Value.int .u64 63 by kernel_rfl) ?_
   refine aO (jH 63 T.ar296 rfl rfl rfl rfl) ?_
   refine aO (cJ T.one5 rfl sF) ?_
   refine aO (fN rfl T.u3 rfl) ?_
   refine aB 1 [] ?_
   refine eM ?_
   refine cO ?_
   refine mT ?_
   refine cP ?_
   exact ⟨rfl,rfl,rfl⟩
 · have hcell:=hT.cell 62 (.int .u8 7) rfl
   refine dF ?_
   refine dH rfl ?_
   refine aB 1 [] ?_
   refine eM ?_
   refine cO ?_
   refine dF ?_
   refine dF ?_
   refine dH rfl ?_
   refine aB 2 [] ?_
   refine eM ?_
   refine cO ?_
   refine nO rfl tJ ?_
   refine kC ?_
   refine cO ?_
   refine dF ?_
   refine dH rfl ?_
   refine aB 2 [] ?_
   refine aO (oI rfl) ?_
   refine aO (lD rfl rfl) ?_
   refine aO (lW rfl rfl) ?_
   refine aO (nV rfl rfl sE) ?_
   refine gK 10 rfl (show _=Value.int .u64 62 by kernel_rfl) ?_
   refine aO (jH 62 T.ar296 rfl rfl rfl rfl) ?_
   refine aO (cJ T.one5 rfl sF) ?_
   refine aO (fN rfl T.u3 rfl) ?_
   refine aB 1 [] ?_
   refine eM ?_
   refine cO ?_
   refine mT ?_
   refine cP ?_
   exact ⟨rfl,rfl,rfl⟩
 · have hcell:=hT.cell 61 (.int .u8 8) rfl
   refine dF ?_
   refine dH rfl ?_
   refine aB 1 [] ?_
   refine eM ?_
   refine cO ?_
   refine dF ?_
   refine dF ?_
   refine dH rfl ?_
   refine aB 2 [] ?_
   refine eM ?_
   refine cO ?_
   refine nO rfl tJ ?_
   refine kC ?_
   refine cO ?_
   refine dF ?_
   refine dH rfl ?_
   refine aB 2 [] ?_
   refine aO (oI rfl) ?_
   refine aO (lD rfl rfl) ?_
   refine aO (lW rfl rfl) ?_
   refine aO (nV rfl rfl sE) ?_
   refine gK 10 rfl (show _=Value.int .u64 61 by kernel_rfl) ?_
   refine aO (jH 61 T.ar296 rfl rfl rfl rfl) ?_
   refine aO (cJ T.one5 rfl sF) ?_
   refine aO (fN rfl T.u3 rfl) ?_
   refine aB 1 [] ?_
   refine eM ?_
   refine cO ?_
   refine mT ?_
   refine cP ?_
   exact ⟨rfl,rfl,rfl⟩
 have hcell:=hT.cell 59 (.int .u8 9) rfl
 refine dF ?_
 refine dH rfl ?_
 refine aB 1 [] ?_
 refine eM ?_
 refine cO ?_
 refine dF ?_
 refine dF ?_
 refine dH rfl ?_
 refine aB 2 [] ?_
 refine eM ?_
 refine cO ?_
 refine nO rfl tJ ?_
 refine kC ?_
 refine cO ?_
 refine dF ?_
 refine dH rfl ?_
 refine aB 2 [] ?_
 refine aO (oI rfl) ?_
 refine aO (lD rfl rfl) ?_
 refine aO (lW rfl rfl) ?_
 refine aO (nV rfl rfl sE) ?_
 refine gK 10 rfl (show _=Value.int .u64 59 by kernel_rfl) ?_
 refine aO (jH 59 T.ar296 rfl rfl rfl rfl) ?_
 refine aO (cJ T.one5 rfl sF) ?_
 refine aO (fN rfl T.u3 rfl) ?_
 refine aB 1 [] ?_
 refine eM ?_
 refine cO ?_
 refine mT ?_
 refine cP ?_
 exact ⟨rfl,rfl,rfl⟩
theorem YQ (G:Imm) (hT:TabOk G) (c:Int) (h:vR c≠0):Does Tryz.prog 143 [.int .u64 c] G [] (fun v G' Ho=>v=.int .i64 (vR c)∧G'=G∧Ho=[]):=by
 refine D0 Tryz.func143 Tryz.ntmps143 fun w=>?_
 refine dF ?_
 refine dH rfl ?_
 refine aB 1 [] ?_
 refine eM ?_
 refine cO ?_
 refine dF ?_
 refine Xe rfl ?_
 refine kC ?_
 refine cO ?_
 refine dF ?_
 refine dH rfl ?_
 refine aB 1 [] ?_
 refine mG rfl T.fn188 rfl (ct _ sF _ sF) ?_
 refine aB 1 [] ?_
 refine eM ?_
 refine cO ?_
 refine mT ?_
 refine cP ?_
 exact ⟨rfl,rfl,rfl⟩
end Go.Proofs.YtfdcckcadfhpeaaGreatDoor
