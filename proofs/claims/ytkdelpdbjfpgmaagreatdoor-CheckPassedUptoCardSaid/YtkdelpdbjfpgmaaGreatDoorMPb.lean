/- vD of the proof (part 2): what the rows' text needs of the texts that lead to it. -/
import Derived.Test.YtkdelpdbjfpgmaaGreatDoorMPa
set_option linter.unusedVariables false
set_option linter.unusedSimpArgs false
set_option linter.unusedSectionVars false
set_option maxHeartbeats 4000000
set_option maxRecDepth 100000
namespace Go.Sl
open Go
structure R2 where
 a:Int
 b:Int
 deriving DecidableEq
instance:Inhabited R2:=⟨⟨0,0⟩⟩
instance:A2 R2:=⟨2,fun i=>[.int .i64 i.a,.int .i64 i.b],fun _=>rfl,fun _=>rfl⟩
structure R6 where
 a:Int
 b:Int
 c:Int
 d:Int
 e:Int
 f:Int
 deriving DecidableEq
instance:Inhabited R6:=⟨⟨0,0,0,0,0,0⟩⟩
instance:A2 R6:=⟨6,fun i=>[.int .i64 i.a,.int .i64 i.b,.int .i64 i.c,.int .i64 i.d,.int .i64 i.e,.int .i64 i.f],fun _=>rfl,fun _=>rfl⟩
section scope
variable {P:Program} {b:Frame} {a:Act} {k:List Item} {cs:List Frame} {w:World} {Q:Exit→Act→World→Prop} {F:Fence} {n:Nat}
theorem yJ {c:Code}:step P (lone (b.atR a (.code (.scope c) :: k)) cs w)=.next (lone (b.atR a (.code c :: .inScope c :: k)) cs w):=
 step_lone_go (by simp [stepG,stepG.exec,Frame.atR])
theorem Ry {c:Code}:step P (lone (b.atR a (.inScope c :: k)) cs w)=.next (lone (b.atR a k) cs w):=
 step_lone_go (by simp [stepG,stepG.exec,Frame.atR])
def Oo (Q:Exit→Act→World→Prop):Exit→Act→World→Prop
 | .goto _,_,_=>False
 | e,a,w=>Q e a w
theorem CO {c:Code} (h:c.wpIn F n P (Oo Q) a w):(Code.scope c).wpIn F n P Q a w:=by
 intro b k cs hro hb hr;have h0:(lone (b.atR a (.code (.scope c) :: k)) cs w).fenced P F:=pK hb hr F9;obtain ⟨e,a₁,w₁,hq,harr⟩:=h b (.inScope c :: k) cs hro hb hr;cases e with
 | normal=>exact ⟨.normal,a₁,w₁,hq,.head h0 yJ (StepsIn.trans harr (.one (pK hb hr F9) Ry))⟩
 | exit id =>
   have hx:exitTo id (.inScope c :: k)=exitTo id k:=by simp [exitTo]
   exact ⟨.exit id,a₁,w₁,hq,fun k' hk=>.head h0 yJ (harr.1 k' (by rw [hx];exact hk)),
    fun hr' hk=>let ⟨k₁,h1,h2⟩:=harr.2 hr' (by rw [hx];exact hk);⟨k₁,h1,.head h0 yJ h2⟩⟩
 | goto l=>exact hq.elim
 | ret=>exact ⟨_,a₁,w₁,hq,.of_steps (.one h0 yJ) harr⟩
 | panic ch=>exact ⟨_,a₁,w₁,hq,.of_steps (.one h0 yJ) harr⟩
 | outgrown=>exact ⟨_,a₁,w₁,hq,.of_steps (.one h0 yJ) harr⟩
end scope
section scopeS
variable {r:Option Nat} {P:Program} {B:Bs} {S:St} {Q:Exit→Act→World→Prop}
theorem Wc.scope {c:Code} (h:Wc r P c B S (Oo Q)):Wc r P (.scope c) B S Q:=fun a w hh=>CO (h a w hh)
abbrev lX:=@Wc.scope
theorem HU (h:Ar Q .normal B S):Ar (Oo Q) .normal B S:=h
abbrev oA:=@HU
theorem HV (h:Ar Q .ret B S):Ar (Oo Q) .ret B S:=h
abbrev jJ:=@HV
theorem Sv {id:Nat} (h:Ar Q (.exit id) B S):Ar (Oo Q) (.exit id) B S:=h
end scopeS
theorem Gn {H:Hp}:∀ {L:Hp},(∀ p∈L,H.get p.1=some p.2)→H.sub L
 | [],_=>trivial
 | (i,x) :: L,h=>⟨h (i,x) bF,Gn fun p hp=>h p (bA _ hp)⟩
section
variable {P:Program} {ops:Array Oper} {rest:List Oper} {B:Bs} {e:A9} {D:List Deferred} {H H0:Hp} {G:A3} {K:Act→World→Prop}
 {ty:TypeId} {pos:String} {after:Array Edge} {d:Nat} {f:Nat} {listed:Array Bool}
theorem Kt {Q:Exit→Act→World→Prop} {x:Exit} (t:Nat) (o:Obj) (h:Ar Q x B ⟨e,D,(t,none,o) :: H,G⟩):Ar Q x B ⟨e,D,H,G⟩:=fun a w hh=>h a w (hh.noBlock t o)
theorem Oq {o:Op} {j:Nat} {want:Bool} {t:Nat} (hj:(ops[j]?).bind (·.dst)=some t) (he:e.get t=some undef) (hn:Nat.ble (d+1) B.n=true)
 (h:Wl P ops rest B ⟨(d,undef) :: e,D,H,G⟩ K):Wl P ops (⟨some d,o,ty,pos,after,some (j,want)⟩ :: rest) B ⟨e,D,H,G⟩ K:=by
 intro a w hh;unfold uD;have hy:yielded ops a.tmps j=none:=by simp [yielded,hj,hh.env t _ he,undef]
 rw [aD (by simp [Region.wanted,hy])];exact h _ _ (hh.put hn undef)
end
def Hp.pick (H:Hp):Nat→List Nat→Hp
 | _,[]=>[]
 | i,t :: ts=>match H.get t with | some x=>(i,x) :: Hp.pick H (i+1) ts | none=>Hp.pick H (i+1) ts
theorem Mn (H:Hp):∀ (ts:List Nat) (i j:Nat) (x:Option Nat×Obj),(H.pick i ts).get j=some x→i≤j∧∃ t,ts[j - i]?=some t∧H.get t=some x
 | [],i,j,x,h=>by simp [Hp.pick,Hp.get] at h
 | t :: ts,i,j,x,h=>by
   unfold Hp.pick at h;have rec':(H.pick (i+1) ts).get j=some x→i≤j∧∃ t',(t :: ts)[j - i]?=some t'∧H.get t'=some x:=fun h=>by
    obtain ⟨h1,t',h2,h3⟩:=Mn H ts (i+1) j x h;refine ⟨by omega,t',?_,h3⟩;rw [show j - i=(j - (i+1))+1 by omega];simpa using h2
   split at h
   · rename_i y hy;have h':Hp.get ((i,y) :: H.pick (i+1) ts) j=some x:=h;rw [bC] at h';split at h'
     · rename_i e;subst e;cases h';exact ⟨aI _,t,by simp,hy⟩
     exact rec' h'
   exact rec' h
theorem A6.pick {B:Bs} {e:A9} {D:List Deferred} {H:Hp} {G:A3} {a:Act} {w:World} (hh:A6 B ⟨e,D,H,G⟩ a w) {ts:List Nat} (hn:ts.Nodup):A6 B ⟨e,D,H.pick 0 ts,G⟩ a w:=by
 have key:∀ t x,(H.pick 0 ts).get t=some x→∃ t',ts[t]?=some t'∧H.get t'=some x:=fun t x hx=>by
  obtain ⟨_,t',h1,h2⟩:=Mn H ts 0 t x hx;exact ⟨t',by simpa using h1,h2⟩
 refine ⟨hh.size,hh.defers,hh.env,⟨?_,?_,hh.mem.imm,?_⟩,hh.upd,?_,hh.le,hh.new⟩
 · intro t b o hx;obtain ⟨t',_,h2⟩:=key _ _ hx;exact hh.mem.own _ b o h2
 · intro t u b o o' hx hy;obtain ⟨t',h1,h2⟩:=key _ _ hx;obtain ⟨u',h3,h4⟩:=key _ _ hy;have:=hh.mem.one _ _ b _ _ h2 h4;subst this;obtain ⟨h5,h6⟩:=bI.1 h1;obtain ⟨h7,h8⟩:=bI.1 h3;rcases Nat.lt_trichotomy t u with h | h | h
   · exact absurd (h6.trans h8.symm) (List.pairwise_iff_getElem.1 hn t u h5 h7 h)
   · exact h
   exact absurd (h8.trans h6.symm) (List.pairwise_iff_getElem.1 hn u t h7 h5 h)
 · intro t b o hx;obtain ⟨t',_,h2⟩:=key _ _ hx;exact hh.mem.off _ b o h2
 intro t b o hx;obtain ⟨t',_,h2⟩:=key _ _ hx;exact hh.mine _ b o h2
section
variable {P:Program} {ops:Array Oper} {rest:List Oper} {B:Bs} {e:A9} {D:List Deferred} {H H0:Hp} {G:A3} {K:Act→World→Prop}
 {ty:TypeId} {pos:String} {after:Array Edge} {d:Nat} {f:Nat} {listed:Array Bool}
theorem Ar.pick {Q:Exit→Act→World→Prop} {x:Exit} (ts:List Nat) (hn:ts.Nodup) (h:Ar Q x B ⟨e,D,H.pick 0 ts,G⟩):Ar Q x B ⟨e,D,H,G⟩:=fun a w hh=>h a w (hh.pick hn)
abbrev mR:=@Ar.pick
theorem Hp.sub_self:∀ (i:Nat) (ts:List Nat),(H.pick i ts).sub (H.pick i ts):=fun i ts=>by
 refine Gn fun p hp=>?_;have key:∀ (ts:List Nat) (i:Nat) (p:Nat×Option Nat×Obj),p∈H.pick i ts→i≤p.1∧(H.pick i ts).get p.1=some p.2:=by
  intro ts;induction ts with
  | nil=>intro i p hp;simp [Hp.pick] at hp
  | cons t ts ih =>
    intro i p hp;unfold Hp.pick at hp ⊢;split
    · rename_i x hx;rw [hx] at hp;rcases iU.1 hp with rfl | hp
      · exact ⟨aI _,by show Hp.get ((i,x) :: _) i=_;rw [bC,aE rfl]⟩
      obtain ⟨h1,h2⟩:=ih (i+1) p hp;exact ⟨by omega,by show Hp.get ((i,x) :: _) p.1=_;rw [bC,aD (by omega)];exact h2⟩
    rename_i hx;rw [hx] at hp;obtain ⟨h1,h2⟩:=ih (i+1) p hp;exact ⟨by omega,h2⟩
 exact (key ts i p hp).2
abbrev mI:=@Hp.sub_self
def SG {ι:Type} (B:Bs) (I:ι→St) (φ:ι→Prop):Act→World→Prop:=fun a w=>∃ j,φ j∧A6 B (I j) a w
theorem SH {ι:Type} {r:Option Nat} {x y:Code} {Q:Exit→Act→World→Prop} (I:ι→A9×Hp) (φ:ι→Prop)
 (h1:Wc r P x B ⟨e,D,H,G⟩ (Exit.then (SG B (fun i=>⟨(I i).1,D,(I i).2,G⟩) φ) Q)) (h2:∀ i,φ i→Wc r P y B ⟨(I i).1,D,(I i).2,G⟩ Q):Wc r P (.seq x y) B ⟨e,D,H,G⟩ Q:=by
 refine dN fun a w hh b k cs hro hb hr=>?_;obtain ⟨ex,a',w',hq,ha⟩:=h1 a w hh b k cs hro hb hr;refine ⟨ex,a',w',?_,ha⟩;cases ex with
 | normal=>obtain ⟨j,hj,hI⟩:=hq;exact h2 j hj a' w' hI
 | exit id=>exact hq
 | goto l=>exact hq
 | ret=>exact hq
 | panic ch=>exact hq
 | outgrown=>exact hq
abbrev pL:=@SH
theorem SI {ι:Type} {I:ι→St} {φ:ι→Prop} {Q:Exit→Act→World→Prop} (j:ι) (hφ:φ j)
 (hI:I j=⟨(I j).e,D,(I j).H,G⟩) (he:e.sub (I j).e) (hH:H.sub (I j).H):Ar (Exit.then (SG B I φ) Q) .normal B ⟨e,D,H,G⟩:=
 fun a w hh=>⟨j,hφ,by rw [hI];exact hh.sub he hH⟩
abbrev pR:=@SI
def CP (H:Hp) (Gx:A3):Prop:=∀ t b o,H.get t=some (some b,o)→Gx b=some o
theorem B3.lend {H:Hp} {G:A3} {w:World} (h:B3 H G w):∃ Gx:A3,G.le Gx∧CP H Gx∧B3 [] Gx w∧(∀ b,Gx b≠none→G b=none→∃ t o,H.get t=some (some b,o)):=by
 classical
 refine ⟨fun b=>if hx:∃ o,∃ t,H.get t=some (some b,o) then some (Classical.choose hx) else G b,?_,?_,⟨?_,?_,?_,?_⟩,?_⟩
 · intro b o hb;have hn:¬∃ o,∃ t,H.get t=some (some b,o):=fun ⟨o',t,ht⟩=>by rw [h.off t b o' ht] at hb;cases hb
   simp only [hn,dif_neg,not_false_eq_true];exact hb
 · intro t b o ht;have hx:∃ o,∃ t,H.get t=some (some b,o):=⟨o,t,ht⟩
   simp only [hx,dif_pos];obtain ⟨t',ht'⟩:=iN hx;have:=h.one _ _ b _ _ ht ht';subst this;rw [ht] at ht';simp only [bY,fC,true_and] at ht';rw [←ht']
 · intro t b o hx;simp [Hp.get] at hx
 · intro t t' b o o' hx;simp [Hp.get] at hx
 · intro b o hb;try simp only at hb
   split at hb
   · rename_i hx;obtain ⟨t',ht'⟩:=iN hx;cases hb;exact h.own t' b _ ht'
   exact h.imm b o hb
 · intro t b o hx;simp [Hp.get] at hx
 intro b hb hg;try simp only at hb
 split at hb
 · rename_i hx;exact ⟨_,_,(iN hx).choose_spec⟩
 exact absurd hg hb
theorem Arr.own {α:Type} [A2 α] {Gx:A3} {a:Option Addr} {c:Nat} {E:TypeId} {xs:List α} {junk:List Value} (hb:CP H Gx) (t:Nat) (ht:H.get t=some (a.map (·.block),Row E xs junk)) (ho:A4 a c xs junk):Arr Gx a xs:=by
 rcases ho with ⟨rfl,rfl,rfl,_⟩ | ⟨b,rfl,_⟩
 · exact kG Gx
 exact Vd (E:=E) (junk:=junk) (hb t b _ ht)
abbrev rQ:=@Arr.own
theorem Ot {fn:FuncId} {xs:Array Operand} {ats:Array TypeId} {vs:List Value} {post:A3→Value→A3→Hp→Prop} (k:Nat)
 (hn:Nat.ble (d+1) B.n=true) (hf:tZ P fn) (hx:e.evs xs.toList=some vs)
 (hF:∀ Gx,G.le Gx→CP H Gx→Does P fn vs Gx [] (post Gx))
 (h:∀ v Gx G' Ho,G.le Gx→post Gx v G' Ho→Wl P ops rest B ⟨(d,v) :: e,D,Ho.shift k++H,G⟩ K) :
 Wl P ops (⟨some d,.call { callee:=.value (.func fn),args:=xs,argTypes:=ats },ty,pos,after,none⟩ :: rest) B ⟨e,D,H,G⟩ K:=by
 intro a w hh;obtain ⟨f,h1,h2,h3⟩:=hf;unfold uD;rw [aE (by simp [Region.wanted])];unfold Dw;have hrun:(execOp a.eval ⟨some d,.call { callee:=.value (.func fn),args:=xs,argTypes:=ats },ty,pos,after,none⟩).run P w=.ok (.enter fn vs.toArray) w:=by
  simp [execOp,resolve,Deferred.ofValue,invoke,Act.eval,hh.args hx,Ak w _ h1 h2 h3]
 rw [hrun];obtain ⟨Gx,g1,g2,g3,_⟩:=hh.mem.lend;refine (hF Gx g1 g2 w g3).mono fun x w' ⟨v,G',Ho,q1,q2,q3,q4,q5,q6,q7⟩=>⟨v,q1,?_⟩
 refine h v Gx G' Ho g1 q7 _ _ (A6.put ?_ hn v);have hno:∀ b,¬Hp.has [] b:=fun b ⟨t,o,hx⟩=>by simp [Hp.get] at hx
 have hup:E2 (fun _=>False) w w':=q4.mono (fun k _ hk=>hno k hk);have hg:=hh.grow hup;have hfr:∀ t b o,Ho.get t=some (some b,o)→w.heap.size≤b:=fun t b o hx=>(q6 t b o hx).resolve_right (hno b);have hsplit:∀ i b o,(Ho.shift k++H).get i=some (some b,o)→(k≤i∧Ho.get (i - k)=some (some b,o))∨H.get i=some (some b,o):=by
  intro i b o hx;rw [eR,eW] at hx;by_cases hi:k≤i
  · rw [aE hi] at hx;cases hgg:Ho.get (i - k) with
    | some x=>rw [hgg] at hx;exact .inl ⟨hi,by simpa using hx⟩
    | none=>rw [hgg] at hx;simp only [iE] at hx;exact .inr hx
  rw [aD hi] at hx;simp only [iE] at hx;exact .inr hx
 refine ⟨hg.size,hg.defers,hg.env,⟨?_,?_,hg.mem.imm,?_⟩,hg.upd,?_,hg.le,hg.new⟩
 · intro i b o hx;rcases hsplit i b o hx with ⟨_,h'⟩ | h'
   · exact q2.own _ b o h'
   exact hg.mem.own i b o h'
 · intro i j b o o' hx hy;rcases hsplit i b o hx with ⟨hi,h'⟩ | h' <;> rcases hsplit j b o' hy with ⟨hj,h''⟩ | h''
   · have:=q2.one _ _ b _ _ h' h'';omega
   · have:=hfr _ b o h';have h4:b<w.heap.size:=hh.mem.lt h'';omega
   · have:=hfr _ b o' h'';have h4:b<w.heap.size:=hh.mem.lt h';omega
   exact hg.mem.one _ _ b _ _ h' h''
 · intro i b o hx;rcases hsplit i b o hx with ⟨_,h'⟩ | h'
   · have hb:=hfr _ b o h';cases hgb:G b with
     | none=>exact hgb
     | some y=>have:b<w.heap.size:=hh.mem.ltG hgb;omega
   exact hg.mem.off i b o h'
 intro i b o hx;rcases hsplit i b o hx with ⟨_,h'⟩ | h'
 · exact .inl (bO hh.upd.size (hfr _ b o h'))
 exact hh.mine i b o h'
theorem LR {fn:FuncId} {xs:Array Operand} {ats:Array TypeId} {vs:List Value} {Hi:Hp} {q:Value→Prop} (k:Nat)
 (hn:Nat.ble (d+1) B.n=true) (hf:tZ P fn) (hx:e.evs xs.toList=some vs)
 (hF:Does P fn vs G Hi (fun v G' Ho=>q v∧G'=G∧Ho=Hi)) (hHi:∀ t x,Hi.get t=some x→H.get (k+t)=some x)
 (h:∀ v,q v→Wl P ops rest B ⟨(d,v) :: e,D,H,G⟩ K) :
 Wl P ops (⟨some d,.call { callee:=.value (.func fn),args:=xs,argTypes:=ats },ty,pos,after,none⟩ :: rest) B ⟨e,D,H,G⟩ K:=by
 refine eO k hn hf hx hF hHi fun v G' Ho _ ⟨h1,h2,h3⟩=>?_;subst h2 h3;intro a w hh;refine h v h1 a w (hh.weaken (fun _ _ h=>h) (fun t x hx=>?_));rw [eR,eW];by_cases hk:k≤t
 · rw [aE hk];cases hg:Hp.get Ho (t - k) with
   | some y =>
     have:=hHi _ _ hg;rw [show k+(t - k)=t by omega,hx] at this;simpa using this.symm
   | none =>
     simp only [iE];rw [eR];cases hkl:(Hp.kill k Ho).get t with
     | none=>simpa using hx
     | some y =>
       exfalso;have key:∀ (L:Hp),L.get (t - k)=none→(Hp.kill k L).get t=none:=by
        intro L;induction L with
        | nil=>intro _;rfl
        | cons z L ih =>
          obtain ⟨j,z⟩:=z;intro hz;rw [bC] at hz;show Hp.get ((k+j,none,default) :: Hp.kill k L) t=none;rw [bC];split at hz
          · cases hz
          rename_i hne;rw [aD (by omega)];exact ih hz
       rw [key Ho hg] at hkl;cases hkl
 rw [aD hk];simp only [iE];rw [eR];cases hkl:(Hp.kill k Ho).get t with
 | none=>simpa using hx
 | some y =>
   exfalso;have key:∀ (L:Hp),(Hp.kill k L).get t=none:=by
    intro L;induction L with
    | nil=>rfl
    | cons z L ih =>
      obtain ⟨j,z⟩:=z;show Hp.get ((k+j,none,default) :: Hp.kill k L) t=none;rw [bC,aD (by omega)];exact ih
   rw [key Ho] at hkl;cases hkl
theorem LS {fn:FuncId} {xs:Array Operand} {ats:Array TypeId} {vs:List Value} {Hi:Hp} {r:Value} (k:Nat)
 (hn:Nat.ble (d+1) B.n=true) (hf:tZ P fn) (hx:e.evs xs.toList=some vs)
 (hF:Does P fn vs G Hi (fun v G' Ho=>v=r∧G'=G∧Ho=Hi)) (hHi:∀ t x,Hi.get t=some x→H.get (k+t)=some x)
 (h:Wl P ops rest B ⟨(d,r) :: e,D,H,G⟩ K) :
 Wl P ops (⟨some d,.call { callee:=.value (.func fn),args:=xs,argTypes:=ats },ty,pos,after,none⟩ :: rest) B ⟨e,D,H,G⟩ K:=
 LR k hn hf hx hF hHi (fun v hv=>hv▸h)
abbrev eJ:=@LS
def EU (H:Hp) (k:Nat):Hp→Prop
 | []=>True
 | (t,x) :: L=>H.get (k+t)=some x∧EU H k L
theorem tC {k:Nat}:∀ {Hi:Hp},EU H k Hi→∀ t x,Hi.get t=some x→H.get (k+t)=some x
 | [],_,t,x,h=>by simp [Hp.get] at h
 | (j,y) :: L,⟨h1,h2⟩,t,x,h=>by
   rw [bC] at h;split at h
   · rename_i hj;subst hj;cases h;exact h1
   exact tC h2 t x h
section own
variable {α:Type} [A2 α] {a:Option Addr} {c:Nat} {xs:List α} {junk:List Value}
theorem A4.addr (h:A4 a c xs junk) (hn:0<xs.length):a=some ⟨ab a,0,none⟩:=by
 rcases h with ⟨_,h,_⟩ | ⟨b,rfl,_⟩
 · subst h;simp at hn
 rfl
theorem A4.blk (h:A4 a c xs junk) (hn:0<xs.length):a.map (·.block)=some (ab a):=by rw [h.addr hn];rfl
theorem A4.le (h:A4 a c xs junk):xs.length≤c:=by
 rcases h with ⟨_,rfl,_,rfl⟩ | ⟨b,_,_,h,_⟩
 · simp
 exact h
theorem Sa {T:TypeId} {x i:Operand} {k:IntKind} {m:Int} {E:Nat} (hT:tN P T E (A2.sz α)) (hx:e.ev x=some (.slice a xs.length c)) (hi:e.ev i=some (.int k m)) (ho:A4 a c xs junk) (hb:0≤m∧m<xs.length) :
 Qy P (.indexAddr T x i) ty e H G (.pointer (some ⟨ab a,0+m.toNat*A2.sz α,none⟩)):=by
 have ha:=ho.addr sW;rw [ha] at hx;exact dC hT hx hi hb
abbrev dS:=@Sa
theorem LU [Inhabited α] {T:TypeId} {x:Operand} {E:TypeId} {m:Int} {v:Value} (t k:Nat) (h1:wR P T=true) (hx:e.ev x=some (.pointer (some ⟨ab a,0+m.toNat*A2.sz α+k,none⟩)))
 (ht:H.get t=some (a.map (·.block),Row E xs junk)) (ho:A4 a c xs junk) (hm:0≤m∧m<xs.length) (hk:Nat.ble (k+1) (A2.sz α)=true) (hv:(A2.enc (xs[m.toNat]?.getD default))[k]?=some v):Qy P (.load T x) ty e H G v:=by
 rw [ho.blk sW] at ht;exact oF t k h1 hx ht hm hk hv
abbrev fG:=@LU
theorem Ku [Inhabited α] {T:TypeId} {x:Operand} {E:TypeId} {m:Int} (t:Nat) (h1:zC P T (A2.sz α)=true) (hx:e.ev x=some (.pointer (some ⟨ab a,0+m.toNat*A2.sz α,none⟩)))
 (ht:H.get t=some (a.map (·.block),Row E xs junk)) (ho:A4 a c xs junk) (hm:0≤m∧m<xs.length):Qy P (.load T x) ty e H G (.agg (A2.enc (xs[m.toNat]?.getD default)).toArray):=by
 rw [ho.blk sW] at ht;exact rP t h1 hx ht hm
theorem SJ {T:TypeId} {x y:Operand} {E:TypeId} {m:Int} {v:Value} {z:α} (t:Nat) (hs:(P.info? T).map (·.size)=some (A2.sz α))
 (hx:e.ev x=some (.pointer (some ⟨ab a,0+m.toNat*A2.sz α,none⟩))) (hy:e.ev y=some v) (ht:H.get t=some (a.map (·.block),Row E xs junk)) (ho:A4 a c xs junk) (hm:0≤m∧m<xs.length) (hv:v.cells=(A2.enc z).toArray)
 (h:A4 a c (xs.set m.toNat z) junk→Wl P ops rest B ⟨e,D,(t,a.map (·.block),Row E (xs.set m.toNat z) junk) :: H,G⟩ K):Wl P ops (⟨none,.store T x y,ty,pos,after,none⟩ :: rest) B ⟨e,D,H,G⟩ K:=by
 have h':=h (by
  rcases ho with ⟨_,h,_⟩ | ⟨b,h1,h2,h3,h4⟩
  · subst h;simp at hm;omega
  exact .inr ⟨b,h1,by simpa using h2,by simpa using h3,h4⟩)
 have hb:=ho.blk sW;rw [hb] at ht h';exact ES t hs hx hy hv ht hm h'
abbrev dJ:=@SJ
theorem subA_zero {n sz c:Nat} {cs:List Value} (h:F5 G a n sz cs):C6 a c 0 sz=a:=by
 unfold C6;split
 · rfl
 cases a <;> simp [Addr.add]
end own
end
section
variable {P:Program} {ops:Array Oper} {rest:List Oper} {B:Bs} {e:A9} {D:List Deferred} {H:Hp} {G:A3} {K:Act→World→Prop} {ty:TypeId} {pos:String} {after:Array Edge}
end
def C2 (q:Loop) (s:LoopState) (p:Option Code):Obj:=.loop { q with state:=s,pending:=p }
def C3 (P:Program) (l:Nat) (vs:List Value) (G:A3) (Hi:Hp) (post:Value→A3→Hp→Prop):Prop:=
 ∀ w,B3 Hi G w→∃ f tmps assign body,(Instr.yield l vs.toArray).run P w=.ok (.round l f tmps assign body) w∧RoundIn Fence.wide 0 P l f tmps assign body w (B8 G Hi w post)
def Ir {β:Type} (P:Program) (f:FuncId) (caps:List Value) (G:A3) (enc:β→List Value) (xs:List β):Prop:=
 ∀ (ι:Type) (J:ι→Hp) (inv:Nat→ι→Prop) (stop:ι→Prop) (l:Nat) (i0:ι),inv 0 i0→
  (∀ k x i,xs[k]?=some x→inv k i→C3 P l (enc x) G (J i) (fun v G' Ho=>G'=G∧∃ j,Ho=J j∧((v=.bool true∧inv (k+1) j)∨(v=.bool false∧stop j))))→
  Does P f (.func (.yield l) #[] #[] :: caps) G (J i0) (fun v G' Ho=>G'=G∧∃ j,Ho=J j∧(inv xs.length j∨stop j))
def xZ (K:Nat):Hp→Bool
 | []=>true
 | (t,_) :: h=>Nat.ble (t+1) K && xZ K h
theorem Is {K:Nat}:∀ {A:Hp},xZ K A=true→∀ t,K≤t→A.get t=none
 | [],_,t,_=>rfl
 | (i,x) :: A,h,t,ht=>by
   simp only [xZ,aW] at h;have h1:=cU h.1;rw [bC,aD (by omega)];exact Is h.2 t ht
abbrev nO:=@Is
section
variable {P:Program} {ops:Array Oper} {rest:List Oper} {B:Bs} {e:A9} {D:List Deferred} {H:Hp} {G:A3} {K:Act→World→Prop}
 {ty:TypeId} {pos:String} {after:Array Edge} {d:Nat}
theorem Ei (k:Nat):∀ (L:Hp) (t:Nat),t<k→(Hp.kill k L).get t=none
 | [],_,_=>rfl
 | (j,z) :: L,t,h=>by
   show Hp.get ((k+j,none,default) :: Hp.kill k L) t=none;rw [bC,aD (by omega)];exact Ei k L t h
theorem A6.tail {a:Act} {w:World} (k:Nat) {A Hi Ho:Hp} {G':A3} (hA:xZ k A=true) (hh:A6 B ⟨e,D,Ho.shift k++(Hi.kill k++(A++Hi.shift k)),G'⟩ a w):A6 B ⟨e,D,A++Ho.shift k,G'⟩ a w:=by
 refine hh.weaken (fun _ _ h=>h) fun t x hx=>?_;rw [eR] at hx;rw [eR,eR,eR];rcases aK t k with ht | ht
 · have h1:(Ho.shift k).get t=none:=by rw [eW,aD (by omega)]
   have h2:(Hi.shift k).get t=none:=by rw [eW,aD (by omega)]
   have h3:(Hi.kill k).get t=none:=Ei k Hi t ht;rw [h1,h2,h3];rw [h1] at hx;simpa using hx
 rw [nO hA t ht] at hx;simp only [iE] at hx;rw [hx];rfl
theorem Wl.yield {g:Operand} {l:Nat} {xs:Array Operand} {ats:Array TypeId} {vs:List Value} {A Hi:Hp} {post:Value→A3→Hp→Prop} (k:Nat)
 (hn:Nat.ble (d+1) B.n=true) (hg:e.ev g=some (.func (.yield l) #[] #[])) (hx:e.evs xs.toList=some vs) (hH:H=A++Hi.shift k) (hA:xZ k A=true)
 (hF:C3 P l vs G Hi post) (h:∀ v G' Ho,G.le G'→post v G' Ho→Wl P ops rest B ⟨(d,v) :: e,D,A++Ho.shift k,G'⟩ K) :
 Wl P ops (⟨some d,.call { callee:=.value g,args:=xs,argTypes:=ats },ty,pos,after,none⟩ :: rest) B ⟨e,D,H,G⟩ K:=by
 intro a w hh;subst hH;unfold uD;rw [aE (by simp [Region.wanted])];unfold Dw;have hHi:∀ t x,Hi.get t=some x→Hp.get (A++Hi.shift k) (k+t)=some x:=fun t x hx=>by
  rw [eR,nO hA (k+t) sW,iE,eW,aE (by omega),iS];exact hx
 have hw:B3 Hi G w:=⟨fun t b o x=>hh.mem.own _ b o (hHi _ _ x),fun t t' b o o' x y=>by have:=hh.mem.one _ _ b _ _ (hHi _ _ x) (hHi _ _ y);omega,hh.mem.imm,fun t b o x=>hh.mem.off _ b o (hHi _ _ x)⟩
 obtain ⟨f,tmps,assign,body,hy,hR⟩:=hF w hw;have hrun:(execOp a.eval ⟨some d,.call { callee:=.value g,args:=xs,argTypes:=ats },ty,pos,after,none⟩).run P w=.ok (.round l f tmps assign body) w:=by
  simp [execOp,resolve,Deferred.ofValue,invoke,hh.eval hg,hh.args hx,hy]
 rw [hrun];refine hR.mono fun x w' ⟨v,G',Ho,h1,h2,h3,h4,h5,h6,h7⟩=>⟨v,h1,?_⟩
 exact h v G' Ho h3 h7 _ _ (((hh.called k hHi h2 h3 h4 h5 h6).tail k hA).put hn v)
def Hp.tl (H:Hp) (k:Nat) (T:Hp):Prop:=∀ t x,(T.shift k).get t=some x→H.get t=some x
theorem CQ (k:Nat) (T:Hp):Hp.tl (T.shift k) k T:=fun _ _ h=>h
theorem Ou {k t:Nat} {x:Option Nat×Obj} {H T:Hp} (ht:Nat.ble (t+1) k=true) (h:Hp.tl H k T):Hp.tl ((t,x) :: H) k T:=fun i y hi=>by
 have hk:k≤i:=by
  rcases aK i k with h1 | h1
  · rw [eW,aD (by omega)] at hi;cases hi
  exact h1
 have:=cU ht;rw [bC,aD (by omega)];exact h i y hi
abbrev lD:=@Ou
theorem A6.cutT {a:Act} {w:World} {e':A9} {A T:Hp} {k:Nat} (hh:A6 B ⟨e,D,H,G⟩ a w) (he:e.sub e') (hH:H.sub A) (ht:H.tl k T):A6 B ⟨e',D,A++T.shift k,G⟩ a w:=by
 refine hh.weaken (Dy he) fun t x hx=>?_;rw [eR] at hx;cases hA:A.get t with
 | some y =>
   rw [hA] at hx;have hx':y=x:=by simpa using hx
   subst hx';exact kL hH t y hA
 | none=>rw [hA] at hx;exact ht t x (by simpa using hx)
theorem Kv {g:Operand} {l:Nat} {xs:Array Operand} {ats:Array TypeId} {vs:List Value} {A Hi:Hp} {post:Value→A3→Hp→Prop} (k:Nat)
 (hn:Nat.ble (d+1) B.n=true) (hg:e.ev g=some (.func (.yield l) #[] #[])) (hx:e.evs xs.toList=some vs) (hH:H.sub A) (ht:H.tl k Hi) (hA:xZ k A=true)
 (hF:C3 P l vs G Hi post) (h:∀ v G' Ho,G.le G'→post v G' Ho→Wl P ops rest B ⟨(d,v) :: e,D,A++Ho.shift k,G'⟩ K) :
 Wl P ops (⟨some d,.call { callee:=.value g,args:=xs,argTypes:=ats },ty,pos,after,none⟩ :: rest) B ⟨e,D,H,G⟩ K:=by
 intro a w hh;refine Wl.yield (H:=A++Hi.shift k) k hn hg hx F9 hA hF h a w (hh.weaken (fun _ _ h=>h) (fun t x hx=>?_));rw [eR] at hx;cases hA:A.get t with
 | some y =>
   rw [hA] at hx;have hx':y=x:=by simpa using hx
   subst hx';exact kL hH t y hA
 | none=>rw [hA] at hx;exact ht t x (by simpa using hx)
theorem Yh {ι:Type} {r:Option Nat} {c:Code} {Q:Exit→Act→World→Prop} (k:Nat) (I:ι→A9×Hp) (T:ι→Hp) (φ:ι→Prop) (μ:ι→Nat) (i0:ι) (h0:φ i0)
 (he:e.sub (I i0).1) (hH:H.sub (I i0).2) (ht:H.tl k (T i0))
 (hb:∀ i,φ i→Wc r P c B ⟨(I i).1,D,(I i).2++(T i).shift k,G⟩ (Exit.then (Dz B (fun i=>⟨(I i).1,D,(I i).2++(T i).shift k,G⟩) φ μ (μ i)) Q)):Wc r P (.loop c) B ⟨e,D,H,G⟩ Q:=
 In (fun i=>⟨(I i).1,D,(I i).2++(T i).shift k,G⟩) φ μ i0 h0 (fun _ _ h=>h.cutT he hH ht) hb
theorem HW {ι:Type} {I:ι→A9×Hp} {T:ι→Hp} {k:Nat} {φ:ι→Prop} {μ:ι→Nat} {m:Nat} {Q:Exit→Act→World→Prop} (j:ι) (hφ:φ j) (hμ:μ j<m)
 (he:e.sub (I j).1) (hH:H.sub (I j).2) (ht:H.tl k (T j)):Ar (Exit.then (Dz B (fun i=>⟨(I i).1,D,(I i).2++(T i).shift k,G⟩) φ μ m) Q) .normal B ⟨e,D,H,G⟩:=
 fun a w hh=>⟨j,hφ,hμ,hh.cutT he hH ht⟩
theorem SK {r:Option Nat} {c:Code} {Q:Exit→Act→World→Prop} (k:Nat) (h:Wc r P c B ⟨e,D,H.shift k,G⟩ Q):Wc r P c B ⟨e,D,H,G⟩ Q:=by
 intro a w hh;have hg:∀ t x,(H.shift k).get t=some x→k≤t∧H.get (t - k)=some x:=fun t x hx=>by
  rw [eW] at hx;split at hx
  · rename_i h1;exact ⟨h1,hx⟩
  cases hx
 refine h a w ⟨hh.size,hh.defers,hh.env,⟨?_,?_,hh.mem.imm,?_⟩,hh.upd,?_,hh.le,hh.new⟩
 · intro t b o hx;exact hh.mem.own _ b o (hg _ _ hx).2
 · intro t t' b o o' hx hy;have h1:=hg _ _ hx;have h2:=hg _ _ hy;have:=hh.mem.one _ _ b _ _ h1.2 h2.2;omega
 · intro t b o hx;exact hh.mem.off _ b o (hg _ _ hx).2
 intro t b o hx;exact hh.mine _ b o (hg _ _ hx).2
abbrev rZ:=@SK
theorem XF {H L:Hp} (h:H.sub L):∀ t x,L.get t=some x→H.get t=some x:=kL h
abbrev oO:=@XF
theorem CR {H A T:Hp} {k:Nat} (h:H.sub A) (ht:H.tl k T):∀ t x,Hp.get (A++T.shift k) t=some x→H.get t=some x:=fun t x hx=>by
 rw [eR] at hx;cases hA:A.get t with
 | some y =>
   rw [hA] at hx;have hx':y=x:=by simpa using hx
   subst hx';exact kL h t y hA
 | none=>rw [hA] at hx;exact ht t x (by simpa using hx)
abbrev fH:=@CR
theorem Yi {H L:Hp} {i:Nat} {y:Option Nat×Obj} (h:H.get i=some y) (hL:∀ t x,L.get t=some x→H.get t=some x):∀ t x,Hp.get ((i,y) :: L) t=some x→H.get t=some x:=fun t x hx=>by
 rw [bC] at hx;split at hx
 · rename_i he;subst he;cases hx;exact h
 exact hL t x hx
abbrev dF:=@Yi
theorem Yj {A T:Hp} {k t:Nat} (h:A.get t=none) (hk:Nat.ble (t+1) k=true):Hp.get (A++T.shift k) t=none:=by
 have:=cU hk;rw [eR,h,iE,eW,aD (by omega)]
abbrev mJ:=@Yj
theorem SL {fn:Func} {G0:A3} {Hi Ho:Hp} {w0:World} {post:Value→A3→Hp→Prop} {n k:Nat} {x:Exit} (hx:x=.normal∨x=.ret) (hres:fn.results=#[]) (ht:H.tl k Ho) (hp:post (.tuple #[]) G Ho) :
 Ar (CK P fn G0 Hi w0 post) x ⟨n,w0,Hi.has,G0⟩ ⟨e,[],H,G⟩:=by
 intro a w hh;have key:a.defers=[]∧∃ v,(results fn a.tmps).run P w=.ok v w∧B8 G0 Hi w0 post (.returned v) w:=by
  have hg:∀ t x,Ho.get t=some x→H.get (k+t)=some x:=fun t x hx=>ht _ _ (by rw [eW,aE (by omega),iS];exact hx);refine ⟨hh.defers,.tuple #[],by simp [zE,hres],.tuple #[],G,Ho,F9,⟨?_,?_,hh.mem.imm,?_⟩,hh.le,hh.upd,hh.new,?_,hp⟩
  · intro t b o h;exact hh.mem.own _ b o (hg _ _ h)
  · intro t t' b o o' h h';have:=hh.mem.one _ _ b _ _ (hg _ _ h) (hg _ _ h');omega
  · intro t b o h;exact hh.mem.off _ b o (hg _ _ h)
  intro t b o h;exact hh.mine _ b o (hg _ _ h)
 rcases hx with rfl | rfl <;> exact key
abbrev mS:=@SL
def SM (P:Program) (fn:Func) (G:A3) (Hi:Hp) (w:World) (post:Value→A3→Hp→Prop):Exit→Act→World→Prop:=bodyPostM (FF none) 0 P fn (B8 G Hi w post)
theorem Yk {f:FuncId} {fn:Func} {c:Code} {n:Nat} {args:List Value} {Hi:Hp} {post:Value→A3→Hp→Prop} (hf:P.funcs[f]?=some fn) (hb:fn.body=some c) (hn:fn.ntmps=n)
 (hl:Nat.ble args.length n=true) (h:∀ w,Wc none P c ⟨n,w,Hi.has,G⟩ ⟨yD 0 args,[],Hi,G⟩ (SM P fn G Hi w post)):Does P f args G Hi post:=by
 intro w hw;have hl':=cU hl;refine Ay.1 (callsIn_of_wp_marks (F:=FF none) (n:=0) hf hb H2 (h w _ w ?_));refine ⟨?_,F9,?_,hw,mX _ _,fun t b o hx=>.inr ⟨t,o,hx⟩,bN _,fun b h1 h2=>(h1 h2).elim⟩
 · simp [hn];omega
 intro i v hi;obtain ⟨_,h2⟩:=rK args 0 i v hi;have h2':args[i]?=some v:=by simpa using h2
 have hlt:i<args.length:=(bI.1 h2').1;show (args.toArray++Array.replicate (fn.ntmps - args.toArray.size) undef)[i]?=some v;rw [pI (by simpa using hlt)];simpa using h2'
abbrev jS:=@Yk
def mark (b:Nat):Deferred:={ target:=.collected b,args:=#[] }
theorem Bd (w:World) (b:Nat) (o:Obj):E2 (·=b) w (w.putObj b o):=⟨F9,F9,F9,by simp,fun k _ hk=>World.putObj_heap_other hk⟩
section out
variable {fn:Func} {G0:A3} {Hi:Hp} {w0:World} {post:Value→A3→Hp→Prop} {x:Exit}
theorem CS (hx:x=.normal∨x=.ret) (t:Nat) {b:Nat} (ht:H.get t=some (some b,.deferred (some []))) (h:Ar (SM P fn G0 Hi w0 post) .ret B ⟨e,D,(t,some b,.deferred none) :: H,G⟩) :
 Ar (SM P fn G0 Hi w0 post) x B ⟨e,mark b :: D,H,G⟩:=by
 intro a w hh;have hb:w.heap[b]?=some (.deferred (some [])):=hh.mem.own t b _ ht;have hlt:=(fF.1 hb).1;have hh1:A6 B ⟨e,D,H,G⟩ { a with defers:=D } w:=⟨hh.size,F9,hh.env,hh.mem,hh.upd,hh.mine,hh.le,hh.new⟩
 have h1:=h _ _ (hh1.set ht (Bd w b (.deferred none)) (kW hlt));have key:LeavesInM (FF none) 0 P fn a.tmps (B8 G0 Hi w0 post) a.defers .returning w:=by
  rw [hh.defers];exact ⟨by simp,.inl ⟨b,_,rfl,run_takeDeferred hb,h1⟩⟩
 rcases hx with rfl | rfl <;> exact key
abbrev gQ:=@CS
theorem LV (hx:x=.normal∨x=.ret) (h:Ar (CK P fn G0 Hi w0 post) .ret B ⟨e,[],H,G⟩):Ar (SM P fn G0 Hi w0 post) x B ⟨e,[],H,G⟩:=by
 intro a w hh;obtain ⟨hd,v,hr,hR⟩:=h a w hh;have key:LeavesInM (FF none) 0 P fn a.tmps (B8 G0 Hi w0 post) a.defers .returning w:=by
  rw [hd];exact ⟨v,hr,hR⟩
 rcases hx with rfl | rfl <;> exact key
abbrev jM:=@LV
end out
def A9.ps:List Nat→List Value→A9→A9
 | t :: ts,v :: vs,e=>A9.ps ts vs ((t,v) :: e)
 | _,_,e=>e
def Ov (P:Program) (l:Nat) (body:Code) (R:Ending→World→Prop):Exit→Act→World→Prop:=
 Exit.then (fun a₁ w₁=>∃ w₂,(Instr.beginRound l).run P w₁=.ok () w₂∧body.wpIn (FF (some l)) 0 P (roundPost P l R) a₁ w₂) (fun _ _ _=>False)
theorem LW {l:Nat} {body:Code} {R:Ending→World→Prop} {q:Loop} {p:Option Code} (t:Nat) (ht:H.get t=some (some l,C2 q .ready p))
 (h:Wc (some l) P body B ⟨e,D,(t,some l,C2 q .busy p) :: H,G⟩ (roundPost P l R)):Ar (Ov P l body R) .normal B ⟨e,D,H,G⟩:=by
 intro a w hh;have hb:=hh.mem.own t l _ ht;have hlt:=(fF.1 hb).1;refine ⟨_,run_beginRound hb F9,?_⟩;exact h _ _ (hh.set ht (Bd w l _) (kW hlt))
abbrev lL:=@LW
section round
variable {ι:Type} {x:Exit} {l n:Nat} {w0:World} {Hi:Hp} {G0:A3} {post:Value→A3→Hp→Prop} {q:Loop} {p:Option Code}
theorem Yl (c:Option Code) (hx:(x=.normal∧c=none)∨(x=.ret∧c=some .ret)∨∃ id,x=.exit id∧c=some (.exit id)) (t:Nat) (ht:H.get t=some (some l,C2 q .busy p)) {Ho:Hp}
 (hp:post (.bool c.isNone) G Ho) (hHo:∀ i y,Ho.get i=some y→Hp.get ((t,some l,C2 q (if c.isNone then .ready else .done) c) :: H) i=some y) :
 Ar (roundPost P l (B8 G0 Hi w0 post)) x ⟨n,w0,Hi.has,G0⟩ ⟨e,D,H,G⟩:=by
 intro a w hh;have hb:=hh.mem.own t l _ ht;have hlt:=(fF.1 hb).1;have h2:=hh.set ht (o':=C2 q (if c.isNone then .ready else .done) c) (Bd w l _) (kW hlt);have h3:=h2.weaken (e':=e) (H':=Ho) (fun _ _ h=>h) hHo;have key:∃ v w',(Instr.endRound l c).run P w=.ok v w'∧B8 G0 Hi w0 post (.returned v) w':=
  ⟨_,_,run_endRound c hb,.bool c.isNone,G,Ho,F9,h3.mem,h3.le,h3.upd,h3.new,h3.mine,hp⟩
 rcases hx with ⟨rfl,rfl⟩ | ⟨rfl,rfl⟩ | ⟨id,rfl,rfl⟩ <;> exact key
abbrev eY:=@Yl
end round
theorem Ej {n:Nat}:∀ (ts:List Nat) (vs:List Value) (e:A9) (tmps:Array Value),tmps.size=n→(∀ i v,e.get i=some v→tmps[i]?=some v)→ts.all (fun t=>Nat.ble (t+1) n)=true→
 ((ts.zip vs).foldl (fun t (p:Nat×Value)=>t.setIfInBounds p.1 p.2) tmps).size=n∧∀ i v,(A9.ps ts vs e).get i=some v→((ts.zip vs).foldl (fun t (p:Nat×Value)=>t.setIfInBounds p.1 p.2) tmps)[i]?=some v
 | [],vs,e,tmps,hs,he,_=>by
   have:A9.ps [] vs e=e:=by cases vs <;> rfl
   rw [this];simpa using ⟨hs,he⟩
 | t :: ts,[],e,tmps,hs,he,_=>by simpa [A9.ps] using ⟨hs,he⟩
 | t :: ts,v :: vs,e,tmps,hs,he,hb=>by
   simp only [kK,aW] at hb;have ht:=cU hb.1;refine Ej ts vs ((t,v) :: e) (tmps.setIfInBounds t v) (by simpa using hs) (fun i u hu=>?_) hb.2;rw [jP] at hu;rw [Array.getElem?_setIfInBounds];by_cases hi:t=i
   · rw [aE hi] at hu ⊢;rw [aE (by omega)];exact hu
   rw [aD hi] at hu ⊢;exact he i u hu
section stmt
variable {β ι:Type} {Q:Exit→Act→World→Prop} {f:FuncId} {fst caps:List Value} {enc:β→List Value} {xs:List β} {ps:List Nat} {assign body:Code} {g:Operand}
def ZO:Option Code→LoopState | none=>.ready | some _=>.done
abbrev RJ (tl td:Nat) (q:Loop) (l dd:Nat) (A:Hp) (p:Option Code):Hp:=(tl,some l,C2 q (ZO p) p) :: (td,some dd,.deferred (some [])) :: A
theorem Wc.rangeFunc (tl td:Nat) (I:ι→Hp) (inv:Nat→ι→Prop) (stop:Code→ι→Prop) (i0:ι) (hg:e.ev g=some (.func (.func f) #[] caps.toArray)) (hf:tZ P f)
 (hps:∀ x,(enc x).length=ps.length) (hpb:ps.all (fun t=>Nat.ble (t+1) B.n)=true) (hit:Ir P f caps G enc xs) (h0:inv 0 i0) (hH:∀ t x,(I i0).get t=some x→H.get t=some x)
 (htl:Nat.beq tl td=false∧∀ i,(I i).get tl=none)
 (hround:∀ k x i l dd q w0,xs[k]?=some x→inv k i→Wc (some l) P assign ⟨B.n,w0,(RJ tl td q l dd (I i) none).has,G⟩ ⟨A9.ps ps (enc x) e,[],RJ tl td q l dd (I i) none,G⟩
  (Ov P l body (B8 G (RJ tl td q l dd (I i) none) w0 (fun v G' Ho=>G'=G∧∃ j:ι×Option Code,Ho=RJ tl td q l dd (I j.1) j.2∧((v=.bool true∧j.2=none∧inv (k+1) j.1)∨(v=.bool false∧∃ c,j.2=some c∧stop c j.1))))))
 (hdone:∀ j dd,inv xs.length j→Ar Q .normal B ⟨e,mark dd :: D,(td,some dd,.deferred (some [])) :: I j,G⟩)
 (hstop:∀ j dd c,stop c j→Wc none P c B ⟨e,mark dd :: D,(td,some dd,.deferred (some [])) :: I j,G⟩ Q) :
 Wc none P (.rangeFunc g ps.toArray assign body) B ⟨e,D,H,G⟩ Q:=by
 intro a w hh;refine wpIn_rangeFunc fun fn _=>?_;obtain ⟨q,hq⟩:∃ q:Loop,q={ state:=.ready,pending:=none,fn,tmps:=a.tmps,params:=ps.toArray,assign,body,defers:=w.heap.size }:=⟨_,F9⟩
 obtain ⟨fnn,hf1,hf2,hf3⟩:=hf;obtain ⟨ht3,htI⟩:=htl;have hne:tl≠td:=fun h=>by subst h;simp at ht3
 have hA:=hh.alloc td (.deferred (some []));have hB:=hA.alloc tl (C2 q .ready none);rw [World.size_alloc] at hB;refine ⟨w.heap.size+1,[mark w.heap.size],(w.alloc (.deferred (some []))).alloc (C2 q .ready none),{ target:=.fn (.func f) caps.toArray,args:=#[.func (.yield (w.heap.size+1)) #[] #[]] },(w.alloc (.deferred (some []))).alloc (C2 q .ready none),f,
  (.func (.yield (w.heap.size+1)) #[] #[] :: caps).toArray,(w.alloc (.deferred (some []))).alloc (C2 q .ready none),?_,?_,?_,?_,fun h=>by simp [FF] at h,?_⟩
 · have:=run_enterLoop_outer (P:=P) (w:=w) fn a.tmps ps.toArray assign body;rw [hq];exact this
 · have hev:Act.eval a g=.func (.func f) #[] caps.toArray:=hh.eval hg;simp only [resolve,hev];simp [go_sem]
 · intro f' hf';trivial
 · simp [invoke,Ak _ _ hf1 hf2 hf3]
 have hB':A6 B ⟨e,D,RJ tl td q (w.heap.size+1) w.heap.size (I i0) none,G⟩ a ((w.alloc (.deferred (some []))).alloc (C2 q .ready none)):=by
  refine hB.weaken (fun _ _ h=>h) fun t x hx=>?_;rw [bC] at hx ⊢;split at hx <;> rename_i h1
  · rw [aE h1];exact hx
  rw [aD h1];rw [bC] at hx ⊢;split at hx <;> rename_i h2
  · rw [aE h2];exact hx
  rw [aD h2];exact hH t x hx
 have hC:=hit (ι×Option Code) (fun s=>RJ tl td q (w.heap.size+1) w.heap.size (I s.1) s.2) (fun k j=>j.2=none∧inv k j.1) (fun j=>∃ c,j.2=some c∧stop c j.1) (w.heap.size+1) (i0,none) ⟨F9,h0⟩ (fun k x i hx hi=>?_)
 · refine Ay.2 ((hC _ hB'.mem).mono fun ex w' ⟨v,G',Ho,h1,h2,h3,h4,h5,h6,h7,j,h8,h9⟩=>?_);subst h1 h7;have hcl:=hB'.called 0 (Hi:=RJ tl td q (w.heap.size+1) w.heap.size (I i0) none) (fun t x hx=>by rw [cS];exact hx) h2 h3 h4 h5 h6;have hD:A6 B ⟨e,D,Ho,G'⟩ a w':=hcl.weaken (fun _ _ h=>h) (fun t x hx=>by
    rw [eR,eW,aE (aN _),nJ,hx];rfl)
   rw [h8] at hD;obtain ⟨ji,jp⟩:=j;have hget:Hp.get (RJ tl td q (w.heap.size+1) w.heap.size (I ji) jp) tl=some (some (w.heap.size+1),C2 q (ZO jp) jp):=by
    rw [bC,aE rfl]
   have hbk:=hD.mem.own tl _ _ hget;have hlt:=(fF.1 hbk).1;have hE:=hD.set hget (o':=C2 q .exhausted jp) (Bd w' _ _) (kW hlt);have hF:A6 B ⟨e,D,(td,some w.heap.size,.deferred (some [])) :: I ji,G'⟩ a (w'.putObj (w.heap.size+1) (C2 q .exhausted jp)):=by
    refine hE.weaken (fun _ _ h=>h) fun t x hx=>?_;rw [bC] at hx ⊢;have htn:tl≠t:=fun h=>by
     subst h;rw [aD (lT hne)] at hx;have:=htI ji;rw [hx] at this;cases this
    rw [aD htn,bC,aD htn,bC];exact hx
   have hG:A6 B ⟨e,mark w.heap.size :: D,(td,some w.heap.size,.deferred (some [])) :: I ji,G'⟩ { a with defers:=[mark w.heap.size]++a.defers } (w'.putObj (w.heap.size+1) (C2 q .exhausted jp)):=
    ⟨hF.size,by show [mark w.heap.size]++a.defers=_;rw [hF.defers];rfl,hF.env,hF.mem,hF.upd,hF.mine,hF.le,hF.new⟩
   have hend:(Instr.endLoop (w.heap.size+1)).run P w'=.ok jp (w'.putObj (w.heap.size+1) (C2 q .exhausted jp)):=run_endLoop hbk (by cases jp <;> simp [ZO]);refine ⟨jp,_,hend,?_⟩;rcases h9 with ⟨hj,hi⟩ | ⟨c,hj,hs⟩
   · have hj':jp=none:=hj;subst hj';exact hdone ji _ hi _ _ hG
   have hj':jp=some c:=hj;subst hj';exact hstop ji _ c hs _ _ hG
 obtain ⟨i,ip⟩:=i;obtain ⟨hip,hi⟩:=hi;have hip':ip=none:=hip;subst hip';intro w2 hw2;have hl2:w2.heap[w.heap.size+1]?=some (C2 q .ready none):=hw2.own tl _ _ (by rw [bC,aE rfl];rfl);have hq2:q.params=ps.toArray∧q.tmps=a.tmps∧q.assign=assign∧q.body=body:=by rw [hq];exact ⟨F9,F9,F9,F9⟩
 have hy:=run_yield (P:=P) (args:=(enc x).toArray) hl2 (by show _=q.params.size;rw [hq2.1];simp [hps x]);refine ⟨_,_,_,_,hy,roundIn_of_wpIn (F:=Fence.wide) (n:=0) H2 ?_⟩;have hz:=Ej ps (enc x) e a.tmps hh.size hh.env hpb;have hr:=hround k x i (w.heap.size+1) w.heap.size q w2 hx hi;have hhold:A6 ⟨B.n,w2,(RJ tl td q (w.heap.size+1) w.heap.size (I i) none).has,G⟩ ⟨A9.ps ps (enc x) e,[],RJ tl td q (w.heap.size+1) w.heap.size (I i) none,G⟩
  { tmps:=(q.params.zip (enc x).toArray).foldl (fun tmps (t,a)=>tmps.setIfInBounds t a) q.tmps,defers:=[] } w2:=by
  refine ⟨?_,F9,?_,hw2,mX _ _,fun t b o hx=>.inr ⟨t,o,hx⟩,bN _,fun b h1 h2=>(h1 h2).elim⟩
  · show ((q.params.zip (enc x).toArray).foldl _ q.tmps).size=B.n;rw [hq2.1,hq2.2.1];have:=hz.1;simpa using this
  intro i v hv;show ((q.params.zip (enc x).toArray).foldl _ q.tmps)[i]?=some v;rw [hq2.1,hq2.2.1];have:=hz.2 i v hv;simpa using this
 have h:=hr _ w2 hhold;show q.assign.wpIn (FF (some (w.heap.size+1))) 0 P (Ov P (w.heap.size+1) q.body _) _ _;rw [hq2.2.2.1,hq2.2.2.2];exact h
abbrev qK:=@Wc.rangeFunc
end stmt
end
section
variable {P:Program} {e:A9} {H:Hp} {G:A3} {ty:TypeId}
theorem Ek {t E:TypeId} {a:Option Addr} {n c:Nat} (ht:P.underlying t=some (.slice E)) (d:Nat) (w:World):(Op.equalIn (d+1) t (.slice a n c) (.slice none 0 0)).run P w=.ok a.isNone w:=by
 cases a <;> simp [Op.equalIn,dE ht]
theorem Ow {t t':TypeId} {x y:Operand} {a:Option Addr} {n c E sz:Nat} (ht:tN P t E sz) (hx:e.ev x=some (.slice a n c)) (hy:e.ev y=some (.slice none 0 0)):Qy P (.binOp .eql t x y t') ty e H G (.bool (decide (a=none))):=fun w0 w _ _ _ _ hh=>by
 have:=Ek (P:=P) (a:=a) (n:=n) (c:=c) ht.1 9999 w;simp [execOp,hh.eval hx,hh.eval hy,binOp,eqGuard,Op.equal,Op.maxDepth,this];cases a <;> rfl
abbrev jT:=@Ow
theorem Sb {T:TypeId} {x i:Operand} {b o n sz:Nat} {zs:List Value} {k:IntKind} {m:Int} (j:Nat) (hT:C9 P T n sz zs) (hx:e.ev x=some (.pointer (some ⟨b,o,none⟩))) (hi:e.ev i=some (.int k m))
 (hb:decide (0≤m∧m<n)=true) (hj:Nat.beq (m.toNat*sz) j=true):Qy P (.indexAddr T x i) ty e H G (.pointer (some ⟨b,o+j,none⟩)):=fun a w _ _ _ _ hh=>by
 obtain ⟨z,E,hu,_,_,hs⟩:=hT;have hb':=fQ hb;have hj':=cV hj;simp [execOp,Instr.indexAt,Instr.sureAddr,hh.eval hx,hh.eval hi,asIntOf,dE hu,hb',run_sizeOf w hs,Bw,hj']
abbrev jR:=@Sb
end
section
variable {P:Program} {B:Bs} {e:A9} {D:List Deferred} {H:Hp} {G:A3}
theorem A6.base {a:Act} {w:World} (hh:A6 B ⟨e,D,H,G⟩ a w):A6 B ⟨e,D,H,B.G0⟩ a w:=by
 refine ⟨hh.size,hh.defers,hh.env,⟨hh.mem.own,hh.mem.one,fun b o h=>hh.mem.imm b o (hh.le b o h),fun t b o h=>?_⟩,hh.upd,hh.mine,bN _,fun b h h0=>(h h0).elim⟩;have h1:G b=none:=hh.mem.off t b o h;show B.G0 b=none;cases hg:B.G0 b with
 | none=>rfl
 | some x=>have h2:G b=some x:=hh.le b x hg;rw [h1] at h2;cases h2
theorem Ar.base {Q:Exit→Act→World→Prop} {x:Exit} (h:Ar Q x B ⟨e,D,H,B.G0⟩):Ar Q x B ⟨e,D,H,G⟩:=fun a w hh=>h a w hh.base
abbrev jY:=@Ar.base
theorem B3.less {Hi:Hp} {G G':A3} {w:World} (hw:B3 Hi G' w) (hl:G.le G'):B3 Hi G w:=by
 refine ⟨hw.own,hw.one,fun b o h=>hw.imm b o (hl b o h),fun t b o h=>?_⟩;have h1:=hw.off t b o h;cases hg:G b with
 | none=>rfl
 | some x=>have:=hl b x hg;rw [h1] at this;cases this
theorem B8.up {G G':A3} {Hi:Hp} {w w':World} {q:Value→Hp→Prop} (hw:B3 Hi G' w) {x:Ending} (h:B8 G Hi w (fun v G1 Ho=>G1=G∧q v Ho) x w') :
 B8 G' Hi w (fun v G1 Ho=>G1=G'∧q v Ho) x w':=by
 obtain ⟨v,G1,Ho,h1,h2,h3,h4,h5,h6,h7,h8⟩:=h;have hnot:∀ b o,G' b=some o→¬Hi.has b:=fun b o hb ⟨t,o',ht⟩=>by have:=hw.off t b o' ht;rw [hb] at this;cases this
 refine ⟨v,G',Ho,h1,⟨h2.own,h2.one,fun b o hb=>?_,fun t b o ht=>?_⟩,bN _,h4,fun b h0 h0'=>(h0 h0').elim,h6,F9,h8⟩
 · rw [h4.same b (hw.ltG hb) (hnot b o hb)];exact hw.imm b o hb
 cases hg:G' b with
 | none=>rfl
 | some y =>
   rcases h6 t b o ht with h | h
   · have:b<w.heap.size:=hw.ltG hg;omega
   exact (hnot b y hg h).elim
theorem C3.up {l:Nat} {vs:List Value} {G G':A3} {Hi:Hp} {q:Value→Hp→Prop} (hl:G.le G') (h:C3 P l vs G Hi (fun v G1 Ho=>G1=G∧q v Ho)):C3 P l vs G' Hi (fun v G1 Ho=>G1=G'∧q v Ho):=by
 intro w hw;obtain ⟨f,tmps,assign,body,h1,h2⟩:=h w (hw.less hl);exact ⟨f,tmps,assign,body,h1,h2.mono fun x w' hp=>hp.up hw⟩
end
def CT (r:Option Nat) (P:Program) (c:Code) (Q:Exit→Act→World→Prop) (a:Act) (w:World):Prop:=
 ∀ (b:Frame) (k:List Item) (cs:List Frame),b.roundOf=(FF r).round→(FF r).fn b.fn→(FF r).room (cs.length+1+0)→
  ∃ e a' w',Q e a' w'∧ArrivesIn (Machine.fenced P (FF r)) P (lone (b.atR a (.code c :: .inLoop c :: k)) cs w) b k cs e a' w'
def La (r:Option Nat) (P:Program) (c:Code) (B:Bs) (S:St) (Q:Exit→Act→World→Prop):Prop:=∀ a w,A6 B S a w→CT r P c Q a w
section
variable {r:Option Nat} {P:Program} {B:Bs} {S:St} {Q:Exit→Act→World→Prop} {c:Code}
theorem Ox (h:La r P c B S Q):Wc r P (.loop c) B S Q:=by
 intro a w hh b k cs hro hb' hr;obtain ⟨e,a',w',hq,harr⟩:=h a w hh b k cs hro hb' hr;exact ⟨e,a',w',hq,.of_steps (.one (pK hb' hr F9) stepR_loop) harr⟩
theorem La.round (h:Wc r P c B S (Exit.then (CT r P c Q) Q)):La r P c B S Q:=by
 intro a w hh b k cs hro hb' hr;obtain ⟨x,a₁,w₁,hq,harr⟩:=h a w hh b (.inLoop c :: k) cs hro hb' hr;cases x with
 | normal =>
   obtain ⟨e₂,a₂,w₂,hq₂,harr₂⟩:=hq b k cs hro hb' hr;exact ⟨e₂,a₂,w₂,hq₂,.of_steps (StepsIn.trans harr (.one (pK hb' hr F9) stepR_inLoop)) harr₂⟩
 | exit id=>exact ⟨_,a₁,w₁,hq,.pass (x:=.inLoop c) F9 (fun _ _=>.inl uE) harr⟩
 | goto l=>exact ⟨_,a₁,w₁,hq,.pass (x:=.inLoop c) F9 (fun _ _=>.inl uE) harr⟩
 | ret=>exact ⟨_,a₁,w₁,hq,.pass (x:=.inLoop c) F9 (fun _ _=>.inl uE) harr⟩
 | panic ch=>exact ⟨_,a₁,w₁,hq,.pass (x:=.inLoop c) F9 (fun _ _=>.inl uE) harr⟩
 | outgrown=>exact ⟨_,a₁,w₁,hq,.pass (x:=.inLoop c) F9 (fun _ _=>.inl uE) harr⟩
abbrev mG:=@La.round
theorem SN (h:La r P c B S Q):Ar (Exit.then (CT r P c Q) Q) .normal B S:=h
abbrev pP:=@SN
end
def LX (P:Program):List (Nat×Nat×Nat)→Prop
 | []=>True
 | x :: l=>Bx P x.1 x.2.1 x.2.2∧LX P l
def F2 (P:Program):List Nat→Prop
 | []=>True
 | x :: l=>(∃ E sz,tN P x E sz)∧F2 P l
def E6 (P:Program):List Nat→Prop
 | []=>True
 | x :: l=>wR P x=true∧E6 P l
def E7 (P:Program):List (Nat×Nat)→Prop
 | []=>True
 | x :: l=>(zC P x.1 x.2=true∧(P.info? x.1).map (·.size)=some x.2)∧E7 P l
def F3 (P:Program):List Nat→Prop
 | []=>True
 | x :: l=>tZ P x∧F3 P l
class Tab (P:Program) where
 fn:List Nat
 fnP:F3 P fn
 one:List Nat
 agg:List (Nat×Nat)
 sl:List Nat
 fa:List (Nat×Nat×Nat)
 oneP:E6 P one
 aggP:E7 P agg
 slP:F2 P sl
 faP:LX P fa
def Vj:List Nat→Nat→Bool
 | [],_=>false
 | x :: l,t=>bif Nat.beq x t then true else Vj l t
def EV:List (Nat×Nat)→Nat→Option Nat
 | [],_=>none
 | (x,y) :: l,t=>bif Nat.beq x t then some y else EV l t
def LY:List (Nat×Nat×Nat)→Nat→Nat→Option Nat
 | [],_,_=>none
 | (x,y,z) :: l,s,f=>bif Nat.beq x s && Nat.beq y f then some z else LY l s f
theorem vF {α:Type} {b:Bool} {x y z:α} (h:(bif b then x else y)=z):(b=true∧x=z)∨(b=false∧y=z):=by cases b <;> simp_all
theorem Oy {P:Program}:∀ {l:List Nat} {t:Nat},E6 P l→Vj l t=true→wR P t=true
 | [],t,_,h=>by cases h
 | x :: l,t,ha,h=>by
   rcases vF h with ⟨h1,_⟩ | ⟨_,h2⟩
   · have:=cV h1;subst this;exact ha.1
   exact Oy ha.2 h2
theorem Vk {P:Program}:∀ {l:List Nat} {t:Nat},F3 P l→Vj l t=true→tZ P t
 | [],t,_,h=>by cases h
 | x :: l,t,ha,h=>by
   rcases vF h with ⟨h1,_⟩ | ⟨_,h2⟩
   · have:=cV h1;subst this;exact ha.1
   exact Vk ha.2 h2
theorem EW {P:Program}:∀ {l:List Nat} {t:Nat},F2 P l→Vj l t=true→∃ E sz,tN P t E sz
 | [],t,_,h=>by cases h
 | x :: l,t,ha,h=>by
   rcases vF h with ⟨h1,_⟩ | ⟨_,h2⟩
   · have:=cV h1;subst this;exact ha.1
   exact EW ha.2 h2
theorem Kw {P:Program}:∀ {l:List (Nat×Nat)} {t k:Nat},E7 P l→EV l t=some k→zC P t k=true∧(P.info? t).map (·.size)=some k
 | [],t,k,_,h=>by cases h
 | (x,y) :: l,t,k,ha,h=>by
   rcases vF h with ⟨h1,h2⟩ | ⟨_,h2⟩
   · have:=cV h1;subst this;cases h2;exact ha.1
   exact Kw ha.2 h2
theorem Ym {P:Program}:∀ {l:List (Nat×Nat×Nat)} {s f k:Nat},LX P l→LY l s f=some k→Bx P s f k
 | [],s,f,k,_,h=>by cases h
 | (x,y,z) :: l,s,f,k,ha,h=>by
   rcases vF h with ⟨h1,h2⟩ | ⟨_,h2⟩
   · simp only [aW] at h1;have h3:=cV h1.1;have h4:=cV h1.2;subst h3;subst h4;cases h2;exact ha.1
   exact Ym ha.2 h2
def fc:IntKind→IntKind→Bool
 | .i8,.i8 | .i16,.i16 | .i32,.i32 | .i64,.i64 | .u8,.u8 | .u16,.u16 | .u32,.u32 | .u64,.u64=>true
 | _,_=>false
theorem LZ {a b:IntKind} (h:fc a b=true):a=b:=by cases a <;> cases b <;> first | rfl | cases h
def XG {α:Type}:List α→Nat→Option α
 | [],_=>none
 | x :: l,n=>bif Nat.beq n 0 then some x else XG l (Nat.pred n)
theorem Vm {α:Type}:∀ (l:List α) (n:Nat),XG l n=l[n]?
 | [],n=>by simp [XG]
 | x :: l,n=>by
   unfold XG;cases n with
   | zero=>rfl
   | succ n=>simp only [Nat.beq,cond_false,Nat.pred_succ,Vm l n,iT]
abbrev Rz:=Value×List Nat×Prop
inductive IOp | eql | neq | lss | leq | gtr | geq | add | sub
def iop:BinOp→Option IOp
 | .eql=>some .eql | .neq=>some .neq | .lss=>some .lss | .leq=>some .leq | .gtr=>some .gtr | .geq=>some .geq | .add=>some .add | .sub=>some .sub
 | _=>none
def fm (o:IOp) (k:IntKind) (m n:Int) (hs:List Nat):Option Rz:=
 match o with
 | .eql=>some (.bool (decide (m=n)),hs,True)
 | .neq=>some (.bool (decide (m≠n)),hs,True)
 | .lss=>some (.bool (decide (m<n)),hs,True)
 | .leq=>some (.bool (decide (m≤n)),hs,True)
 | .gtr=>some (.bool (decide (n<m)),hs,True)
 | .geq=>some (.bool (decide (n≤m)),hs,True)
 | .add=>bif fc k .i64 then some (.int .i64 (m+n),hs,-9223372036854775808≤m+n∧m+n≤9223372036854775807) else none
 | .sub=>bif fc k .i64 then some (.int .i64 (m - n),hs,-9223372036854775808≤m - n∧m - n≤9223372036854775807) else none
def ZP (P:Program) [Tab P] (e:A9) (H:Hp) (hs:List Nat):Op→Option Rz
 | .move x=>match e.ev x with | some v=>some (v,hs,True) | none=>none
 | .assign x=>match e.ev x with | some v=>some (v,hs,True) | none=>none
 | .pick c x y=>match e.ev c with
   | some (.bool b)=>match e.ev (bif b then x else y) with | some v=>some (v,hs,True) | none=>none
   | _=>none
 | .unOp .not _ x=>match e.ev x with | some (.bool b)=>some (.bool (!b),hs,True) | _=>none
 | .binOp o _ x y _=>match iop o with
   | some o=>match e.ev x with
     | some (.int k m)=>match e.ev y with
       | some (.int k' n)=>bif fc k k' then fm o k m n hs else none
       | _=>none
     | _=>none
   | none=>none
 | .extract x i=>match e.ev x with
   | some (.tuple ⟨vs⟩)=>match XG vs i with | some v=>some (v,hs,True) | none=>none
   | _=>none
 | .nilCheck x=>match e.ev x with
   | some (.pointer (some ad))=>some (.pointer (some ad),hs,True)
   | _=>none
 | .fieldAddr s x f=>match LY (Tab.fa P) s f with
   | some k=>match e.ev x with
     | some (.pointer (some ⟨b,o,none⟩))=>some (.pointer (some ⟨b,o+k,none⟩),hs,True)
     | _=>none
   | none=>none
 | .load T x=>match hs with
   | t :: hs=>match e.ev x with
     | some (.pointer (some ⟨b,off,none⟩))=>match H.get t with
       | some (some b',.cells ⟨cs⟩ _ _)=>match Vj (Tab.one P) T with
         | true=>match XG cs off with | some v=>some (v,hs,b=b') | none=>none
         | false=>match EV (Tab.agg P) T with
           | some k=>bif Nat.beq off 0 && Nat.beq cs.length k then some (.agg cs.toArray,hs,b=b') else none
           | none=>none
       | _=>none
     | _=>none
   | []=>none
 | .call ⟨.builtin .len,⟨[x]⟩,⟨[T]⟩⟩=>match Vj (Tab.sl P) T with
   | true=>match e.ev x with | some (.slice _ n _)=>some (.int .i64 n,hs,True) | _=>none
   | false=>none
 | _=>none
theorem XH {P:Program} {e:A9} {H:Hp} {G:A3} {ty t t':TypeId} {hs hs':List Nat} {bo:BinOp} {o:IOp} {x y:Operand} {k:IntKind} {m n:Int} {v:Value} {ob:Prop} (ho:iop bo=some o) (hx:e.ev x=some (.int k m)) (hy:e.ev y=some (.int k n))
 (h:fm o k m n hs=some (v,hs',ob)) (hob:ob):Qy P (.binOp bo t x y t') ty e H G v:=by
 cases bo <;> first | (cases ho;done) | skip
 all_goals
  cases ho;unfold fm at h;first
   | (cases h;first | exact Qy.eql hx hy | exact Qy.neq hx hy | exact Qy.lss hx hy | exact Qy.leq hx hy | exact Qy.gtr hx hy | exact Qy.geq hx hy)
   | (rcases vF h with ⟨hk,h⟩ | ⟨_,h⟩
      · have:=LZ hk;subst this;cases h;first | exact Qy.add hx hy hob | exact Qy.sub hx hy hob
      cases h)
theorem Vn {P:Program} [T:Tab P] {e:A9} {H:Hp} {G:A3} {ty:TypeId} {hs hs':List Nat} {o:Op} {v:Value} {ob:Prop} (h:ZP P e H hs o=some (v,hs',ob)) (hob:ob):Qy P o ty e H G v:=by
 unfold ZP at h;split at h
 · split at h
   · rename_i hx;cases h;exact dH hx
   cases h
 · split at h
   · rename_i hx;cases h;exact kA hx
   cases h
 · split at h
   · rename_i hc;split at h
     · rename_i hv;cases h;exact Qy.pick hc hv
     cases h
   cases h
 · split at h
   · rename_i hx;cases h;exact Qy.not hx
   cases h
 · split at h
   · rename_i o' ho;split at h
     · rename_i k m hx;split at h
       · rename_i k' n hy;rcases vF h with ⟨hk,h9⟩ | ⟨_,h9⟩
         · have h8:=LZ hk;subst h8;exact XH ho hx hy h9 hob
         cases h9
       cases h
     cases h
   cases h
 · split at h
   · rename_i hx;split at h
     · rename_i hv;cases h;rw [Vm] at hv;exact Qy.extract hx hv
     cases h
   cases h
 · split at h
   · rename_i hx;cases h;exact Qy.nilCheck hx
   cases h
 · split at h
   · rename_i k hk;split at h
     · rename_i hx;cases h;exact gE (Ym T.faP hk) hx
     cases h
   cases h
 · split at h
   · split at h
     · rename_i hx;split at h
       · rename_i hH;split at h
         · rename_i h1;split at h
           · rename_i hv;cases h;subst hob;rw [Vm] at hv;exact jN _ (Oy T.oneP h1) hx hH hv
           cases h
         split at h
         · rename_i k hk;rcases vF h with ⟨hc,h⟩ | ⟨_,h⟩
           · cases h;subst hob;simp only [aW] at hc;have h0:=cV hc.1;subst h0;exact rU _ (Kw T.aggP hk).1 hx hH (cV hc.2)
           cases h
         cases h
       cases h
     cases h
   cases h
 · split at h
   · rename_i h1;split at h
     · rename_i hx;cases h;obtain ⟨E,sz,hT⟩:=EW T.slP h1;exact Qy.len hT hx
     cases h
   cases h
 cases h
inductive Fr where
 | seq (y:Code)
 | thn (K:Act→World→Prop)
 | blk (id:Nat)
def Nn (P:Program) (r:Option Nat) (Q0:Exit→Act→World→Prop):List Fr→Exit→Act→World→Prop
 | []=>Q0
 | .seq y :: k=>Exit.then (y.wpIn (FF r) 0 P (Nn P r Q0 k)) (Nn P r Q0 k)
 | .thn K :: k=>Exit.then K (Nn P r Q0 k)
 | .blk id :: k=>Exit.inBlock id (Nn P r Q0 k)
def B2 (P:Program) (r:Option Nat) (Q:Exit→Act→World→Prop) (k:List Fr) (Q0:Exit→Act→World→Prop):Prop:=Q=Nn P r Q0 k
theorem B2.seq {P:Program} {r:Option Nat} {Q Q0:Exit→Act→World→Prop} {k:List Fr} {y:Code} (h:B2 P r Q k Q0):B2 P r (Exit.then (y.wpIn (FF r) 0 P Q) Q) (.seq y :: k) Q0:=by
 unfold B2 at *;subst h;rfl
abbrev mM:=@B2.seq
theorem B2.thn {P:Program} {r:Option Nat} {Q Q0:Exit→Act→World→Prop} {k:List Fr} {K:Act→World→Prop} (h:B2 P r Q k Q0):B2 P r (Exit.then K Q) (.thn K :: k) Q0:=by
 unfold B2 at *;subst h;rfl
abbrev mL:=@B2.thn
theorem B2.blk {P:Program} {r:Option Nat} {Q Q0:Exit→Act→World→Prop} {k:List Fr} {id:Nat} (h:B2 P r Q k Q0):B2 P r (Exit.inBlock id Q) (.blk id :: k) Q0:=by
 unfold B2 at *;subst h;rfl
abbrev mN:=@B2.blk
theorem CU {P:Program} {r r':Option Nat} {Q0 Q1:Exit→Act→World→Prop} {k:List Fr} (h:B2 P r Q0 k Q1):B2 P r (Nn P r' Q0 []) k Q1:=h
abbrev mB:=@CU
theorem CV {P:Program} {r:Option Nat} {Q0 Q1:Exit→Act→World→Prop} {k k':List Fr} {y:Code} (h:B2 P r (Nn P r Q0 k) k' Q1):B2 P r (Nn P r Q0 (.seq y :: k)) (.seq y :: k') Q1:=mM h
abbrev mA:=@CV
theorem CW {P:Program} {r:Option Nat} {Q0 Q1:Exit→Act→World→Prop} {k k':List Fr} {K:Act→World→Prop} (h:B2 P r (Nn P r Q0 k) k' Q1):B2 P r (Nn P r Q0 (.thn K :: k)) (.thn K :: k') Q1:=mL h
abbrev lZ:=@CW
theorem CX {P:Program} {r:Option Nat} {Q0 Q1:Exit→Act→World→Prop} {k k':List Fr} {id:Nat} (h:B2 P r (Nn P r Q0 k) k' Q1):B2 P r (Nn P r Q0 (.blk id :: k)) (.blk id :: k') Q1:=mN h
abbrev mC:=@CX
theorem B2.none {P:Program} {Q:Exit→Act→World→Prop}:B2 P .none Q [] Q:=rfl
abbrev lY:=@B2.none
theorem B2.any {P:Program} {r:Option Nat} {Q:Exit→Act→World→Prop}:B2 P r Q [] Q:=rfl
abbrev nC:=@B2.any
inductive Fo where
 | c (c:Code)
 | l (ops:Array Oper) (l:List Oper)
 | a (x:Exit)
def CY:List Oper→Nat→Option Nat
 | [],_=>none
 | x :: l,n=>bif Nat.beq n 0 then x.dst else CY l (Nat.pred n)
theorem Vo:∀ (l:List Oper) (n:Nat),CY l n=(l[n]?).bind (·.dst)
 | [],n=>by simp [CY]
 | x :: l,n=>by
   unfold CY;cases n with
   | zero=>rfl
   | succ n=>simp only [Nat.beq,cond_false,Nat.pred_succ,Vo l n,iT]
abbrev Cf:=Fo×List Fr×A9×Hp×List Nat
def MA (P:Program) [Tab P] (n:Nat) (ops:Array Oper) (k:List Fr) (e:A9) (H:Hp) (hs:List Nat) (rest:List Oper):Oper→Option (Cf×Prop)
 | ⟨some d,o,_,_,_,none⟩=>match Nat.ble (d+1) n with
   | true=>match ZP P e H hs o with
     | some (v,hs,ob)=>some ((.l ops rest,k,(d,v) :: e,H,hs),ob)
     | none=>none
   | false=>none
 | ⟨none,.store T x y,_,_,_,none⟩=>match hs with
   | t :: hs=>match e.ev x with
     | some (.pointer (some ⟨b,off,none⟩))=>match H.get t with
       | some (some b',.cells ⟨cs⟩ bt (0,0))=>match e.ev y with
         | some v=>match Vj (Tab.one P) T with
           | true=>bif v.oneCell' && Nat.ble (off+1) cs.length then some ((.l ops rest,k,e,(t,some b',.cells (cs.set off v).toArray bt (0,0)) :: H,hs),b=b') else none
           | false=>match EV (Tab.agg P) T with
             | some m=>match v with
               | .agg ⟨vs⟩=>bif Nat.beq off 0 && (Nat.beq vs.length m && (Nat.beq vs.length cs.length && vs.all (·.oneCell'))) then some ((.l ops rest,k,e,(t,some b',.cells vs.toArray bt (0,0)) :: H,hs),b=b') else none
               | _=>none
             | none=>none
         | none=>none
       | _=>none
     | _=>none
   | []=>none
 | ⟨dst,o,ty,pos,after,some (j,w)⟩=>match CY ops.toList j with
   | some t=>match e.get t with
     | some (.bool b)=>bif (match b,w with | true,true=>true | false,false=>true | _,_=>false) then some ((.l ops (⟨dst,o,ty,pos,after,none⟩ :: rest),k,e,H,hs),True)
       else match dst with
        | some d=>bif Nat.ble (d+1) n then some ((.l ops rest,k,(d,undef) :: e,H,hs),True) else none
        | none=>none
     | _=>none
   | none=>none
 | _=>none
def fo (P:Program) [Tab P] (n:Nat):Fo→List Fr→A9→Hp→List Nat→Option (Cf×Prop)
 | .c (.seq x y),k,e,H,hs=>some ((.c x,.seq y :: k,e,H,hs),True)
 | .c .skip,k,e,H,hs=>some ((.a .normal,k,e,H,hs),True)
 | .c (.label _),k,e,H,hs=>some ((.a .normal,k,e,H,hs),True)
 | .c (.exit id),k,e,H,hs=>some ((.a (.exit id),k,e,H,hs),True)
 | .c .ret,k,e,H,hs=>some ((.a .ret,k,e,H,hs),True)
 | .c (.block id c),k,e,H,hs=>some ((.c c,.blk id :: k,e,H,hs),True)
 | .c (.region _ ⟨l⟩ false),k,e,H,hs=>bif l.all wW then some ((.l l.toArray l,k,e,H,hs),True) else none
 | .c (.cond c x y),k,e,H,h :: hs=>match e.ev c with
   | some (.bool b)=>bif Nat.beq h 1 then some ((.c x,k,e,H,hs),b=true) else some ((.c y,k,e,H,hs),b=false)
   | _=>none
 | .a .normal,.seq y :: k,e,H,hs=>some ((.c y,k,e,H,hs),True)
 | .a .normal,.blk _ :: k,e,H,hs=>some ((.a .normal,k,e,H,hs),True)
 | .a (.exit id),.blk j :: k,e,H,hs=>bif Nat.beq id j then some ((.a .normal,k,e,H,hs),True) else some ((.a (.exit id),k,e,H,hs),True)
 | .a (.exit id),_ :: k,e,H,hs=>some ((.a (.exit id),k,e,H,hs),True)
 | .a .ret,_ :: k,e,H,hs=>some ((.a .ret,k,e,H,hs),True)
 | .l _ [],k,e,H,hs=>some ((.a .normal,k,e,H,hs),True)
 | .l ops (o :: rest),k,e,H,hs=>MA P n ops k e H hs rest o
 | _,_,_,_,_=>none
def run (P:Program) [Tab P] (n:Nat):Nat→Fo→List Fr→A9→Hp→List Nat→Option (Cf×Prop)
 | 0,f,k,e,H,hs=>some ((f,k,e,H,hs),True)
 | m+1,f,k,e,H,hs=>match fo P n f k e H hs with
   | some ((f,k,e,H,hs),ob)=>match run P n m f k e H hs with
     | some (c,obs)=>some (c,ob∧obs)
     | none=>none
   | none=>none
section
variable {P:Program} {r:Option Nat} {B:Bs} {D:List Deferred} {G:A3} {Q0:Exit→Act→World→Prop}
def Fl (P:Program) (r:Option Nat) (B:Bs) (D:List Deferred) (G:A3) (Q0:Exit→Act→World→Prop):Cf→Prop
 | (.c c,k,e,H,_)=>Wc r P c B ⟨e,D,H,G⟩ (Nn P r Q0 k)
 | (.l ops l,k,e,H,_)=>Wl P ops l B ⟨e,D,H,G⟩ (Nn P r Q0 k .normal)
 | (.a x,k,e,H,_)=>Ar (Nn P r Q0 k) x B ⟨e,D,H,G⟩
theorem MB [T:Tab P] {ops:Array Oper} {k:List Fr} {e:A9} {H:Hp} {hs:List Nat} {rest:List Oper} {o:Oper} {c:Cf} {ob:Prop} (h:MA P B.n ops k e H hs rest o=some (c,ob)) (hob:ob) (hg:Fl P r B D G Q0 c) :
 Fl P r B D G Q0 (.l ops (o :: rest),k,e,H,hs):=by
 unfold MA at h;split at h
 · split at h
   · rename_i hn;split at h
     · rename_i hq;cases h;exact bX hn (Vn hq hob) hg
     cases h
   cases h
 · split at h
   · split at h
     · rename_i hx;split at h
       · rename_i hH;split at h
         · rename_i v hy;split at h
           · rename_i h1;rcases vF h with ⟨hc,h⟩ | ⟨_,h⟩
             · cases h;subst hob;simp only [aW] at hc;exact Wl.store _ (Oy T.oneP h1) hx hy hc.1 hH hc.2 hg
             cases h
           split at h
           · rename_i m hm;split at h
             · rename_i vs;rcases vF h with ⟨hc,h⟩ | ⟨_,h⟩
               · cases h;subst hob;simp only [aW] at hc;have h0:=cV hc.1;subst h0;exact Yc _ (Kw T.aggP hm).2 hx hy (cV hc.2.1) hc.2.2.2 hH hc.2.2.1 hg
               cases h
             cases h
           cases h
         cases h
       cases h
     cases h
   cases h
 · split at h
   · rename_i t ht;rw [Vo] at ht;split at h
     · rename_i b hb;rcases vF h with ⟨hw,h⟩ | ⟨hw,h⟩
       · cases h;refine qH (t:=t) (by simpa using ht) (hb.trans ?_) hg;split at hw <;> first | rfl | cases hw
       split at h
       · rcases vF h with ⟨hn,h⟩ | ⟨_,h⟩
         · cases h;refine Wl.pass (t:=t) (by simpa using ht) (hb.trans ?_) hn hg;rename_i w _ _ _ _ _;cases b <;> cases w <;> first | rfl | cases hw
         cases h
       cases h
     cases h
   cases h
 cases h
theorem XI [T:Tab P] {f:Fo} {k:List Fr} {e:A9} {H:Hp} {hs:List Nat} {c:Cf} {ob:Prop} (h:fo P B.n f k e H hs=some (c,ob)) (hob:ob) (hg:Fl P r B D G Q0 c) :
 Fl P r B D G Q0 (f,k,e,H,hs):=by
 unfold fo at h;split at h
 · cases h;exact dN hg
 · cases h;exact kN hg
 · cases h;exact Wc.label hg
 · cases h;exact Wc.exit hg
 · cases h;exact nH hg
 · cases h;exact Wc.block hg
 · rcases vF h with ⟨hd,h⟩ | ⟨_,h⟩
   · cases h;exact dL hd hg
   cases h
 · split at h
   · rename_i b hb;rcases vF h with ⟨_,h⟩ | ⟨_,h⟩
     · cases h;subst hob;exact LA hb hg
     cases h;subst hob;exact Xz hb hg
   cases h
 · cases h;exact cN hg
 · cases h;exact sM hg
 · rcases vF h with ⟨hd,h9⟩ | ⟨hd,h9⟩
   · have h8:=cV hd;subst h8;cases h9;exact EO hg
   cases h9;exact CH hd hg
 · rename_i id fr k hne;cases h;cases fr with
   | seq y=>exact rM hg
   | thn K=>exact rM hg
   | blk j=>exact (hne j F9).elim
 · rename_i fr k;cases h;cases fr with
   | seq y=>exact qR hg
   | thn K=>exact qR hg
   | blk j=>exact Km hg
 · cases h;exact eT hg
 · exact MB h hob hg
 cases h
theorem Be [T:Tab P]:∀ {m:Nat} {f:Fo} {k:List Fr} {e:A9} {H:Hp} {hs:List Nat} {c:Cf} {ob:Prop},run P B.n m f k e H hs=some (c,ob)→ob→Fl P r B D G Q0 c→Fl P r B D G Q0 (f,k,e,H,hs)
 | 0,f,k,e,H,hs,c,ob,h,hob,hg=>by cases h;exact hg
 | m+1,f,k,e,H,hs,c,ob,h,hob,hg=>by
   unfold run at h;split at h
   · rename_i h1;split at h
     · rename_i h2;cases h;exact XI h1 hob.1 (Be h2 hob.2 hg)
     cases h
   cases h
end
section
variable {P:Program} [Tab P] {r:Option Nat} {B:Bs} {D:List Deferred} {G:A3} {Q Q0:Exit→Act→World→Prop} {k k':List Fr} {e e':A9} {H H':Hp} {hs':List Nat} {ob:Prop} {c c':Code} {l l':List Oper} {ops ops':Array Oper} {x x':Exit}
theorem Wc.gc (n:Nat) (hs:List Nat) (hg:Wc r P c' B ⟨e',D,H',G⟩ (Nn P r Q0 k')) (hr:B2 P r Q k Q0:=by (repeat with_reducible (first | apply mB | apply mA | apply mC | apply lZ | apply mM | apply mN | apply mL));first | exact lY | exact nC) (h:run P B.n n (.c c) k e H hs=some ((.c c',k',e',H',hs'),ob):=by exact F9) (hob:ob:=by (repeat refine And.intro Rr ?_);exact H2):Wc r P c B ⟨e,D,H,G⟩ Q:=by
 unfold B2 at hr;subst hr;exact Be h hob hg
abbrev bL:=@Wc.gc
theorem Wc.gl (n:Nat) (hs:List Nat) (hg:Wl P ops' l' B ⟨e',D,H',G⟩ (Nn P r Q0 k' .normal)) (hr:B2 P r Q k Q0:=by (repeat with_reducible (first | apply mB | apply mA | apply mC | apply lZ | apply mM | apply mN | apply mL));first | exact lY | exact nC) (h:run P B.n n (.c c) k e H hs=some ((.l ops' l',k',e',H',hs'),ob):=by exact F9) (hob:ob:=by (repeat refine And.intro Rr ?_);exact H2):Wc r P c B ⟨e,D,H,G⟩ Q:=by
 unfold B2 at hr;subst hr;exact Be h hob hg
abbrev aH:=@Wc.gl
theorem Wc.ga (n:Nat) (hs:List Nat) (hg:Ar (Nn P r Q0 k') x' B ⟨e',D,H',G⟩) (hr:B2 P r Q k Q0:=by (repeat with_reducible (first | apply mB | apply mA | apply mC | apply lZ | apply mM | apply mN | apply mL));first | exact lY | exact nC) (h:run P B.n n (.c c) k e H hs=some ((.a x',k',e',H',hs'),ob):=by exact F9) (hob:ob:=by (repeat refine And.intro Rr ?_);exact H2):Wc r P c B ⟨e,D,H,G⟩ Q:=by
 unfold B2 at hr;subst hr;exact Be h hob hg
abbrev bG:=@Wc.ga
theorem Wl.gc (n:Nat) (hs:List Nat) (hg:Wc r P c' B ⟨e',D,H',G⟩ (Nn P r Q0 k')) (hr:B2 P r Q k Q0:=by (repeat with_reducible (first | apply mB | apply mA | apply mC | apply lZ | apply mM | apply mN | apply mL));first | exact lY | exact nC) (h:run P B.n n (.l ops l) k e H hs=some ((.c c',k',e',H',hs'),ob):=by exact F9) (hob:ob:=by (repeat refine And.intro Rr ?_);exact H2):Wl P ops l B ⟨e,D,H,G⟩ (Q .normal):=by
 unfold B2 at hr;subst hr;exact Be h hob hg
abbrev aZ:=@Wl.gc
theorem Wl.gl (n:Nat) (hs:List Nat) (hg:Wl P ops' l' B ⟨e',D,H',G⟩ (Nn P r Q0 k' .normal)) (hr:B2 P r Q k Q0:=by (repeat with_reducible (first | apply mB | apply mA | apply mC | apply lZ | apply mM | apply mN | apply mL));first | exact lY | exact nC) (h:run P B.n n (.l ops l) k e H hs=some ((.l ops' l',k',e',H',hs'),ob):=by exact F9) (hob:ob:=by (repeat refine And.intro Rr ?_);exact H2):Wl P ops l B ⟨e,D,H,G⟩ (Q .normal):=by
 unfold B2 at hr;subst hr;exact Be h hob hg
abbrev aL:=@Wl.gl
theorem Wl.ga (n:Nat) (hs:List Nat) (hg:Ar (Nn P r Q0 k') x' B ⟨e',D,H',G⟩) (hr:B2 P r Q k Q0:=by (repeat with_reducible (first | apply mB | apply mA | apply mC | apply lZ | apply mM | apply mN | apply mL));first | exact lY | exact nC) (h:run P B.n n (.l ops l) k e H hs=some ((.a x',k',e',H',hs'),ob):=by exact F9) (hob:ob:=by (repeat refine And.intro Rr ?_);exact H2):Wl P ops l B ⟨e,D,H,G⟩ (Q .normal):=by
 unfold B2 at hr;subst hr;exact Be h hob hg
abbrev aS:=@Wl.ga
theorem Ar.gc (n:Nat) (hs:List Nat) (hg:Wc r P c' B ⟨e',D,H',G⟩ (Nn P r Q0 k')) (hr:B2 P r Q k Q0:=by (repeat with_reducible (first | apply mB | apply mA | apply mC | apply lZ | apply mM | apply mN | apply mL));first | exact lY | exact nC) (h:run P B.n n (.a x) k e H hs=some ((.c c',k',e',H',hs'),ob):=by exact F9) (hob:ob:=by (repeat refine And.intro Rr ?_);exact H2):Ar Q x B ⟨e,D,H,G⟩:=by
 unfold B2 at hr;subst hr;exact Be h hob hg
abbrev lW:=@Ar.gc
theorem Ar.gl (n:Nat) (hs:List Nat) (hg:Wl P ops' l' B ⟨e',D,H',G⟩ (Nn P r Q0 k' .normal)) (hr:B2 P r Q k Q0:=by (repeat with_reducible (first | apply mB | apply mA | apply mC | apply lZ | apply mM | apply mN | apply mL));first | exact lY | exact nC) (h:run P B.n n (.a x) k e H hs=some ((.l ops' l',k',e',H',hs'),ob):=by exact F9) (hob:ob:=by (repeat refine And.intro Rr ?_);exact H2):Ar Q x B ⟨e,D,H,G⟩:=by
 unfold B2 at hr;subst hr;exact Be h hob hg
abbrev lK:=@Ar.gl
theorem Ar.ga (n:Nat) (hs:List Nat) (hg:Ar (Nn P r Q0 k') x' B ⟨e',D,H',G⟩) (hr:B2 P r Q k Q0:=by (repeat with_reducible (first | apply mB | apply mA | apply mC | apply lZ | apply mM | apply mN | apply mL));first | exact lY | exact nC) (h:run P B.n n (.a x) k e H hs=some ((.a x',k',e',H',hs'),ob):=by exact F9) (hob:ob:=by (repeat refine And.intro Rr ?_);exact H2):Ar Q x B ⟨e,D,H,G⟩:=by
 unfold B2 at hr;subst hr;exact Be h hob hg
abbrev dO:=@Ar.ga
theorem XJ {K:Act→World→Prop} (n:Nat) (hs:List Nat) (hg:Wl P ops' l' B ⟨e',D,H',G⟩ K) (h:run P B.n n (.l ops l) [] e H hs=some ((.l ops' l',[],e',H',hs'),ob):=by exact F9) (hob:ob:=by (repeat refine And.intro Rr ?_);exact H2):Wl P ops l B ⟨e,D,H,G⟩ K:=
 Be (r:=none) (Q0:=fun _=>K) h hob hg
abbrev aC:=@XJ
end
section
variable {P:Program} {B:Bs} {e:A9} {D:List Deferred} {H H0:Hp} {G G0:A3} {K:Act→World→Prop} {ops:Array Oper} {l rest:List Oper} {f:Nat} {listed:Array Bool} {wr:List (Nat×Nat)} {ty:TypeId} {pos:String} {after:Array Edge} {d:Nat}
theorem Gm.o1 {o:Oper} (i:Nat) (h:Wl P l.toArray [o] B ⟨e,D,H,G⟩ (Ed P l.toArray f (listed.setIfInBounds i true) wr H0 G0 K)) (hH:H.sub (H0.live wr listed):=by repeat (first | exact H2 | refine ⟨F9,?_⟩)) (hG:G0.le G:=by first | exact bN _ | repeat (first | assumption | refine aO ?_ sX)) (hr:Region.ready .any l.toArray listed=[i]:=by kernel_rfl) (ho:l[i]?=some o:=by exact F9) :
 Gm P l.toArray (f+1) listed wr H0 G0 B ⟨e,D,H,G⟩ K:=jK i hH hG hr ho h
abbrev bE:=@Gm.o1
theorem Gm.o2 {o1 o2:Oper} (i j:Nat) (g1:Wl P l.toArray [o1] B ⟨e,D,H,G⟩ (Ed P l.toArray f (listed.setIfInBounds i true) wr H0 G0 K)) (g2:Wl P l.toArray [o2] B ⟨e,D,H,G⟩ (Ed P l.toArray f (listed.setIfInBounds j true) wr H0 G0 K))
 (hH:H.sub (H0.live wr listed):=by repeat (first | exact H2 | refine ⟨F9,?_⟩)) (hG:G0.le G:=by first | exact bN _ | repeat (first | assumption | refine aO ?_ sX)) (hr:Region.ready .any l.toArray listed=[i,j]:=by kernel_rfl) (h1:l[i]?=some o1:=by exact F9) (h2:l[j]?=some o2:=by exact F9) :
 Gm P l.toArray (f+1) listed wr H0 G0 B ⟨e,D,H,G⟩ K:=Gm.two i j hH hG hr h1 h2 g1 g2
abbrev mK:=@Gm.o2
theorem Gm.o3 {o1 o2 o3:Oper} (i j k:Nat) (g1:Wl P l.toArray [o1] B ⟨e,D,H,G⟩ (Ed P l.toArray f (listed.setIfInBounds i true) wr H0 G0 K)) (g2:Wl P l.toArray [o2] B ⟨e,D,H,G⟩ (Ed P l.toArray f (listed.setIfInBounds j true) wr H0 G0 K)) (g3:Wl P l.toArray [o3] B ⟨e,D,H,G⟩ (Ed P l.toArray f (listed.setIfInBounds k true) wr H0 G0 K))
 (hH:H.sub (H0.live wr listed):=by repeat (first | exact H2 | refine ⟨F9,?_⟩)) (hG:G0.le G:=by first | exact bN _ | repeat (first | assumption | refine aO ?_ sX)) (hr:Region.ready .any l.toArray listed=[i,j,k]:=by kernel_rfl) (h1:l[i]?=some o1:=by exact F9) (h2:l[j]?=some o2:=by exact F9) (h3:l[k]?=some o3:=by exact F9) :
 Gm P l.toArray (f+1) listed wr H0 G0 B ⟨e,D,H,G⟩ K:=LJ i j k hH hG hr h1 h2 h3 g1 g2 g3
theorem XK {Q:Exit→Act→World→Prop} {x:Exit} (h:Ar Q x B ⟨e,D,H,G⟩) (hr:Region.ready .any ops listed=[]:=by kernel_rfl) (hH:H.sub (H0.live wr listed):=by repeat (first | exact H2 | refine ⟨F9,?_⟩)) (hG:G0.le G:=by first | exact bN _ | repeat (first | assumption | refine aO ?_ sX)):Gm P ops 0 listed wr H0 G0 B ⟨e,D,H,G⟩ (Q x):=
 iF hr hH hG h
abbrev cT:=@XK
theorem Gm.c [T:Tab P] {o:Op} {v:Value} {hs':List Nat} {ob:Prop} (i:Nat) (ts hs:List Nat) (h:Gm P l.toArray f (listed.setIfInBounds i true) wr H0 G0 B ⟨(d,v) :: e,D,H,G⟩ K) (ho:l[i]?=some ⟨some d,o,ty,pos,after,none⟩:=by exact F9) (hv:ZP P e (H0.only ts) hs o=some (v,hs',ob):=by exact rfl)
 (hob:ob:=by first | exact H2 | with_reducible rfl | assumption | omega | rfl) (hn:Nat.ble (d+1) B.n=true:=by exact F9) (hB:yR l.toArray listed wr i ts=true:=by kernel_rfl):Gm P l.toArray (f+1) listed wr H0 G0 B ⟨e,D,H,G⟩ K:=
 fE i ts hB ho hn (Vn hv hob) h
abbrev eK:=@Gm.c
theorem Gm.u {o:Op} {v:Value} (i:Nat) (ts:List Nat) (ho:l[i]?=some ⟨some d,o,ty,pos,after,none⟩) (hq:Qy P o ty e (H0.only ts) G0 v) (h:Gm P l.toArray f (listed.setIfInBounds i true) wr H0 G0 B ⟨(d,v) :: e,D,H,G⟩ K)
 (hn:Nat.ble (d+1) B.n=true:=by exact F9) (hB:yR l.toArray listed wr i ts=true:=by kernel_rfl):Gm P l.toArray (f+1) listed wr H0 G0 B ⟨e,D,H,G⟩ K:=
 fE i ts hB ho hn hq h
abbrev eD:=@Gm.u
theorem Wl.k [T:Tab P] {f:FuncId} {xs:Array Operand} {ats:Array TypeId} {vs:List Value} {Hi:Hp} {post:Value→A3→Hp→Prop} (k:Nat) (hx:e.evs xs.toList=some vs) (hF:Does P f vs G Hi post) (h:∀ v G' Ho,G.le G'→post v G' Ho→Wl P ops rest B ⟨(d,v) :: e,D,Ho.shift k++(Hi.kill k++H),G'⟩ K)
 (hn:Nat.ble (d+1) B.n=true:=by exact F9) (hf:Vj (Tab.fn P) f=true:=by exact F9) (hHi:∀ t x,Hi.get t=some x→H.get (k+t)=some x:=by first | exact tC H2 | exact tC ⟨F9,H2⟩ | exact tC ⟨F9,F9,H2⟩ | exact tC ⟨F9,F9,F9,H2⟩) :
 Wl P ops (⟨some d,.call { callee:=.value (.func f),args:=xs,argTypes:=ats },ty,pos,after,none⟩ :: rest) B ⟨e,D,H,G⟩ K:=eO k hn (Vk T.fnP hf) hx hF hHi h
abbrev bS:=@Wl.k
theorem Wl.k0 [T:Tab P] {f:FuncId} {xs:Array Operand} {ats:Array TypeId} {vs:List Value} {r:Value} (hx:e.evs xs.toList=some vs) (hF:Does P f vs G [] (fun v G' Ho=>v=r∧G'=G∧Ho=[])) (h:Wl P ops rest B ⟨(d,r) :: e,D,H,G⟩ K)
 (hn:Nat.ble (d+1) B.n=true:=by exact F9) (hf:Vj (Tab.fn P) f=true:=by exact F9) :
 Wl P ops (⟨some d,.call { callee:=.value (.func f),args:=xs,argTypes:=ats },ty,pos,after,none⟩ :: rest) B ⟨e,D,H,G⟩ K:=mW hn (Vk T.fnP hf) hx hF h
abbrev cF:=@Wl.k0
end
section
variable {P:Program} {fn:Func} {G0:A3} {Hi:Hp} {w0:World} {post:Value→A3→Hp→Prop} {n:Nat} {e:A9} {H:Hp} {G:A3} {x:Exit} {t1 t2 t3:Nat} {v1 v2 v3:Value}
theorem Ar.e1 (hp:post v1 G (H.only [])) (hx:x=.normal∨x=.ret:=by exact .inr F9) (hres:fn.results=#[.tmp t1]:=by exact F9) (h1:e.get t1=some v1:=by exact F9):Ar (CK P fn G0 Hi w0 post) x ⟨n,w0,Hi.has,G0⟩ ⟨e,[],H,G⟩:=
 cK hx hres (.tmp h1) (aU _ _) hp
abbrev dA:=@Ar.e1
theorem Ar.e2 (hp:post (.tuple #[v1,v2]) G (H.only [])) (hx:x=.normal∨x=.ret:=by exact .inr F9) (hres:fn.results=#[.tmp t1,.tmp t2]:=by exact F9) (h1:e.get t1=some v1:=by exact F9) (h2:e.get t2=some v2:=by exact F9):Ar (CK P fn G0 Hi w0 post) x ⟨n,w0,Hi.has,G0⟩ ⟨e,[],H,G⟩:=
 iC hx hres (.tmp h1) (.tmp h2) (aU _ _) hp
abbrev iB:=@Ar.e2
theorem Ar.e3 (hp:post (.tuple #[v1,v2,v3]) G (H.only [])) (hx:x=.normal∨x=.ret:=by exact .inr F9) (hres:fn.results=#[.tmp t1,.tmp t2,.tmp t3]:=by exact F9) (h1:e.get t1=some v1:=by exact F9) (h2:e.get t2=some v2:=by exact F9) (h3:e.get t3=some v3:=by exact F9) :
 Ar (CK P fn G0 Hi w0 post) x ⟨n,w0,Hi.has,G0⟩ ⟨e,[],H,G⟩:=Ip hx hres (.tmp h1) (.tmp h2) (.tmp h3) (aU _ _) hp
abbrev kT:=@Ar.e3
end
section
variable {P:Program} {B:Bs} {e:A9} {D:List Deferred} {H:Hp} {G:A3}
theorem Oz {ι:Type} {r:Option Nat} {x y:Code} {Q:Exit→Act→World→Prop} (I:ι→A9×Hp) (J:ι→A3) (φ:ι→Prop)
 (h1:Wc r P x B ⟨e,D,H,G⟩ (Exit.then (SG B (fun i=>⟨(I i).1,D,(I i).2,J i⟩) φ) Q)) (h2:∀ i,φ i→Wc r P y B ⟨(I i).1,D,(I i).2,J i⟩ Q):Wc r P (.seq x y) B ⟨e,D,H,G⟩ Q:=by
 refine dN fun a w hh b k cs hro hb hr=>?_;obtain ⟨ex,a',w',hq,ha⟩:=h1 a w hh b k cs hro hb hr;refine ⟨ex,a',w',?_,ha⟩;cases ex with
 | normal=>obtain ⟨j,hj,hI⟩:=hq;exact h2 j hj a' w' hI
 | _=>exact hq
end
theorem B3.freezeRow {α:Type} [A2 α] {H:Hp} {G:A3} {w:World} (hh:B3 H G w) {t:Nat} {ad:Option Addr} {c:Nat} {E:TypeId} {xs:List α} {junk:List Value} (ht:H.get t=some (ad.map (·.block),Row E xs junk)) (ho:A4 ad c xs junk) :
 ∃ G',G.le G'∧Arr G' ad xs∧B3 ((t,none,default) :: H) G' w∧∀ b,G' b≠none→G b=none→∃ o,H.get t=some (some b,o):=by
 have hB:A6 ⟨0,w,fun b=>H.has b,G⟩ ⟨[],[],H,G⟩ { tmps:=#[],defers:=[] } w:=
  ⟨F9,F9,fun i v h=>by simp [A9.get] at h,hh,mX _ _,fun t b o h=>.inr ⟨t,o,h⟩,bN _,fun b h h0=>(h h0).elim⟩
 rcases ho with ⟨rfl,rfl,rfl,_⟩ | ⟨b,rfl,hrest⟩
 · exact ⟨G,bN _,kG G,(hB.noBlock t default).mem,fun b h h0=>(h h0).elim⟩
 have ht':H.get t=some (some b,Row E xs junk):=ht;obtain ⟨h1,h2⟩:=hB.freeze ht';refine ⟨_,h2,Vd (E:=E) (junk:=junk) Xw,h1.mem,fun b' hb h0=>?_⟩;have hb':(if b'=b then some (Row E xs junk) else G b')≠none:=hb;split at hb'
 · rename_i h;subst h;exact ⟨_,ht'⟩
 exact (hb' h0).elim
theorem Sw {α β:Type} [A2 α] [A2 β] {P:Program} {f:FuncId} {args:List Value} {G:A3} {E E':TypeId} {q:Value→Option Addr→Nat→List α→Option Addr→Nat→List β→Prop}
 (h:Does P f args G [] (fun v G' Ho=>∃ (a:Option Addr) (c:Nat) (xs:List α) (j:List Value) (b:Option Addr) (d:Nat) (ys:List β) (j':List Value),q v a c xs b d ys∧A4 a c xs j∧A4 b d ys j'∧Ho=[(0,a.map (·.block),Row E xs j),(1,b.map (·.block),Row E' ys j')]∧G'=G)) :
 Does P f args G [] (fun v G' Ho=>∃ (a:Option Addr) (c:Nat) (xs:List α) (b:Option Addr) (d:Nat) (ys:List β),q v a c xs b d ys∧Arr G' a xs∧Arr G' b ys∧Ho=[]):=by
 intro w hw;refine (h w hw).mono fun x w' ⟨v,G',Ho,h1,h2,h3,h4,h5,h6,a,c,xs,j,b,d,ys,j',hq,ho,ho',hHo,hG⟩=>?_;subst hHo hG;obtain ⟨G1,g1,g2,g3,g4⟩:=h2.freezeRow (t:=0) F9 ho;obtain ⟨G2,k1,k2,k3,k4⟩:=g3.freezeRow (t:=1) (ad:=b) (E:=E') (xs:=ys) (junk:=j') F9 ho';have hnil:∀ t b o,Hp.get [] t=some (some b,o)→False:=fun t b o hx=>by simp [Hp.get] at hx
 refine ⟨v,G2,[],h1,⟨fun t b o hx=>(hnil t b o hx).elim,fun t t' b o o' hx=>(hnil t b o hx).elim,k3.imm,fun t b o hx=>(hnil t b o hx).elim⟩,aO g1 k1,h4,fun bb hb h0=>?_,fun t b o hx=>(hnil t b o hx).elim,a,c,xs,b,d,ys,hq,g2.up k1,k2,F9⟩;by_cases hg1:G1 bb=none
 · obtain ⟨o,ho2⟩:=k4 bb hb hg1;have ho3:Hp.get [(0,a.map (·.block),Row E xs j),(1,b.map (·.block),Row E' ys j')] 1=some (some bb,o):=by
    rw [bC,aD (by decide)] at ho2;exact ho2
   exact h6 1 bb o ho3
 obtain ⟨o,ho2⟩:=g4 bb hg1 h0;exact h6 0 bb o ho2
section
variable {P:Program} {e:A9} {H:Hp} {G:A3} {ty:TypeId} {t t':TypeId} {x y:Operand} {m n:Int}
theorem HX (hx:e.ev x=some (.int .u64 m)) (hy:e.ev y=some (.int .u64 n)) (hb:0≤m+n∧m+n≤18446744073709551615):Qy P (.binOp .add t x y t') ty e H G (.int .u64 (m+n)):=by
 have:=Uz (P:=P) (H:=H) (G:=G) (ty:=ty) (t:=t) (t':=t') hx hy;rwa [kR _ hb] at this
abbrev jH:=@HX
theorem HY (hx:e.ev x=some (.int .u64 m)) (hy:e.ev y=some (.int .u64 n)) (hb:0≤m - n∧m - n≤18446744073709551615):Qy P (.binOp .sub t x y t') ty e H G (.int .u64 (m - n)):=by
 have:=Io (P:=P) (H:=H) (G:=G) (ty:=ty) (t:=t) (t':=t') hx hy;rwa [kR _ hb] at this
abbrev jZ:=@HY
theorem HZ (hx:e.ev x=some (.int .u64 m)) (hy:e.ev y=some (.int .u64 n)) (hb:0≤m*n∧m*n≤18446744073709551615):Qy P (.binOp .mul t x y t') ty e H G (.int .u64 (m*n)):=by
 have:=mO (P:=P) (H:=H) (G:=G) (ty:=ty) (t:=t) (t':=t') hx hy;rwa [kR _ hb] at this
abbrev qA:=@HZ
theorem Yn {m n:Int} (h:0≤m):m.tdiv n=m / n:=Int.tdiv_eq_ediv_of_nonneg h
theorem MC {m n:Int} (h:0≤m):m.tmod n=m % n:=pB h
theorem MD {m n:Int} (h:0≤m) (hn:0<n):0≤m / n∧m / n≤m:=⟨oN h (dX hn),Int.ediv_le_self _ h⟩
theorem Sx (hx:e.ev x=some (.int .u64 m)) (hy:e.ev y=some (.int .u64 n)) (hb:0≤m∧m≤18446744073709551615∧0<n):Qy P (.binOp .quo t x y t') ty e H G (.int .u64 (m / n)):=by
 have:=EP (P:=P) (H:=H) (G:=G) (ty:=ty) (t:=t) (t':=t') hx hy sW;have h1:=MD hb.1 hb.2.2;rwa [Yn hb.1,kR _ ⟨h1.1,Int.le_trans h1.2 hb.2.1⟩] at this
theorem SO (hx:e.ev x=some (.int .i64 m)) (hy:e.ev y=some (.int .i64 n)) (hb:0≤m∧m≤9223372036854775807∧0<n):Qy P (.binOp .quo t x y t') ty e H G (.int .i64 (m / n)):=by
 have h1:=MD hb.1 hb.2.2;have h2:m.tdiv n=m / n:=Yn hb.1;have:=oK (P:=P) (H:=H) (G:=G) (ty:=ty) (t:=t) (t':=t') hx hy sW (by rw [h2];exact ⟨by omega,by omega⟩);rwa [h2] at this
abbrev rO:=@SO
theorem SP {k:IntKind} (hx:e.ev x=some (.int k m)) (hy:e.ev y=some (.int k n)) (hb:0≤m∧0<n):Qy P (.binOp .rem t x y t') ty e H G (.int k (m % n)):=by
 have:=sN (P:=P) (H:=H) (G:=G) (ty:=ty) (t:=t) (t':=t') hx hy sW;rwa [MC hb.1] at this
abbrev nI:=@SP
theorem IA {s:TypeId} {k:IntKind} (hs:(P.underlying s).isSome=true) (ht:P.underlying t=some (.int .u32)) (hx:e.ev x=some (.int k m)) (hb:0≤m∧m≤4294967295):Qy P (.convert s t x) ty e H G (.int .u32 m):=by
 have:=cR (P:=P) (H:=H) (G:=G) (ty:=ty) hs ht hx;rwa [IntWalk.u32_in _ hb] at this
abbrev kQ:=@IA
theorem IB {s:TypeId} {k:IntKind} (hs:(P.underlying s).isSome=true) (ht:P.underlying t=some (.int .u64)) (hx:e.ev x=some (.int k m)) (hb:0≤m∧m≤18446744073709551615):Qy P (.convert s t x) ty e H G (.int .u64 m):=by
 have:=cR (P:=P) (H:=H) (G:=G) (ty:=ty) hs ht hx;rwa [kR _ hb] at this
abbrev dM:=@IB
end
theorem Nf (a b:Nat) (ha:a<4294967296) (hb:b<4294967296):bits .or .u32 (a:Int) (b:Int)=((a ||| b:Nat):Int):=by
 have hx:a ||| b<2 ^ 32:=Nat.or_lt_two_pow sW sW
 have h1:(BitVec.ofInt 32 (a:Int)).toNat=a:=by
  rw [kF,lE];exact mP sW
 have h2:(BitVec.ofInt 32 (b:Int)).toNat=b:=by
  rw [kF,lE];exact mP sW
 show IntKind.u32.wrap ((BitVec.ofInt 32 (a:Int) ||| BitVec.ofInt 32 (b:Int)).toNat:Int)=_;rw [BitVec.toNat_or,h1,h2,IntKind.wrap_u32];omega
structure IV where
 neg:Bool
 a:Option Addr
 n:Nat
 c:Nat
instance:Inhabited IV:=⟨⟨false,none,0,0⟩⟩
instance:A2 IV:=⟨2,fun x=>[.bool x.neg,.slice x.a x.n x.c],fun _=>rfl,fun _=>rfl⟩
structure SV where
 a:Option Addr
 n:Nat
 c:Nat
instance:Inhabited SV:=⟨⟨none,0,0⟩⟩
instance:A2 SV:=⟨1,fun x=>[.slice x.a x.n x.c],fun _=>rfl,fun _=>rfl⟩
def fp (l:List A5):Prop:=∀ d∈l,0≤d.v∧d.v<65536
def Ng:List A5→Int
 | []=>0
 | d :: l=>d.v+65536*Ng l
def pw (n:Nat):Int:=((65536 ^ n:Nat):Int)
theorem XL (n:Nat):0<pw n:=by unfold pw;exact Int.ofNat_lt.2 (pM tG)
theorem ZQ {m n:Nat} (h:m≤n):pw m≤pw n:=by unfold pw;exact Int.ofNat_le.2 (iR tG h)
theorem uJ {α:Type} {l:List α} {k:Nat} (h:l.length≤k):l.take k=l:=fM h
def E9 (l:List A5):Prop:=l=[]∨(l[l.length - 1]?.getD default).v≠0
theorem E9.nil:E9 []:=.inl F9
structure IsInt (neg:Bool) (l:List A5) (z:Int):Prop where
 digs:fp l
 top:E9 l
 sign:l=[]→neg=false
 val:z=if neg=true then -Ng l else Ng l
section
variable {P:Program} {B:Bs} {D:List Deferred}
theorem ME {ι:Type} {r:Option Nat} {c:Code} {Q:Exit→Act→World→Prop} {e:A9} {H:Hp} {G:A3} (I:ι→A9×Hp) (g:ι→A3) (φ:ι→Prop) (μ:ι→Nat) (i0:ι) (h0:φ i0) (hg:G=g i0)
 (he:e.sub (I i0).1) (hH:H.sub (I i0).2)
 (hb:∀ i,φ i→Wc r P c B ⟨(I i).1,D,(I i).2,g i⟩ (Exit.then (Dz B (fun i=>⟨(I i).1,D,(I i).2,g i⟩) φ μ (μ i)) Q)):Wc r P (.loop c) B ⟨e,D,H,G⟩ Q:=
 In (fun i=>⟨(I i).1,D,(I i).2,g i⟩) φ μ i0 h0 (fun _ _ h=>by rw [hg] at h;exact h.sub he hH) hb
abbrev kE:=@ME
end
def Below (m:Nat) (zs:List Int):Prop:=∀ z∈zs,(z.natAbs:Int)<pw m
theorem Below.at {m:Nat} {zs:List Int} (h:Below m zs) (i:Nat):((zs[i]?.getD 0).natAbs:Int)<pw m:=by
 cases hx:zs[i]? with
 | none=>exact XL m
 | some z=>exact h z (rH hx)
theorem Below.mono {m k:Nat} {zs:List Int} (h:Below m zs) (hk:m≤k):Below k zs:=fun z hz=>pD (h z hz) (ZQ hk)
def fnB (P : Program) (f : Nat) : Bool := match P.funcs[f]? with | some fn => fn.body.isSome && !(fn.name == "runtime.NumGoroutine") | none => false
theorem F3.of {P:Program}:∀ {l:List Nat},l.all (fnB P)=true→F3 P l
 | [],_=>trivial
 | f :: l,h=>by
   rw [kK,aW] at h;refine ⟨?_,F3.of h.2⟩;have h1:=h.1;unfold fnB at h1;split at h1
   · rename_i fn hf;rw [aW] at h1;exact ⟨fn,hf,h1.1,by simpa using h1.2⟩
   cases h1
theorem E6.of {P:Program}:∀ {l:List Nat},l.all (wR P)=true→E6 P l
 | [],_=>trivial
 | f :: l,h=>by
   rw [kK,aW] at h;exact ⟨h.1,E6.of h.2⟩
def agB (P:Program) (x:Nat×Nat):Bool:=zC P x.1 x.2 && (match P.info? x.1 with | some i=>Nat.beq i.size x.2 | none=>false)
theorem E7.of {P:Program}:∀ {l:List (Nat×Nat)},l.all (agB P)=true→E7 P l
 | [],_=>trivial
 | x :: l,h=>by
   rw [kK,aW] at h;have h1:=h.1;unfold agB at h1;rw [aW] at h1;refine ⟨⟨h1.1,?_⟩,E7.of h.2⟩;have h2:=h1.2;split at h2
   · rename_i i hi;rw [hi,←cV h2];rfl
   cases h2
def slB (P:Program) (t:Nat):Bool:=match P.underlying t with | some (.slice E)=>(P.info? E).isSome | _=>false
theorem F2.of {P:Program}:∀ {l:List Nat},l.all (slB P)=true→F2 P l
 | [],_=>trivial
 | t :: l,h=>by
   rw [kK,aW] at h;refine ⟨?_,F2.of h.2⟩;have h1:=h.1;unfold slB at h1;split at h1
   · rename_i E hE;cases hi:P.info? E with
     | none=>rw [hi] at h1;cases h1
     | some i=>exact ⟨E,i.size,hE,by rw [hi];rfl⟩
   cases h1
def SQ:List (List Nat)→Nat→Nat
 | [],f=>f
 | _ :: s,f=>SQ s f+1
def Yo:List (List Nat)→Array Bool→Array Bool
 | [],L=>L
 | [] :: s,L=>Yo s L
 | (i :: _) :: s,L=>Yo s (L.setIfInBounds i true)
def It (ops:Array Oper) (wr:List (Nat×Nat)):List (List Nat)→Array Bool→Bool
 | [],_=>true
 | [] :: _,_=>false
 | (i :: ts) :: s,L=>yR ops L wr i ts && It ops wr s (L.setIfInBounds i true)
def eqb (b w:Bool):Bool:=bif b then w else !w
def gmg (l:List Oper) (e:A9):Option (Nat×Bool)→Option Bool
 | none=>some true
 | some (j,w)=>match CY l j with
   | some t=>match e.get t with
     | some (.bool b)=>some (eqb b w)
     | _=>none
   | none=>none
def ZJ (P:Program) [Tab P] (n:Nat) (l:List Oper) (H0:Hp):List (List Nat)→A9→Option (A9×Prop)
 | [],e=>some (e,True)
 | [] :: _,_=>none
 | (i :: ts) :: s,e=>match XG l i with
   | some ⟨some d,o,_,_,_,g⟩=>match Nat.ble (d+1) n with
     | true=>match gmg l e g with
       | some true=>match ZP P e (H0.only ts) ts o with
         | some (v,_,ob)=>match ZJ P n l H0 s ((d,v) :: e) with
           | some (e',obs)=>some (e',ob∧obs)
           | none=>none
         | none=>none
       | some false=>match ts with
         | []=>ZJ P n l H0 s ((d,undef) :: e)
         | _ :: _=>none
       | none=>none
     | false=>none
   | _=>none
theorem Yp {l:List Oper} {e:A9} {j:Nat} {w x:Bool} (h:gmg l e (some (j,w))=some x):∃ t,(l[j]?).bind (·.dst)=some t∧e.get t=some (.bool (bif x then w else !w)):=by
 replace h:(match CY l j with
  | some t=>match e.get t with
    | some (.bool b)=>some (eqb b w)
    | _=>none
  | none=>none)=some x:=h
 split at h
 · rename_i t ht;rw [Vo] at ht;split at h
   · rename_i b hb;refine ⟨t,ht,hb.trans ?_⟩;cases b <;> cases w <;> cases h <;> rfl
   cases h
 cases h
theorem Vp {P:Program} [T:Tab P] {B:Bs} {D:List Deferred} {H H0:Hp} {G G0:A3} {K:Act→World→Prop} {l:List Oper} {f:Nat} {wr:List (Nat×Nat)} {e':A9}:∀ {steps:List (List Nat)} {listed:Array Bool} {e:A9} {ob:Prop},ZJ P B.n l H0 steps e=some (e',ob)→ob→It l.toArray wr steps listed=true→Gm P l.toArray f (Yo steps listed) wr H0 G0 B ⟨e',D,H,G⟩ K→Gm P l.toArray (SQ steps f) listed wr H0 G0 B ⟨e,D,H,G⟩ K
 | [],listed,e,ob,h,_,_,hg=>by cases h;exact hg
 | [] :: s,listed,e,ob,h,_,_,_=>by cases h
 | (i :: ts) :: s,listed,e,ob,h,hob,hB,hg=>by
   unfold It at hB;rw [aW] at hB;unfold ZJ at h;split at h
   · rename_i d o ty pos after g hi;rw [Vm] at hi;split at h
     · rename_i hn;split at h
       · rename_i hgm;split at h
         · rename_i v hs' ob1 hq;split at h
           · rename_i e1 obs h2;cases h;have hr:=Vp h2 hob.2 hB.2 hg;cases g with
             | none=>exact fE i ts hB.1 hi hn (Vn hq hob.1) hr
             | some jw =>
               obtain ⟨j,w⟩:=jw;obtain ⟨t,ht,he⟩:=Yp hgm;exact gX (t:=t) i ts hB.1 hi ht he hn (Vn hq hob.1) hr
           cases h
         cases h
       · rename_i hgm;split at h
         · have hr:=Vp h hob hB.2 hg;cases g with
           | none=>cases hgm
           | some jw =>
             obtain ⟨j,w⟩:=jw;obtain ⟨t,ht,he⟩:=Yp hgm;exact rX (t:=t) i hB.1 hi ht he hn hr
         cases h
       cases h
     cases h
   cases h
section
variable {P:Program} {B:Bs} {e e':A9} {D:List Deferred} {H H0:Hp} {G G0:A3} {K:Act→World→Prop} {ops:Array Oper} {l rest:List Oper} {f:Nat} {listed:Array Bool} {wr:List (Nat×Nat)} {ty:TypeId} {pos:String} {after:Array Edge} {d:Nat} {ob:Prop}
theorem Gm.r [T:Tab P] (steps:List (List Nat)) (h:Gm P l.toArray f (Yo steps listed) wr H0 G0 B ⟨e',D,H,G⟩ K) (hr:ZJ P B.n l H0 steps e=some (e',ob):=by exact F9) (hob:ob:=by (repeat refine And.intro WD ?_);exact H2) (hB:It l.toArray wr steps listed=true:=by kernel_rfl) :
 Gm P l.toArray (SQ steps f) listed wr H0 G0 B ⟨e,D,H,G⟩ K:=Vp hr hob hB h
abbrev dP:=@Gm.r
theorem Gm.y {o:Op} {v:Value} {j:Nat} {want:Bool} {t:Nat} (i:Nat) (ts:List Nat) (ho:l[i]?=some ⟨some d,o,ty,pos,after,some (j,want)⟩) (hq:Qy P o ty e (H0.only ts) G0 v) (h:Gm P l.toArray f (listed.setIfInBounds i true) wr H0 G0 B ⟨(d,v) :: e,D,H,G⟩ K)
 (hj:(l[j]?).bind (·.dst)=some t:=by exact F9) (he:e.get t=some (.bool want):=by exact F9) (hn:Nat.ble (d+1) B.n=true:=by exact F9) (hB:yR l.toArray listed wr i ts=true:=by kernel_rfl):Gm P l.toArray (f+1) listed wr H0 G0 B ⟨e,D,H,G⟩ K:=
 gX i ts hB ho hj he hn hq h
abbrev pV:=@Gm.y
theorem Wl.p {o:Op} {v:Value} (hq:Qy P o ty e H G v) (h:Wl P ops rest B ⟨(d,v) :: e,D,H,G⟩ K) (hn:Nat.ble (d+1) B.n=true:=by exact F9):Wl P ops (⟨some d,o,ty,pos,after,none⟩ :: rest) B ⟨e,D,H,G⟩ K:=bX hn hq h
abbrev aQ:=@Wl.p
theorem Wl.b {e0:A9} {H0:Hp} {v:Value} (n m:Nat) (he:e.drop n=e0:=by exact F9) (hf:e0.fresh (e.take n)=true:=by exact F9) (hH:H.drop m=H0:=by exact F9) (hg:H0.fresh (H.take m)=true:=by exact F9) (hv:e.get d=some v:=by exact F9) :
 Wl P ops [] B ⟨e,D,H,G⟩ (A6 B ⟨(d,v) :: e0,D,H0,G⟩):=jB n m he hf hH hg hv
abbrev dI:=@Wl.b
theorem Wl.x {T:TypeId} {x:Operand} {v:Value} {cs:List Value} (t:Nat) (h:∀ b,Wl P ops rest B ⟨(d,.pointer (some ⟨b,0,none⟩)) :: e,D,(t,some b,.cells cs.toArray T (0,0)) :: H,G⟩ K) (hn:Nat.ble (d+1) B.n=true:=by exact F9) (hx:e.ev x=some v:=by exact F9) (hv:v.cells=cs.toArray:=by exact F9) :
 Wl P ops (⟨some d,.box T x,ty,pos,after,none⟩ :: rest) B ⟨e,D,H,G⟩ K:=oJ t hn hx hv h
abbrev eC:=@Wl.x
variable {α:Type} [A2 α]
theorem Wl.at {T:TypeId} {x i:Operand} {c:Nat} {k:IntKind} {m:Int} {E:Nat} {a:Option Addr} {xs:List α} (hT:tN P T E (A2.sz α)) (h:Wl P ops rest B ⟨(d,.pointer (some ⟨ab a,ao a+m.toNat*A2.sz α,none⟩)) :: e,D,H,G⟩ K)
 (hx:e.ev x=some (.slice a xs.length c):=by exact F9) (hi:e.ev i=some (.int k m):=by exact F9) (hs:Arr G a xs:=by assumption) (hb:0≤m∧m<xs.length:=by omega) (hn:Nat.ble (d+1) B.n=true:=by exact F9):Wl P ops (⟨some d,.indexAddr T x i,ty,pos,after,none⟩ :: rest) B ⟨e,D,H,G⟩ K:=
 bX hn (iQ hT hx hi hs hb) h
abbrev fV:=@Wl.at
theorem ZR {T:TypeId} {x i:Operand} {c:Nat} {k:IntKind} {m:Int} {E:Nat} {a:Option Addr} {xs:List α} {junk:List Value} (hT:tN P T E (A2.sz α)) (h:Wl P ops rest B ⟨(d,.pointer (some ⟨ab a,0+m.toNat*A2.sz α,none⟩)) :: e,D,H,G⟩ K)
 (hx:e.ev x=some (.slice a xs.length c):=by exact F9) (hi:e.ev i=some (.int k m):=by exact F9) (hs:A4 a c xs junk:=by assumption) (hb:0≤m∧m<xs.length:=by omega) (hn:Nat.ble (d+1) B.n=true:=by exact F9):Wl P ops (⟨some d,.indexAddr T x i,ty,pos,after,none⟩ :: rest) B ⟨e,D,H,G⟩ K:=
 bX hn (dS hT hx hi hs hb) h
abbrev iK:=@ZR
theorem Wl.lc [Inhabited α] {T:TypeId} {x:Operand} {a:Option Addr} {xs:List α} {m:Int} {v:Value} (k:Nat) (h1:wR P T=true) (h:Wl P ops rest B ⟨(d,v) :: e,D,H,G⟩ K) (hx:e.ev x=some (.pointer (some ⟨ab a,ao a+m.toNat*A2.sz α+k,none⟩)):=by exact F9)
 (hs:Arr G a xs:=by assumption) (hm:0≤m∧m<xs.length:=by omega) (hk:Nat.ble (k+1) (A2.sz α)=true:=by exact F9) (hv:(A2.enc (xs[m.toNat]?.getD default))[k]?=some v:=by exact F9) (hn:Nat.ble (d+1) B.n=true:=by exact F9):Wl P ops (⟨some d,.load T x,ty,pos,after,none⟩ :: rest) B ⟨e,D,H,G⟩ K:=
 bX hn (bV h1 hx (hs.cell hm k hk hv)) h
abbrev jG:=@Wl.lc
theorem Wl.le [Inhabited α] {T k:TypeId} {x:Operand} {a:Option Addr} {xs:List α} {m:Int} (h1:zC P T k=true) (h:Wl P ops rest B ⟨(d,.agg (A2.enc (xs[m.toNat]?.getD default)).toArray) :: e,D,H,G⟩ K) (hx:e.ev x=some (.pointer (some ⟨ab a,ao a+m.toNat*A2.sz α,none⟩)):=by exact F9)
 (hs:Arr G a xs:=by assumption) (hm:0≤m∧m<xs.length:=by omega) (hl:(A2.enc (xs[m.toNat]?.getD default)).length=k:=by exact F9) (hn:Nat.ble (d+1) B.n=true:=by exact F9):Wl P ops (⟨some d,.load T x,ty,pos,after,none⟩ :: rest) B ⟨e,D,H,G⟩ K:=
 bX hn (fY h1 hx (hs.elem hm) hl) h
abbrev lP:=@Wl.le
theorem Wl.lo [Inhabited α] {T:TypeId} {x:Operand} {E:TypeId} {a:Option Addr} {c:Nat} {xs:List α} {junk:List Value} {m:Int} {v:Value} (t k:Nat) (h1:wR P T=true) (h:Wl P ops rest B ⟨(d,v) :: e,D,H,G⟩ K) (hx:e.ev x=some (.pointer (some ⟨ab a,0+m.toNat*A2.sz α+k,none⟩)):=by exact F9)
 (ht:H.get t=some (a.map (·.block),Row E xs junk):=by exact F9) (ho:A4 a c xs junk:=by assumption) (hm:0≤m∧m<xs.length:=by omega) (hk:Nat.ble (k+1) (A2.sz α)=true:=by exact F9) (hv:(A2.enc (xs[m.toNat]?.getD default))[k]?=some v:=by exact F9) (hn:Nat.ble (d+1) B.n=true:=by exact F9) :
 Wl P ops (⟨some d,.load T x,ty,pos,after,none⟩ :: rest) B ⟨e,D,H,G⟩ K:=bX hn (fG t k h1 hx ht ho hm hk hv) h
abbrev nG:=@Wl.lo
theorem Gm.at {T:TypeId} {x i:Operand} {c:Nat} {k:IntKind} {m:Int} {E:Nat} {a:Option Addr} {xs:List α} (q:Nat) (hT:tN P T E (A2.sz α)) (h:Gm P l.toArray f (listed.setIfInBounds q true) wr H0 G0 B ⟨(d,.pointer (some ⟨ab a,ao a+m.toNat*A2.sz α,none⟩)) :: e,D,H,G⟩ K)
 (ho:l[q]?=some ⟨some d,.indexAddr T x i,ty,pos,after,none⟩:=by exact F9) (hx:e.ev x=some (.slice a xs.length c):=by exact F9) (hi:e.ev i=some (.int k m):=by exact F9) (hs:Arr G0 a xs:=by assumption) (hb:0≤m∧m<xs.length:=by omega) (hn:Nat.ble (d+1) B.n=true:=by exact F9) (hB:yR l.toArray listed wr q []=true:=by kernel_rfl) :
 Gm P l.toArray (f+1) listed wr H0 G0 B ⟨e,D,H,G⟩ K:=eD q [] ho (iQ hT hx hi hs hb) h hn hB
abbrev mT:=@Gm.at
theorem ZS {T:TypeId} {x i:Operand} {c:Nat} {k:IntKind} {m:Int} {E:Nat} {a:Option Addr} {xs:List α} {junk:List Value} (q:Nat) (hT:tN P T E (A2.sz α)) (h:Gm P l.toArray f (listed.setIfInBounds q true) wr H0 G0 B ⟨(d,.pointer (some ⟨ab a,0+m.toNat*A2.sz α,none⟩)) :: e,D,H,G⟩ K)
 (ho:l[q]?=some ⟨some d,.indexAddr T x i,ty,pos,after,none⟩:=by exact F9) (hx:e.ev x=some (.slice a xs.length c):=by exact F9) (hi:e.ev i=some (.int k m):=by exact F9) (hs:A4 a c xs junk:=by assumption) (hb:0≤m∧m<xs.length:=by omega) (hn:Nat.ble (d+1) B.n=true:=by exact F9) (hB:yR l.toArray listed wr q []=true:=by kernel_rfl) :
 Gm P l.toArray (f+1) listed wr H0 G0 B ⟨e,D,H,G⟩ K:=eD q [] ho (dS hT hx hi hs hb) h hn hB
abbrev fO:=@ZS
theorem Gm.lc [Inhabited α] {T:TypeId} {x:Operand} {a:Option Addr} {xs:List α} {m:Int} {v:Value} (q:Nat) (ts:List Nat) (k:Nat) (h1:wR P T=true) (h:Gm P l.toArray f (listed.setIfInBounds q true) wr H0 G0 B ⟨(d,v) :: e,D,H,G⟩ K) (ho:l[q]?=some ⟨some d,.load T x,ty,pos,after,none⟩:=by exact F9)
 (hx:e.ev x=some (.pointer (some ⟨ab a,ao a+m.toNat*A2.sz α+k,none⟩)):=by exact F9) (hs:Arr G0 a xs:=by assumption) (hm:0≤m∧m<xs.length:=by omega) (hk:Nat.ble (k+1) (A2.sz α)=true:=by exact F9) (hv:(A2.enc (xs[m.toNat]?.getD default))[k]?=some v:=by exact F9) (hn:Nat.ble (d+1) B.n=true:=by exact F9) (hB:yR l.toArray listed wr q ts=true:=by kernel_rfl) :
 Gm P l.toArray (f+1) listed wr H0 G0 B ⟨e,D,H,G⟩ K:=eD q ts ho (bV h1 hx (hs.cell hm k hk hv)) h hn hB
abbrev rJ:=@Gm.lc
theorem Gm.le [Inhabited α] {T k:TypeId} {x:Operand} {a:Option Addr} {xs:List α} {m:Int} (q:Nat) (h1:zC P T k=true) (h:Gm P l.toArray f (listed.setIfInBounds q true) wr H0 G0 B ⟨(d,.agg (A2.enc (xs[m.toNat]?.getD default)).toArray) :: e,D,H,G⟩ K) (ho:l[q]?=some ⟨some d,.load T x,ty,pos,after,none⟩:=by exact F9)
 (hx:e.ev x=some (.pointer (some ⟨ab a,ao a+m.toNat*A2.sz α,none⟩)):=by exact F9) (hs:Arr G0 a xs:=by assumption) (hm:0≤m∧m<xs.length:=by omega) (hl:(A2.enc (xs[m.toNat]?.getD default)).length=k:=by exact F9) (hn:Nat.ble (d+1) B.n=true:=by exact F9) (hB:yR l.toArray listed wr q []=true:=by kernel_rfl) :
 Gm P l.toArray (f+1) listed wr H0 G0 B ⟨e,D,H,G⟩ K:=eD q [] ho (fY h1 hx (hs.elem hm) hl) h hn hB
abbrev rT:=@Gm.le
theorem Gm.lo [Inhabited α] {T:TypeId} {x:Operand} {E:TypeId} {a:Option Addr} {c:Nat} {xs:List α} {junk:List Value} {m:Int} {v:Value} (q t k:Nat) (h1:wR P T=true) (h:Gm P l.toArray f (listed.setIfInBounds q true) wr H0 G0 B ⟨(d,v) :: e,D,H,G⟩ K) (ho:l[q]?=some ⟨some d,.load T x,ty,pos,after,none⟩:=by exact F9)
 (hx:e.ev x=some (.pointer (some ⟨ab a,0+m.toNat*A2.sz α+k,none⟩)):=by exact F9) (ht:(H0.only [t]).get t=some (a.map (·.block),Row E xs junk):=by exact F9) (hw:A4 a c xs junk:=by assumption) (hm:0≤m∧m<xs.length:=by omega) (hk:Nat.ble (k+1) (A2.sz α)=true:=by exact F9)
 (hv:(A2.enc (xs[m.toNat]?.getD default))[k]?=some v:=by exact F9) (hn:Nat.ble (d+1) B.n=true:=by exact F9) (hB:yR l.toArray listed wr q [t]=true:=by kernel_rfl):Gm P l.toArray (f+1) listed wr H0 G0 B ⟨e,D,H,G⟩ K:=eD q [t] ho (fG t k h1 hx ht hw hm hk hv) h hn hB
abbrev nP:=@Gm.lo
theorem ZT {s x:Operand} {T E bytes:Nat} {zs:List Value} {a ad:Option Addr} {c c2:Nat} {xs ys:List α} {junk:List Value} (t:Nat) (hT:tN P T E (A2.sz α)) (hE:B6 P E (A2.sz α) bytes zs) (hsrc:F6 H G ad ys)
 (h:∀ a' c' junk',A4 a' c' (xs++ys) junk'→Wl P ops rest B ⟨(d,.slice a' (xs++ys).length c') :: e,D,(t,a'.map (·.block),Row E (xs++ys) junk') :: H,G⟩ K) (hs:e.ev s=some (.slice a xs.length c):=by exact F9) (hx:e.ev x=some (.slice ad ys.length c2):=by exact F9)
 (ht:H.get t=some (a.map (·.block),Row E xs junk):=by exact F9) (ho:A4 a c xs junk:=by first | assumption | exact eG | exact fP uE) (hb:(xs.length+ys.length)*bytes≤140737488355328:=by first | omega | (simp only [aB,aY,cH,maxLen];omega)) (hl:xs.length+ys.length≤maxLen:=by first | omega | (simp only [aB,aY,cH,maxLen];omega)) (hn:Nat.ble (d+1) B.n=true:=by exact F9) :
 Wl P ops (⟨some d,.call { callee:=.builtin .append,args:=#[s,x],argTypes:=#[T,T] },ty,pos,after,none⟩ :: rest) B ⟨e,D,H,G⟩ K:=cP t hn hT hE hs hx ht ho hsrc hb hl h
abbrev kM:=@ZT
end
section
variable {P:Program} {B:Bs} {e:A9} {D:List Deferred} {H H0:Hp} {G G0:A3} {K:Act→World→Prop} {l:List Oper} {f:Nat} {listed:Array Bool} {wr:List (Nat×Nat)} {Q:Exit→Act→World→Prop} {ops:Array Oper} {p:Prop} [Decidable p]
theorem ZU {ι:Type} {I:ι→St} {φ:ι→Prop} {μ:ι→Nat} {m:Nat} (j:ι) (hφ:φ j) (hμ:μ j<m) (hI:I j=⟨(I j).e,D,(I j).H,G⟩:=by exact F9) (he:e.sub (I j).e:=by repeat (first | exact H2 | refine ⟨F9,?_⟩)) (hH:H.sub (I j).H:=by repeat (first | exact H2 | refine ⟨F9,?_⟩)):Ar (Exit.then (Dz B I φ μ m) Q) .normal B ⟨e,D,H,G⟩:=eX j hφ hμ hI he hH
abbrev cM:=@ZU
theorem Ar.mt {ι:Type} {I:ι→St} {φ:ι→Prop} (j:ι) (hφ:φ j) (hI:I j=⟨(I j).e,D,(I j).H,G⟩:=by exact F9) (he:e.sub (I j).e:=by repeat (first | exact H2 | refine ⟨F9,?_⟩)) (hH:H.sub (I j).H:=by repeat (first | exact H2 | refine ⟨F9,?_⟩)):Ar (Exit.then (SG B I φ) Q) .normal B ⟨e,D,H,G⟩:=pR j hφ hI he hH
abbrev mU:=@Ar.mt
theorem Wc.lp {ι:Type} {r:Option Nat} {c:Code} (I:ι→A9×Hp) (φ:ι→Prop) (μ:ι→Nat) (i0:ι) (h0:φ i0) (hb:∀ i,φ i→Wc r P c B ⟨(I i).1,D,(I i).2,G⟩ (Exit.then (Dz B (fun i=>⟨(I i).1,D,(I i).2,G⟩) φ μ (μ i)) Q)) (he:e.sub (I i0).1:=by repeat (first | exact H2 | refine ⟨F9,?_⟩)) (hH:H.sub (I i0).2:=by repeat (first | exact H2 | refine ⟨F9,?_⟩)) :
 Wc r P (.loop c) B ⟨e,D,H,G⟩ Q:=fX I φ μ i0 h0 he hH hb
abbrev iA:=@Wc.lp
theorem Wc.lg {ι:Type} {r:Option Nat} {c:Code} (I:ι→A9×Hp) (g:ι→A3) (φ:ι→Prop) (μ:ι→Nat) (i0:ι) (h0:φ i0) (hb:∀ i,φ i→Wc r P c B ⟨(I i).1,D,(I i).2,g i⟩ (Exit.then (Dz B (fun i=>⟨(I i).1,D,(I i).2,g i⟩) φ μ (μ i)) Q)) (hg:G=g i0:=by exact F9) (he:e.sub (I i0).1:=by repeat (first | exact H2 | refine ⟨F9,?_⟩)) (hH:H.sub (I i0).2:=by repeat (first | exact H2 | refine ⟨F9,?_⟩)) :
 Wc r P (.loop c) B ⟨e,D,H,G⟩ Q:=kE I g φ μ i0 h0 hg he hH hb
theorem WF (t:Nat) (h:Wl P ops l B ⟨(t,.bool true) :: e,D,H,G⟩ K) (he:e.get t=some (.bool (decide p)):=by exact F9) (hp:p:=by first | assumption | omega):Wl P ops l B ⟨e,D,H,G⟩ K:=kP t he hp h
theorem ZV (t:Nat) (h:Wl P ops l B ⟨(t,.bool false) :: e,D,H,G⟩ K) (he:e.get t=some (.bool (decide p)):=by exact F9) (hp:¬p:=by first | assumption | omega):Wl P ops l B ⟨e,D,H,G⟩ K:=oZ t he hp h
abbrev nF:=@ZV
theorem Wl.o1 {o:Oper} (i:Nat) (h:Wl P l.toArray [o] B ⟨e,D,H,G⟩ (Ed P l.toArray f (listed.setIfInBounds i true) wr H0 G0 K)) (hH:H.sub (H0.live wr listed):=by repeat (first | exact H2 | refine ⟨F9,?_⟩)) (hG:G0.le G:=by first | exact bN _ | repeat (first | assumption | refine aO ?_ sX)) (hr:Region.ready .any l.toArray listed=[i]:=by kernel_rfl) (ho:l[i]?=some o:=by exact F9) :
 Wl P l.toArray [] B ⟨e,D,H,G⟩ (Ed P l.toArray (f+1) listed wr H0 G0 K):=aT (bE i h hH hG hr ho)
abbrev cX:=@Wl.o1
theorem ZW {x:Exit} (h:Ar Q x B ⟨e,D,H,G⟩) (hr:Region.ready .any ops listed=[]:=by kernel_rfl) (hH:H.sub (H0.live wr listed):=by repeat (first | exact H2 | refine ⟨F9,?_⟩)) (hG:G0.le G:=by first | exact bN _ | repeat (first | assumption | refine aO ?_ sX)):Wl P ops [] B ⟨e,D,H,G⟩ (Ed P ops 0 listed wr H0 G0 (Q x)):=aT (cT h hr hH hG)
abbrev fJ:=@ZW
theorem ZX [Tab P] {r:Option Nat} {id:Nat} {e':A9} {ob:Prop} (ts:List Nat) (wr:List (Nat×Nat)) (hm:P.follows .mixedOrders=true) (steps:List (List Nat)) {f:Nat} (h:Gm P l.toArray f (Yo steps (Array.replicate l.length false)) wr (H.only ts) G B ⟨e',D,H,G⟩ (Q .normal)) (hf:l.length=SQ steps f:=by exact rfl)
 (hr:ZJ P B.n l (H.only ts) steps e=some (e',ob):=by exact rfl) (hob:ob:=by (repeat refine And.intro WD ?_);exact H2) (hB:It l.toArray wr steps (Array.replicate l.length false)=true:=by kernel_rfl) (hd:l.all wW=true:=by exact F9) :
 Wc r P (.region id l.toArray true) B ⟨e,D,H,G⟩ Q:=fL ts wr hm hd (by have:=Vp hr hob hB h;rw [←hf] at this;exact this)
abbrev dK:=@ZX
end
theorem D0 {P:Program} {G:A3} {f:FuncId} {fn:Func} {c:Code} {n:Nat} {args:List Value} {Hi:Hp} {post:Value→A3→Hp→Prop} (hf:P.funcs[f]?=some fn) (hn:fn.ntmps=n) (h:∀ w,Wc none P c ⟨n,w,Hi.has,G⟩ ⟨yD 0 args,[],Hi,G⟩ (CK P fn G Hi w post)) (hb:fn.body=some c:=by exact F9)
 (hl:Nat.ble args.length n=true:=by exact F9):Does P f args G Hi post:=gM hf hb hn hl h
section
variable {P:Program} {fn:Func} {G0:A3} {Hi:Hp} {w0:World} {post:Value→A3→Hp→Prop} {n:Nat} {e:A9} {H:Hp} {G:A3} {x:Exit} {t1 t2:Nat} {v1 v2:Value}
theorem Ar.p1 (L:List Nat) (hp:post v1 G (H.only L)) (hx:x=.normal∨x=.ret:=by exact .inr rfl) (hres:fn.results=#[.tmp t1]:=by exact F9) (h1:e.get t1=some v1:=by exact F9):Ar (CK P fn G0 Hi w0 post) x ⟨n,w0,Hi.has,G0⟩ ⟨e,[],H,G⟩:=
 cK hx hres (.tmp h1) (aU _ _) hp
abbrev nT:=@Ar.p1
theorem Ar.p2 (L:List Nat) (hp:post (.tuple #[v1,v2]) G (H.only L)) (hx:x=.normal∨x=.ret:=by exact .inr rfl) (hres:fn.results=#[.tmp t1,.tmp t2]:=by exact F9) (h1:e.get t1=some v1:=by exact F9) (h2:e.get t2=some v2:=by exact F9):Ar (CK P fn G0 Hi w0 post) x ⟨n,w0,Hi.has,G0⟩ ⟨e,[],H,G⟩:=
 iC hx hres (.tmp h1) (.tmp h2) (aU _ _) hp
abbrev pQ:=@Ar.p2
end
theorem Wc.i {P:Program} {r:Option Nat} {B:Bs} {S:St} {Q:Exit→Act→World→Prop} {c:Operand} {x y:Code} {p:Prop} [Decidable p] (ht:p→Wc r P x B S Q) (hf:¬p→Wc r P y B S Q) (hc:S.e.ev c=some (.bool (decide p)):=by exact F9):Wc r P (.cond c x y) B S Q:=oB hc ht hf
abbrev dB:=@Wc.i
end Go.Sl
namespace Go.Proofs.YtkdelpdbjfpgmaaGreatDoor.T
open Go Go.Sl
theorem u2:Tryz.prog.underlying 2=some (.int .i64):=sZ
theorem one3:wR Tryz.prog 3=true:=sZ
theorem size3:(Tryz.prog.info? 3).map (·.size)=some 1:=sZ
theorem zero3:B9 Tryz.prog 3 [.int .i64 0]:=iL sZ
theorem el3:B6 Tryz.prog 3 1 8 [.int .i64 0]:=jI sZ F9
theorem u3:Tryz.prog.underlying 3=some (.int .i64):=sZ
theorem one4:wR Tryz.prog 4=true:=sZ
theorem size4:(Tryz.prog.info? 4).map (·.size)=some 1:=sZ
theorem zero4:B9 Tryz.prog 4 [.bool false]:=iL sZ
theorem el4:B6 Tryz.prog 4 1 1 [.bool false]:=jI sZ F9
theorem u4:Tryz.prog.underlying 4=some .bool:=sZ
theorem one5:wR Tryz.prog 5=true:=sZ
theorem el5:B6 Tryz.prog 5 1 1 [.int .u8 0]:=jI sZ F9
theorem u5:Tryz.prog.underlying 5=some (.int .u8):=sZ
theorem u6:Tryz.prog.underlying 6=some (.int .u8):=sZ
theorem one9:wR Tryz.prog 9=true:=sZ
theorem el9:B6 Tryz.prog 9 1 16 [.string ByteArray.empty]:=jI sZ F9
theorem one22:wR Tryz.prog 22=true:=sZ
theorem sl22:tN Tryz.prog 22 52 2:=⟨by kernel_rfl,by kernel_rfl⟩
theorem one23:wR Tryz.prog 23=true:=sZ
theorem sl23:tN Tryz.prog 23 91 5:=⟨by kernel_rfl,by kernel_rfl⟩
theorem one24:wR Tryz.prog 24=true:=sZ
theorem sl24:tN Tryz.prog 24 3 1:=⟨by kernel_rfl,by kernel_rfl⟩
theorem agg26:zC Tryz.prog 26 4=true:=sZ
theorem size26:(Tryz.prog.info? 26).map (·.size)=some 4:=sZ
theorem zero26:B9 Tryz.prog 26 [.int .i64 0,.int .i64 0,.slice none 0 0,.slice none 0 0]:=iL sZ
theorem fa26_3:Bx Tryz.prog 26 3 3:=fun _ _ _=>sZ
theorem el26:B6 Tryz.prog 26 4 64 [.int .i64 0,.int .i64 0,.slice none 0 0,.slice none 0 0]:=jI sZ F9
theorem st26:B5 Tryz.prog 26 [(0,1),(1,1),(2,1),(3,1)] [.int .i64 0,.int .i64 0,.slice none 0 0,.slice none 0 0]:=iD (Tryz.prog.fieldsOf 26) sZ sZ sZ
theorem agg28:zC Tryz.prog 28 15=true:=sZ
theorem zero28:B9 Tryz.prog 28 [.int .i64 0,.int .i64 0,.slice none 0 0,.int .i64 0,.int .i64 0,.slice none 0 0,.slice none 0 0,.int .i64 0,.int .i64 0,.slice none 0 0,.slice none 0 0,.int .i64 0,.int .i64 0,.slice none 0 0,.slice none 0 0]:=iL sZ
theorem fa28_5:Bx Tryz.prog 28 5 11:=fun _ _ _=>sZ
theorem el28:B6 Tryz.prog 28 15 232 [.int .i64 0,.int .i64 0,.slice none 0 0,.int .i64 0,.int .i64 0,.slice none 0 0,.slice none 0 0,.int .i64 0,.int .i64 0,.slice none 0 0,.slice none 0 0,.int .i64 0,.int .i64 0,.slice none 0 0,.slice none 0 0]:=jI sZ F9
theorem st28:B5 Tryz.prog 28 [(0,1),(1,1),(2,1),(3,4),(7,4),(11,4)] [.int .i64 0,.int .i64 0,.slice none 0 0,.int .i64 0,.int .i64 0,.slice none 0 0,.slice none 0 0,.int .i64 0,.int .i64 0,.slice none 0 0,.slice none 0 0,.int .i64 0,.int .i64 0,.slice none 0 0,.slice none 0 0]:=iD (Tryz.prog.fieldsOf 28) sZ sZ sZ
theorem sl38:tN Tryz.prog 38 5 1:=⟨by kernel_rfl,by kernel_rfl⟩
theorem agg42:zC Tryz.prog 42 2=true:=sZ
theorem zero42:B9 Tryz.prog 42 [.int .i64 0,.int .i64 0]:=iL sZ
theorem st42:B5 Tryz.prog 42 [(0,1),(1,1)] [.int .i64 0,.int .i64 0]:=iD (Tryz.prog.fieldsOf 42) sZ sZ sZ
theorem ai42:Ch Tryz.prog 42 2:=⟨by kernel_rfl,by kernel_rfl,by kernel_rfl,by kernel_rfl⟩
theorem agg52:zC Tryz.prog 52 2=true:=sZ
theorem zero52:B9 Tryz.prog 52 [.int .i64 0,.int .i64 0]:=iL sZ
theorem fa52_0:Bx Tryz.prog 52 0 0:=fun _ _ _=>sZ
theorem fa52_1:Bx Tryz.prog 52 1 1:=fun _ _ _=>sZ
theorem el52:B6 Tryz.prog 52 2 16 [.int .i64 0,.int .i64 0]:=jI sZ F9
theorem st52:B5 Tryz.prog 52 [(0,1),(1,1)] [.int .i64 0,.int .i64 0]:=iD (Tryz.prog.fieldsOf 52) sZ sZ sZ
theorem ai52:Ch Tryz.prog 52 2:=⟨by kernel_rfl,by kernel_rfl,by kernel_rfl,by kernel_rfl⟩
theorem one63:wR Tryz.prog 63=true:=sZ
theorem zero63:B9 Tryz.prog 63 [.slice none 0 0]:=iL sZ
theorem sl63:tN Tryz.prog 63 28 15:=⟨by kernel_rfl,by kernel_rfl⟩
theorem one68:wR Tryz.prog 68=true:=sZ
theorem size68:(Tryz.prog.info? 68).map (·.size)=some 1:=sZ
theorem sl68:tN Tryz.prog 68 125 2:=⟨by kernel_rfl,by kernel_rfl⟩
theorem el68:B6 Tryz.prog 68 1 24 [.slice none 0 0]:=jI sZ F9
theorem sl74:tN Tryz.prog 74 26 4:=⟨by kernel_rfl,by kernel_rfl⟩
theorem one76:wR Tryz.prog 76=true:=sZ
theorem el76:B6 Tryz.prog 76 1 8 [.nilFunc]:=jI sZ F9
theorem one81:wR Tryz.prog 81=true:=sZ
theorem zero81:B9 Tryz.prog 81 [.slice none 0 0]:=iL sZ
theorem sl81:tN Tryz.prog 81 9 1:=⟨by kernel_rfl,by kernel_rfl⟩
theorem one85:wR Tryz.prog 85=true:=sZ
theorem el85:B6 Tryz.prog 85 1 8 [.pointer none]:=jI sZ F9
theorem sl86:tN Tryz.prog 86 85 1:=⟨by kernel_rfl,by kernel_rfl⟩
theorem sl87:tN Tryz.prog 87 76 1:=⟨by kernel_rfl,by kernel_rfl⟩
theorem agg91:zC Tryz.prog 91 5=true:=sZ
theorem zero91:B9 Tryz.prog 91 [.int .i64 0,.int .i64 0,.int .i64 0,.int .i64 0,.int .i64 0]:=iL sZ
theorem el91:B6 Tryz.prog 91 5 40 [.int .i64 0,.int .i64 0,.int .i64 0,.int .i64 0,.int .i64 0]:=jI sZ F9
theorem st91:B5 Tryz.prog 91 [(0,1),(1,1),(2,1),(3,1),(4,1)] [.int .i64 0,.int .i64 0,.int .i64 0,.int .i64 0,.int .i64 0]:=iD (Tryz.prog.fieldsOf 91) sZ sZ sZ
theorem ai91:Ch Tryz.prog 91 5:=⟨by kernel_rfl,by kernel_rfl,by kernel_rfl,by kernel_rfl⟩
theorem sl96:tN Tryz.prog 96 100 5:=⟨by kernel_rfl,by kernel_rfl⟩
theorem agg100:zC Tryz.prog 100 5=true:=sZ
theorem zero100:B9 Tryz.prog 100 [.int .i64 0,.int .i64 0,.slice none 0 0,.slice none 0 0,.nilFunc]:=iL sZ
theorem el100:B6 Tryz.prog 100 5 72 [.int .i64 0,.int .i64 0,.slice none 0 0,.slice none 0 0,.nilFunc]:=jI sZ F9
theorem st100:B5 Tryz.prog 100 [(0,4),(4,1)] [.int .i64 0,.int .i64 0,.slice none 0 0,.slice none 0 0,.nilFunc]:=iD (Tryz.prog.fieldsOf 100) sZ sZ sZ
theorem one110:wR Tryz.prog 110=true:=sZ
theorem zero110:B9 Tryz.prog 110 [.nilFunc]:=iL sZ
theorem agg119:zC Tryz.prog 119 3=true:=sZ
theorem zero119:B9 Tryz.prog 119 [.pointer none,.pointer none,.pointer none]:=iL sZ
theorem ar119:C9 Tryz.prog 119 3 1 [.pointer none,.pointer none,.pointer none]:=C9.of 85 sZ sZ sZ
theorem sl123:tN Tryz.prog 123 215 1:=⟨by kernel_rfl,by kernel_rfl⟩
theorem agg125:zC Tryz.prog 125 2=true:=sZ
theorem size125:(Tryz.prog.info? 125).map (·.size)=some 2:=sZ
theorem zero125:B9 Tryz.prog 125 [.bool false,.slice none 0 0]:=iL sZ
theorem el125:B6 Tryz.prog 125 2 32 [.bool false,.slice none 0 0]:=jI sZ F9
theorem st125:B5 Tryz.prog 125 [(0,1),(1,1)] [.bool false,.slice none 0 0]:=iD (Tryz.prog.fieldsOf 125) sZ sZ sZ
theorem zero138:B9 Tryz.prog 138 [.slice none 0 0]:=iL sZ
theorem sl138:tN Tryz.prog 138 4 1:=⟨by kernel_rfl,by kernel_rfl⟩
theorem st140:B5 Tryz.prog 140 [(0,1),(1,1)] [.map none,.slice none 0 0]:=iD (Tryz.prog.fieldsOf 140) sZ sZ sZ
theorem st143:B5 Tryz.prog 143 [(0,4),(4,1),(5,1),(6,1),(7,1),(8,1),(9,1)] [.int .i64 0,.int .i64 0,.slice none 0 0,.slice none 0 0,.slice none 0 0,.slice none 0 0,.slice none 0 0,.slice none 0 0,.slice none 0 0,.slice none 0 0]:=iD (Tryz.prog.fieldsOf 143) sZ sZ sZ
theorem ar145:C9 Tryz.prog 145 2 1 [.int .i64 0,.int .i64 0]:=C9.of 3 sZ sZ sZ
theorem one150:wR Tryz.prog 150=true:=sZ
theorem zero150:B9 Tryz.prog 150 [.nilFunc]:=iL sZ
theorem agg158:zC Tryz.prog 158 2=true:=sZ
theorem zero158:B9 Tryz.prog 158 [.string ByteArray.empty,.nilFunc]:=iL sZ
theorem el158:B6 Tryz.prog 158 2 24 [.string ByteArray.empty,.nilFunc]:=jI sZ F9
theorem st158:B5 Tryz.prog 158 [(0,1),(1,1)] [.string ByteArray.empty,.nilFunc]:=iD (Tryz.prog.fieldsOf 158) sZ sZ sZ
theorem sl159:tN Tryz.prog 159 158 2:=⟨by kernel_rfl,by kernel_rfl⟩
theorem st168:B5 Tryz.prog 168 [(0,1),(1,1),(2,1),(3,1)] [.slice none 0 0,.map none,.map none,.int .i64 0]:=iD (Tryz.prog.fieldsOf 168) sZ sZ sZ
theorem one171:wR Tryz.prog 171=true:=sZ
theorem zero171:B9 Tryz.prog 171 [.nilFunc]:=iL sZ
theorem st176:B5 Tryz.prog 176 [(0,1),(1,1),(2,1)] [.int .i64 0,.int .i64 0,.slice none 0 0]:=iD (Tryz.prog.fieldsOf 176) sZ sZ sZ
theorem st198:B5 Tryz.prog 198 [(0,1),(1,1),(2,1)] [.slice none 0 0,.int .i64 0,.bool false]:=iD (Tryz.prog.fieldsOf 198) sZ sZ sZ
theorem u199:Tryz.prog.underlying 199=some (.int .u64):=sZ
theorem one203:wR Tryz.prog 203=true:=sZ
theorem u214:Tryz.prog.underlying 214=some (.int .u64):=sZ
theorem one215:wR Tryz.prog 215=true:=sZ
theorem size215:(Tryz.prog.info? 215).map (·.size)=some 1:=sZ
theorem el215:B6 Tryz.prog 215 1 4 [.int .u32 0]:=jI sZ F9
theorem u215:Tryz.prog.underlying 215=some (.int .u32):=sZ
theorem agg230:zC Tryz.prog 230 4=true:=sZ
theorem zero230:B9 Tryz.prog 230 [.int .i64 0,.int .i64 0,.int .i64 0,.int .i64 0]:=iL sZ
theorem st230:B5 Tryz.prog 230 [(0,1),(1,1),(2,1),(3,1)] [.int .i64 0,.int .i64 0,.int .i64 0,.int .i64 0]:=iD (Tryz.prog.fieldsOf 230) sZ sZ sZ
theorem ZY:Ch Tryz.prog 230 4:=⟨by kernel_rfl,by kernel_rfl,by kernel_rfl,by kernel_rfl⟩
theorem sl237:tN Tryz.prog 237 68 1:=⟨by kernel_rfl,by kernel_rfl⟩
theorem u253:Tryz.prog.underlying 253=some (.int .i8):=sZ
theorem fa267_2:Bx Tryz.prog 267 2 2:=fun _ _ _=>sZ
theorem st267:B5 Tryz.prog 267 [(0,1),(1,1),(2,1)] [.int .i64 0,.slice none 0 0,.slice none 0 0]:=iD (Tryz.prog.fieldsOf 267) sZ sZ sZ
theorem agg281:zC Tryz.prog 281 5=true:=sZ
theorem zero281:B9 Tryz.prog 281 [.nilFunc,.nilFunc,.nilFunc,.nilFunc,.nilFunc]:=iL sZ
theorem st281:B5 Tryz.prog 281 [(0,1),(1,1),(2,1),(3,1),(4,1)] [.nilFunc,.nilFunc,.nilFunc,.nilFunc,.nilFunc]:=iD (Tryz.prog.fieldsOf 281) sZ sZ sZ
theorem u292:Tryz.prog.underlying 292=some (.int .i16):=sZ
theorem mp137:F7 Tryz.prog 137 3 Int:=⟨⟨3,by kernel_rfl,fun _=>by kernel_rfl⟩,F4.int u3⟩
theorem mp166:F7 Tryz.prog 166 230 K4:=⟨⟨3,by kernel_rfl,fun _=>by kernel_rfl⟩,F4.k4 ZY⟩
theorem fn41:tZ Tryz.prog 41:=⟨Tryz.f41,Tryz.func41,F9,by kernel_rfl⟩
theorem fn46:tZ Tryz.prog 46:=⟨Tryz.f46,Tryz.func46,F9,by kernel_rfl⟩
theorem fn47:tZ Tryz.prog 47:=⟨Tryz.f47,Tryz.func47,F9,by kernel_rfl⟩
theorem fn48:tZ Tryz.prog 48:=⟨Tryz.f48,Tryz.func48,F9,by kernel_rfl⟩
theorem fn49:tZ Tryz.prog 49:=⟨Tryz.f49,Tryz.func49,F9,by kernel_rfl⟩
theorem fn50:tZ Tryz.prog 50:=⟨Tryz.f50,Tryz.func50,F9,by kernel_rfl⟩
theorem fn65:tZ Tryz.prog 65:=⟨Tryz.f65,Tryz.func65,F9,by kernel_rfl⟩
theorem fn72:tZ Tryz.prog 72:=⟨Tryz.f72,Tryz.func72,F9,by kernel_rfl⟩
theorem fn75:tZ Tryz.prog 75:=⟨Tryz.f75,Tryz.func75,F9,by kernel_rfl⟩
theorem fn79:tZ Tryz.prog 79:=⟨Tryz.f79,Tryz.func79,F9,by kernel_rfl⟩
theorem fn86:tZ Tryz.prog 86:=⟨Tryz.f86,Tryz.func86,F9,by kernel_rfl⟩
theorem fn88:tZ Tryz.prog 88:=⟨Tryz.f88,Tryz.func88,F9,by kernel_rfl⟩
theorem fn89:tZ Tryz.prog 89:=⟨Tryz.f89,Tryz.func89,F9,by kernel_rfl⟩
theorem fn91:tZ Tryz.prog 91:=⟨Tryz.f91,Tryz.func91,F9,by kernel_rfl⟩
theorem fn92:tZ Tryz.prog 92:=⟨Tryz.f92,Tryz.func92,F9,by kernel_rfl⟩
theorem fn93:tZ Tryz.prog 93:=⟨Tryz.f93,Tryz.func93,F9,by kernel_rfl⟩
theorem fn98:tZ Tryz.prog 98:=⟨Tryz.f98,Tryz.func98,F9,by kernel_rfl⟩
theorem fn99:tZ Tryz.prog 99:=⟨Tryz.f99,Tryz.func99,F9,by kernel_rfl⟩
theorem fn100:tZ Tryz.prog 100:=⟨Tryz.f100,Tryz.func100,F9,by kernel_rfl⟩
theorem fn105:tZ Tryz.prog 105:=⟨Tryz.f105,Tryz.func105,F9,by kernel_rfl⟩
theorem fn107:tZ Tryz.prog 107:=⟨Tryz.f107,Tryz.func107,F9,by kernel_rfl⟩
theorem fn109:tZ Tryz.prog 109:=⟨Tryz.f109,Tryz.func109,F9,by kernel_rfl⟩
theorem fn110:tZ Tryz.prog 110:=⟨Tryz.f110,Tryz.func110,F9,by kernel_rfl⟩
theorem fn126:tZ Tryz.prog 126:=⟨Tryz.f126,Tryz.func126,F9,by kernel_rfl⟩
theorem fn138:tZ Tryz.prog 138:=⟨Tryz.f138,Tryz.func138,F9,by kernel_rfl⟩
theorem fn144:tZ Tryz.prog 144:=⟨Tryz.f144,Tryz.func144,F9,by kernel_rfl⟩
theorem fn145:tZ Tryz.prog 145:=⟨Tryz.f145,Tryz.func145,F9,by kernel_rfl⟩
theorem fn146:tZ Tryz.prog 146:=⟨Tryz.f146,Tryz.func146,F9,by kernel_rfl⟩
theorem fn147:tZ Tryz.prog 147:=⟨Tryz.f147,Tryz.func147,F9,by kernel_rfl⟩
theorem fn151:tZ Tryz.prog 151:=⟨Tryz.f151,Tryz.func151,F9,by kernel_rfl⟩
theorem fn170:tZ Tryz.prog 170:=⟨Tryz.f170,Tryz.func170,F9,by kernel_rfl⟩
theorem fn171:tZ Tryz.prog 171:=⟨Tryz.f171,Tryz.func171,F9,by kernel_rfl⟩
theorem fn172:tZ Tryz.prog 172:=⟨Tryz.f172,Tryz.func172,F9,by kernel_rfl⟩
theorem fn173:tZ Tryz.prog 173:=⟨Tryz.f173,Tryz.func173,F9,by kernel_rfl⟩
theorem fn176:tZ Tryz.prog 176:=⟨Tryz.f176,Tryz.func176,F9,by kernel_rfl⟩
theorem fn177:tZ Tryz.prog 177:=⟨Tryz.f177,Tryz.func177,F9,by kernel_rfl⟩
theorem fn188:tZ Tryz.prog 188:=⟨Tryz.f188,Tryz.func188,F9,by kernel_rfl⟩
theorem fn189:tZ Tryz.prog 189:=⟨Tryz.f189,Tryz.func189,F9,by kernel_rfl⟩
theorem fn190:tZ Tryz.prog 190:=⟨Tryz.f190,Tryz.func190,F9,by kernel_rfl⟩
theorem fn191:tZ Tryz.prog 191:=⟨Tryz.f191,Tryz.func191,F9,by kernel_rfl⟩
theorem fn192:tZ Tryz.prog 192:=⟨Tryz.f192,Tryz.func192,F9,by kernel_rfl⟩
theorem fn193:tZ Tryz.prog 193:=⟨Tryz.f193,Tryz.func193,F9,by kernel_rfl⟩
theorem fn194:tZ Tryz.prog 194:=⟨Tryz.f194,Tryz.func194,F9,by kernel_rfl⟩
theorem fn195:tZ Tryz.prog 195:=⟨Tryz.f195,Tryz.func195,F9,by kernel_rfl⟩
theorem fn196:tZ Tryz.prog 196:=⟨Tryz.f196,Tryz.func196,F9,by kernel_rfl⟩
theorem fn197:tZ Tryz.prog 197:=⟨Tryz.f197,Tryz.func197,F9,by kernel_rfl⟩
theorem fn199:tZ Tryz.prog 199:=⟨Tryz.f199,Tryz.func199,F9,by kernel_rfl⟩
theorem fn205:tZ Tryz.prog 205:=⟨Tryz.f205,Tryz.func205,F9,by kernel_rfl⟩
theorem fn217:tZ Tryz.prog 217:=⟨Tryz.f217,Tryz.func217,F9,by kernel_rfl⟩
theorem fn218:tZ Tryz.prog 218:=⟨Tryz.f218,Tryz.func218,F9,by kernel_rfl⟩
theorem fn219:tZ Tryz.prog 219:=⟨Tryz.f219,Tryz.func219,F9,by kernel_rfl⟩
theorem fn220:tZ Tryz.prog 220:=⟨Tryz.f220,Tryz.func220,F9,by kernel_rfl⟩
theorem fn224:tZ Tryz.prog 224:=⟨Tryz.f224,Tryz.func224,F9,by kernel_rfl⟩
theorem fn227:tZ Tryz.prog 227:=⟨Tryz.f227,Tryz.func227,F9,by kernel_rfl⟩
theorem fn228:tZ Tryz.prog 228:=⟨Tryz.f228,Tryz.func228,F9,by kernel_rfl⟩
theorem fn229:tZ Tryz.prog 229:=⟨Tryz.f229,Tryz.func229,F9,by kernel_rfl⟩
theorem fn230:tZ Tryz.prog 230:=⟨Tryz.f230,Tryz.func230,F9,by kernel_rfl⟩
theorem fn231:tZ Tryz.prog 231:=⟨Tryz.f231,Tryz.func231,F9,by kernel_rfl⟩
theorem fn232:tZ Tryz.prog 232:=⟨Tryz.f232,Tryz.func232,F9,by kernel_rfl⟩
theorem fn233:tZ Tryz.prog 233:=⟨Tryz.f233,Tryz.func233,F9,by kernel_rfl⟩
theorem fn234:tZ Tryz.prog 234:=⟨Tryz.f234,Tryz.func234,F9,by kernel_rfl⟩
theorem fn236:tZ Tryz.prog 236:=⟨Tryz.f236,Tryz.func236,F9,by kernel_rfl⟩
theorem fn237:tZ Tryz.prog 237:=⟨Tryz.f237,Tryz.func237,F9,by kernel_rfl⟩
theorem fn239:tZ Tryz.prog 239:=⟨Tryz.f239,Tryz.func239,F9,by kernel_rfl⟩
theorem fn241:tZ Tryz.prog 241:=⟨Tryz.f241,Tryz.func241,F9,by kernel_rfl⟩
theorem fn242:tZ Tryz.prog 242:=⟨Tryz.f242,Tryz.func242,F9,by kernel_rfl⟩
theorem fn265:tZ Tryz.prog 265:=⟨Tryz.f265,Tryz.func265,F9,by kernel_rfl⟩
theorem fn276:tZ Tryz.prog 276:=⟨Tryz.f276,Tryz.func276,F9,by kernel_rfl⟩
theorem mixed:Tryz.prog.follows .mixedOrders=true:=sZ
end Go.Proofs.YtkdelpdbjfpgmaaGreatDoor.T
namespace Go.Proofs.YtkdelpdbjfpgmaaGreatDoor
open Go Go.Sl
instance:Tab Tryz.prog where
 fn:=[10,13,15,17,20,21,22,32,33,34,36,39,40,41,42,43,44,45,46,50,51,52,53,54,55,56,60,64,66,67,68,72,73,75,78,80,81,82,83,84,85,86,87,90,94,95,96,97,101,102,103,104,105,106,108,111,112,123,124,125,126,128,129,133,134,137,138,139,140,141,142,143,144,148,149,150,152,153,154,155,156,157,158,159,160,161,162,169,174,176,177,179,180,181,182,183,184,185,186,198,200,201,202,203,204,206,207,208,209,221,222,223,227,235,238,240,243,247,248,249,250,251,252,264,265,266,269]
 fnP:=.of sZ
 one:=[3,4,9,22,23,24,32,38,63,68,76,81,98,110,123,128,130,137,138,150,166,171,272,277,278,279]
 agg:=[(26,4),(28,15),(42,2),(52,2),(91,5),(100,5),(119,3),(125,2),(158,2),(230,4),(281,5)]
 sl:=[22,23,24,38,68,81,86,87,96,123,138,159,237]
 fa:=[(26,0,0),(26,1,1),(26,2,2),(26,3,3),(28,0,0),(28,1,1),(28,2,2),(28,3,3),(28,4,7),(28,5,11),(42,0,0),(52,0,0),(52,1,1),(91,0,0),(91,1,1),(91,2,2),(91,3,3),(91,4,4),(100,0,0),(100,1,4),(125,0,0),(125,1,1),(140,0,0),(140,1,1),(143,1,4),(143,2,5),(143,3,6),(143,4,7),(143,5,8),(143,6,9),(158,0,0),(158,1,1),(168,0,0),(168,1,1),(168,2,2),(168,3,3),(198,0,0),(198,1,1),(198,2,2),(230,1,1),(230,2,2),(267,0,0),(267,1,1),(267,2,2),(281,0,0),(281,1,1),(281,2,2),(281,3,3),(281,4,4)]
 oneP:=.of sZ
 aggP:=.of sZ
 slP:=.of sZ
 faP:=⟨fun _ _ _=>by kernel_rfl,fun _ _ _=>by kernel_rfl,fun _ _ _=>by kernel_rfl,fun _ _ _=>by kernel_rfl,fun _ _ _=>by kernel_rfl,fun _ _ _=>by kernel_rfl,fun _ _ _=>by kernel_rfl,fun _ _ _=>by kernel_rfl,fun _ _ _=>by kernel_rfl,fun _ _ _=>by kernel_rfl,fun _ _ _=>by kernel_rfl,fun _ _ _=>by kernel_rfl,fun _ _ _=>by kernel_rfl,fun _ _ _=>by kernel_rfl,fun _ _ _=>by kernel_rfl,fun _ _ _=>by kernel_rfl,fun _ _ _=>by kernel_rfl,fun _ _ _=>by kernel_rfl,fun _ _ _=>by kernel_rfl,fun _ _ _=>by kernel_rfl,fun _ _ _=>by kernel_rfl,fun _ _ _=>by kernel_rfl,fun _ _ _=>by kernel_rfl,fun _ _ _=>by kernel_rfl,fun _ _ _=>by kernel_rfl,fun _ _ _=>by kernel_rfl,fun _ _ _=>by kernel_rfl,fun _ _ _=>by kernel_rfl,fun _ _ _=>by kernel_rfl,fun _ _ _=>by kernel_rfl,fun _ _ _=>by kernel_rfl,fun _ _ _=>by kernel_rfl,fun _ _ _=>by kernel_rfl,fun _ _ _=>by kernel_rfl,fun _ _ _=>by kernel_rfl,fun _ _ _=>by kernel_rfl,fun _ _ _=>by kernel_rfl,fun _ _ _=>by kernel_rfl,fun _ _ _=>by kernel_rfl,fun _ _ _=>by kernel_rfl,fun _ _ _=>by kernel_rfl,fun _ _ _=>by kernel_rfl,fun _ _ _=>by kernel_rfl,fun _ _ _=>by kernel_rfl,fun _ _ _=>by kernel_rfl,fun _ _ _=>by kernel_rfl,fun _ _ _=>by kernel_rfl,fun _ _ _=>by kernel_rfl,fun _ _ _=>by kernel_rfl,H2⟩
end Go.Proofs.YtkdelpdbjfpgmaaGreatDoor
namespace Go.Proofs.YtkdelpdbjfpgmaaGreatDoor.T
open Go Go.Sl
theorem ar296:C9 Tryz.prog 296 64 1 (List.replicate 64 (.int .u8 0)):=C9.of 5 sZ sZ sZ
end Go.Proofs.YtkdelpdbjfpgmaaGreatDoor.T
namespace Go.Proofs.YtkdelpdbjfpgmaaGreatDoor
open Go Go.Sl
def wK (c:Int):Int:=if c=2 then 1 else if c=4 then 2 else if c=8 then 3 else if c=16 then 4 else if c=32 then 5 else if c=64 then 6 else if c=128 then 7 else if c=256 then 8 else if c=512 then 9 else 0
def EX:List Value:=[0,1,56,2,57,49,28,3,61,58,42,50,38,29,17,4,62,47,59,36,45,43,51,22,53,39,33,30,24,18,12,5,63,55,48,27,60,41,37,16,46,35,44,21,52,32,23,11,54,26,40,15,34,20,31,10,25,14,19,9,13,8,7,6].map fun n=>.int .u8 n
def TabOk (G:A3):Prop:=∀ k v,EX[k]?=some v→G.cell 1 k=some v
theorem TabOk.up {G G':A3} (h:TabOk G) (hl:G.le G'):TabOk G':=fun k v hv=>Mj hl (h k v hv)
theorem TabOk.cell {G:A3} (h:TabOk G) (k:Nat) (v:Value) (hv:EX[k]?=some v):G.cell 1 k=some v:=h k v hv
theorem Cp {c:Int} (h:wK c≠0):c=2∨c=4∨c=8∨c=16∨c=32∨c=64∨c=128∨c=256∨c=512:=by
 unfold wK at h
 repeat' split at h
 all_goals omega
theorem MF:∀ k:Fin 511,(bits .and .i64 ((k.val:Int)+2) ((k.val:Int)+2 - 1)=0)↔wK ((k.val:Int)+2)≠0:=Mh
theorem Fm {c:Int} (h:2≤c∧c≤512):bits .and .i64 c (c - 1)=0↔wK c≠0:=by
 have:=MF ⟨(c - 2).toNat,by omega⟩;have e:(((c - 2).toNat:Nat):Int)+2=c:=sW;simpa only [e] using this
theorem Kx {c:Int} (h:c<2):wK c=0:=by
 unfold wK
 repeat' split
 all_goals omega
theorem fq (G:A3) (hT:TabOk G) (c:Int) (h:wK c≠0):Does Tryz.prog 188 [.int .u64 c] G [] (fun v G' Ho=>v=.int .i64 (wK c)∧G'=G∧Ho=[]):=by
 refine D0 Tryz.func188 Tryz.ntmps188 fun w=>?_;rcases Cp h with rfl | rfl | rfl | rfl | rfl | rfl | rfl | rfl | rfl
 · have hcell:=hT.cell 1 (.int .u8 1) F9;refine dN ?_;refine dL F9 ?_;refine aC 1 [] ?_;refine eT ?_;refine cN ?_;refine dN ?_;refine dN ?_;refine dL F9 ?_;refine aC 2 [] ?_;refine eT ?_;refine cN ?_;refine oE F9 uI ?_;refine kN ?_;refine cN ?_;refine dN ?_;refine dL F9 ?_;refine aC 2 [] ?_;refine aQ (oV F9) ?_;refine aQ (lS F9 F9) ?_;refine aQ (mO F9 F9) ?_;refine aQ (nW F9 F9 sW) ?_;refine fR 10 F9 (show _=Value.int .u64 1 by kernel_rfl) ?_;refine aQ (jR 1 T.ar296 F9 F9 F9 F9) ?_;refine aQ (bV T.one5 F9 sX) ?_;refine aQ (cR F9 T.u3 F9) ?_;refine aC 1 [] ?_;refine eT ?_;refine cN ?_;refine nH ?_;refine dA ?_;exact ⟨F9,F9,F9⟩
 · have hcell:=hT.cell 3 (.int .u8 2) F9;refine dN ?_;refine dL F9 ?_;refine aC 1 [] ?_;refine eT ?_;refine cN ?_;refine dN ?_;refine dN ?_;refine dL F9 ?_;refine aC 2 [] ?_;refine eT ?_;refine cN ?_;refine oE F9 uI ?_;refine kN ?_;refine cN ?_;refine dN ?_;refine dL F9 ?_;refine aC 2 [] ?_;refine aQ (oV F9) ?_;refine aQ (lS F9 F9) ?_;refine aQ (mO F9 F9) ?_;refine aQ (nW F9 F9 sW) ?_;refine fR 10 F9 (show _=Value.int .u64 3 by kernel_rfl) ?_;refine aQ (jR 3 T.ar296 F9 F9 F9 F9) ?_;refine aQ (bV T.one5 F9 sX) ?_;refine aQ (cR F9 T.u3 F9) ?_;refine aC 1 [] ?_;refine eT ?_;refine cN ?_;refine nH ?_;refine dA ?_;exact ⟨F9,F9,F9⟩
 · have hcell:=hT.cell 7 (.int .u8 3) F9;refine dN ?_;refine dL F9 ?_;refine aC 1 [] ?_;refine eT ?_;refine cN ?_;refine dN ?_;refine dN ?_;refine dL F9 ?_;refine aC 2 [] ?_;refine eT ?_;refine cN ?_;refine oE F9 uI ?_;refine kN ?_;refine cN ?_;refine dN ?_;refine dL F9 ?_;refine aC 2 [] ?_;refine aQ (oV F9) ?_;refine aQ (lS F9 F9) ?_;refine aQ (mO F9 F9) ?_;refine aQ (nW F9 F9 sW) ?_;refine fR 10 F9 (show _=Value.int .u64 7 by kernel_rfl) ?_;refine aQ (jR 7 T.ar296 F9 F9 F9 F9) ?_;refine aQ (bV T.one5 F9 sX) ?_;refine aQ (cR F9 T.u3 F9) ?_;refine aC 1 [] ?_;refine eT ?_;refine cN ?_;refine nH ?_;refine dA ?_;exact ⟨F9,F9,F9⟩
 · have hcell:=hT.cell 15 (.int .u8 4) F9;refine dN ?_;refine dL F9 ?_;refine aC 1 [] ?_;refine eT ?_;refine cN ?_;refine dN ?_;refine dN ?_;refine dL F9 ?_;refine aC 2 [] ?_;refine eT ?_;refine cN ?_;refine oE F9 uI ?_;refine kN ?_;refine cN ?_;refine dN ?_;refine dL F9 ?_;refine aC 2 [] ?_;refine aQ (oV F9) ?_;refine aQ (lS F9 F9) ?_;refine aQ (mO F9 F9) ?_;refine aQ (nW F9 F9 sW) ?_;refine fR 10 F9 (show _=Value.int .u64 15 by kernel_rfl) ?_;refine aQ (jR 15 T.ar296 F9 F9 F9 F9) ?_;refine aQ (bV T.one5 F9 sX) ?_;refine aQ (cR F9 T.u3 F9) ?_;refine aC 1 [] ?_;refine eT ?_;refine cN ?_;refine nH ?_;refine dA ?_;exact ⟨F9,F9,F9⟩
 · have hcell:=hT.cell 31 (.int .u8 5) F9;refine dN ?_;refine dL F9 ?_;refine aC 1 [] ?_;refine eT ?_;refine cN ?_;refine dN ?_;refine dN ?_;refine dL F9 ?_;refine aC 2 [] ?_;refine eT ?_;refine cN ?_;refine oE F9 uI ?_;refine kN ?_;refine cN ?_;refine dN ?_;refine dL F9 ?_;refine aC 2 [] ?_;refine aQ (oV F9) ?_;refine aQ (lS F9 F9) ?_;refine aQ (mO F9 F9) ?_;refine aQ (nW F9 F9 sW) ?_;refine fR 10 F9 (show _=Value.int .u64 31 by kernel_rfl) ?_;refine aQ (jR 31 T.ar296 F9 F9 F9 F9) ?_;refine aQ (bV T.one5 F9 sX) ?_;refine aQ (cR F9 T.u3 F9) ?_;refine aC 1 [] ?_;refine eT ?_;refine cN ?_;refine nH ?_;refine dA ?_;exact ⟨F9,F9,F9⟩
 · have hcell:=hT.cell 63 (.int .u8 6) F9;refine dN ?_;refine dL F9 ?_;refine aC 1 [] ?_;refine eT ?_;refine cN ?_;refine dN ?_;refine dN ?_;refine dL F9 ?_;refine aC 2 [] ?_;refine eT ?_;refine cN ?_;refine oE F9 uI ?_;refine kN ?_;refine cN ?_;refine dN ?_;refine dL F9 ?_;refine aC 2 [] ?_;refine aQ (oV F9) ?_;refine aQ (lS F9 F9) ?_;refine aQ (mO F9 F9) ?_;refine aQ (nW F9 F9 sW) ?_;refine fR 10 F9 (show _=Value.int .u64 63 by kernel_rfl) ?_;refine aQ (jR 63 T.ar296 F9 F9 F9 F9) ?_;refine aQ (bV T.one5 F9 sX) ?_;refine aQ (cR F9 T.u3 F9) ?_;refine aC 1 [] ?_;refine eT ?_;refine cN ?_;refine nH ?_;refine dA ?_;exact ⟨F9,F9,F9⟩
 · have hcell:=hT.cell 62 (.int .u8 7) F9;refine dN ?_;refine dL F9 ?_;refine aC 1 [] ?_;refine eT ?_;refine cN ?_;refine dN ?_;refine dN ?_;refine dL F9 ?_;refine aC 2 [] ?_;refine eT ?_;refine cN ?_;refine oE F9 uI ?_;refine kN ?_;refine cN ?_;refine dN ?_;refine dL F9 ?_;refine aC 2 [] ?_;refine aQ (oV F9) ?_;refine aQ (lS F9 F9) ?_;refine aQ (mO F9 F9) ?_;refine aQ (nW F9 F9 sW) ?_;refine fR 10 F9 (show _=Value.int .u64 62 by kernel_rfl) ?_;refine aQ (jR 62 T.ar296 F9 F9 F9 F9) ?_;refine aQ (bV T.one5 F9 sX) ?_;refine aQ (cR F9 T.u3 F9) ?_;refine aC 1 [] ?_;refine eT ?_;refine cN ?_;refine nH ?_;refine dA ?_;exact ⟨F9,F9,F9⟩
 · have hcell:=hT.cell 61 (.int .u8 8) F9;refine dN ?_;refine dL F9 ?_;refine aC 1 [] ?_;refine eT ?_;refine cN ?_;refine dN ?_;refine dN ?_;refine dL F9 ?_;refine aC 2 [] ?_;refine eT ?_;refine cN ?_;refine oE F9 uI ?_;refine kN ?_;refine cN ?_;refine dN ?_;refine dL F9 ?_;refine aC 2 [] ?_;refine aQ (oV F9) ?_;refine aQ (lS F9 F9) ?_;refine aQ (mO F9 F9) ?_;refine aQ (nW F9 F9 sW) ?_;refine fR 10 F9 (show _=Value.int .u64 61 by kernel_rfl) ?_;refine aQ (jR 61 T.ar296 F9 F9 F9 F9) ?_;refine aQ (bV T.one5 F9 sX) ?_;refine aQ (cR F9 T.u3 F9) ?_;refine aC 1 [] ?_;refine eT ?_;refine cN ?_;refine nH ?_;refine dA ?_;exact ⟨F9,F9,F9⟩
 have hcell:=hT.cell 59 (.int .u8 9) F9;refine dN ?_;refine dL F9 ?_;refine aC 1 [] ?_;refine eT ?_;refine cN ?_;refine dN ?_;refine dN ?_;refine dL F9 ?_;refine aC 2 [] ?_;refine eT ?_;refine cN ?_;refine oE F9 uI ?_;refine kN ?_;refine cN ?_;refine dN ?_;refine dL F9 ?_;refine aC 2 [] ?_;refine aQ (oV F9) ?_;refine aQ (lS F9 F9) ?_;refine aQ (mO F9 F9) ?_;refine aQ (nW F9 F9 sW) ?_;refine fR 10 F9 (show _=Value.int .u64 59 by kernel_rfl) ?_;refine aQ (jR 59 T.ar296 F9 F9 F9 F9) ?_;refine aQ (bV T.one5 F9 sX) ?_;refine aQ (cR F9 T.u3 F9) ?_;refine aC 1 [] ?_;refine eT ?_;refine cN ?_;refine nH ?_;refine dA ?_;exact ⟨F9,F9,F9⟩
theorem ZZ (G:A3) (hT:TabOk G) (c:Int) (h:wK c≠0):Does Tryz.prog 143 [.int .u64 c] G [] (fun v G' Ho=>v=.int .i64 (wK c)∧G'=G∧Ho=[]):=by
 refine D0 Tryz.func143 Tryz.ntmps143 fun w=>?_;refine dN ?_;refine dL F9 ?_;refine aC 1 [] ?_;refine eT ?_;refine cN ?_;refine dN ?_;refine Xz F9 ?_;refine kN ?_;refine cN ?_;refine dN ?_;refine dL F9 ?_;refine aC 1 [] ?_;refine mW F9 T.fn188 F9 (fq _ sX _ sX) ?_;refine aC 1 [] ?_;refine eT ?_;refine cN ?_;refine nH ?_;refine dA ?_;exact ⟨F9,F9,F9⟩
end Go.Proofs.YtkdelpdbjfpgmaaGreatDoor
