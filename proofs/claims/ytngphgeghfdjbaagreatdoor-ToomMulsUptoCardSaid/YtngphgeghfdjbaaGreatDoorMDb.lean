/- wG of the proof (part 2): what the rows' text needs of the texts that lead to it. -/
import Derived.Test.YtngphgeghfdjbaaGreatDoorMDa
set_option linter.unusedVariables false
set_option linter.unusedSimpArgs false
set_option linter.unusedSectionVars false
set_option maxHeartbeats 4000000
noncomputable section
set_option maxRecDepth 100000
namespace Go.Sl
open Go
structure R2 where
 a:Int
 b:Int
 deriving DecidableEq
instance:Inhabited R2:=⟨⟨0,0⟩⟩
instance:A2 R2:=⟨2,fun i=>[.int .i64 i.a,.int .i64 i.b],fun _=>rfl,fun _=>rfl⟩
structure R6 where
 a:Int
 b:Int
 c:Int
 d:Int
 e:Int
 f:Int
 deriving DecidableEq
instance:Inhabited R6:=⟨⟨0,0,0,0,0,0⟩⟩
instance:A2 R6:=⟨6,fun i=>[.int .i64 i.a,.int .i64 i.b,.int .i64 i.c,.int .i64 i.d,.int .i64 i.e,.int .i64 i.f],fun _=>rfl,fun _=>rfl⟩
section scope
variable {P:Program} {b:Frame} {a:Act} {k:List Item} {cs:List Frame} {w:World} {Q:Exit→Act→World→Prop} {F:Fence} {n:Nat}
theorem yW {c:Code}:step P (lone (b.atR a (.code (.scope c) :: k)) cs w)=.next (lone (b.atR a (.code c :: .inScope c :: k)) cs w):=
 step_lone_go (by simp [stepG,stepG.exec,Frame.atR])
theorem Sx {c:Code}:step P (lone (b.atR a (.inScope c :: k)) cs w)=.next (lone (b.atR a k) cs w):=
 step_lone_go (by simp [stepG,stepG.exec,Frame.atR])
def Xe (Q:Exit→Act→World→Prop):Exit→Act→World→Prop
 | .goto _,_,_=>False
 | e,a,w=>Q e a w
theorem Ou {c:Code} (h:c.wpIn F n P (Xe Q) a w):(Code.scope c).wpIn F n P Q a w:=by
 intro b k cs hro hb hr;have h0:(lone (b.atR a (.code (.scope c) :: k)) cs w).fenced P F:=nZ hb hr U;obtain ⟨e,a₁,w₁,hq,harr⟩:=h b (.inScope c :: k) cs hro hb hr;cases e with
 | normal=>exact ⟨.normal,a₁,w₁,hq,.head h0 yW (tA harr (.one (nZ hb hr U) Sx))⟩
 | exit id =>
   have hx:exitTo id (.inScope c :: k)=exitTo id k:=by simp [exitTo]
   exact ⟨.exit id,a₁,w₁,hq,fun k' hk=>.head h0 yW (harr.1 k' (by rw [hx];exact hk)),
    fun hr' hk=>let ⟨k₁,h1,h2⟩:=harr.2 hr' (by rw [hx];exact hk);⟨k₁,h1,.head h0 yW h2⟩⟩
 | goto l=>exact hq.elim
 | ret=>exact ⟨_,a₁,w₁,hq,.of_steps (.one h0 yW) harr⟩
 | panic ch=>exact ⟨_,a₁,w₁,hq,.of_steps (.one h0 yW) harr⟩
 | outgrown=>exact ⟨_,a₁,w₁,hq,.of_steps (.one h0 yW) harr⟩
end scope
section scopeS
variable {r:Option Nat} {P:Program} {B:Bs} {S:St} {Q:Exit→Act→World→Prop}
theorem Wc.scope {c:Code} (h:Wc r P c B S (Xe Q)):Wc r P (.scope c) B S Q:=fun a w hh=>Ou (h a w hh)
theorem KC (h:Ar Q .ret B S):Ar (Xe Q) .ret B S:=h
abbrev oE:=@KC
end scopeS
section
variable {P:Program} {ops:Array Oper} {rest:List Oper} {B:Bs} {e:B0} {D:List Deferred} {H H0:Hp} {G:A3} {K:Act→World→Prop}
 {ty:TypeId} {pos:String} {after:Array Edge} {d:Nat} {f:Nat} {listed:Array Bool}
theorem Kr {Q:Exit→Act→World→Prop} {x:Exit} (t:Nat) (o:Obj) (h:Ar Q x B ⟨e,D,(t,none,o) :: H,G⟩):Ar Q x B ⟨e,D,H,G⟩:=fun a w hh=>h a w (hh.noBlock t o)
theorem Ov {o:Op} {j:Nat} {want:Bool} {t:Nat} (hj:(ops[j]?).bind (·.dst)=some t) (he:e.get t=some undef) (hn:Nat.ble (d+1) B.n=true)
 (h:Wl P ops rest B ⟨(d,undef) :: e,D,H,G⟩ K):Wl P ops (⟨some d,o,ty,pos,after,some (j,want)⟩ :: rest) B ⟨e,D,H,G⟩ K:=by
 intro a w hh;unfold uZ;have hy:yielded ops a.tmps j=none:=by simp [yielded,hj,hh.env t _ he,undef]
 rw [aE (by simp [Region.wanted,hy])];exact h _ _ (hh.put hn undef)
end
def Hp.pick (H:Hp):Nat→List Nat→Hp
 | _,[]=>[]
 | i,t :: ts=>match H.get t with | some x=>(i,x) :: Hp.pick H (i+1) ts | none=>Hp.pick H (i+1) ts
theorem Mk (H:Hp):∀ (ts:List Nat) (i j:Nat) (x:Option Nat×Obj),(H.pick i ts).get j=some x→i≤j∧∃ t,ts[j - i]?=some t∧H.get t=some x
 | [],i,j,x,h=>by simp [Hp.pick,Hp.get] at h
 | t :: ts,i,j,x,h=>by
   unfold Hp.pick at h;have rec':(H.pick (i+1) ts).get j=some x→i≤j∧∃ t',(t :: ts)[j - i]?=some t'∧H.get t'=some x:=fun h=>by
    obtain ⟨h1,t',h2,h3⟩:=Mk H ts (i+1) j x h;refine ⟨by omega,t',?_,h3⟩;rw [show j - i=(j - (i+1))+1 by omega];simpa using h2
   split at h
   · rename_i y hy;have h':Hp.get ((i,y) :: H.pick (i+1) ts) j=some x:=h;rw [bZ] at h';split at h'
     · rename_i e;subst e;cases h';exact ⟨aG _,t,by simp,hy⟩
     exact rec' h'
   exact rec' h
theorem A7.pick {B:Bs} {e:B0} {D:List Deferred} {H:Hp} {G:A3} {a:Act} {w:World} (hh:A7 B ⟨e,D,H,G⟩ a w) {ts:List Nat} (hn:ts.Nodup):A7 B ⟨e,D,H.pick 0 ts,G⟩ a w:=by
 have key:∀ t x,(H.pick 0 ts).get t=some x→∃ t',ts[t]?=some t'∧H.get t'=some x:=fun t x hx=>by
  obtain ⟨_,t',h1,h2⟩:=Mk H ts 0 t x hx;exact ⟨t',by simpa using h1,h2⟩
 refine ⟨hh.size,hh.defers,hh.env,⟨?_,?_,hh.mem.imm,?_⟩,hh.upd,?_,hh.le,hh.new⟩
 · intro t b o hx;obtain ⟨t',_,h2⟩:=key _ _ hx;exact hh.mem.own _ b o h2
 · intro t u b o o' hx hy;obtain ⟨t',h1,h2⟩:=key _ _ hx;obtain ⟨u',h3,h4⟩:=key _ _ hy;have:=hh.mem.one _ _ b _ _ h2 h4;subst this;obtain ⟨h5,h6⟩:=aR.1 h1;obtain ⟨h7,h8⟩:=aR.1 h3;rcases Nat.lt_trichotomy t u with h | h | h
   · exact absurd (h6.trans h8.symm) (List.pairwise_iff_getElem.1 hn t u h5 h7 h)
   · exact h
   exact absurd (h8.trans h6.symm) (List.pairwise_iff_getElem.1 hn u t h7 h5 h)
 · intro t b o hx;obtain ⟨t',_,h2⟩:=key _ _ hx;exact hh.mem.off _ b o h2
 intro t b o hx;obtain ⟨t',_,h2⟩:=key _ _ hx;exact hh.mine _ b o h2
section
variable {P:Program} {ops:Array Oper} {rest:List Oper} {B:Bs} {e:B0} {D:List Deferred} {H H0:Hp} {G:A3} {K:Act→World→Prop}
 {ty:TypeId} {pos:String} {after:Array Edge} {d:Nat} {f:Nat} {listed:Array Bool}
theorem Ar.pick {Q:Exit→Act→World→Prop} {x:Exit} (ts:List Nat) (hn:ts.Nodup) (h:Ar Q x B ⟨e,D,H.pick 0 ts,G⟩):Ar Q x B ⟨e,D,H,G⟩:=fun a w hh=>h a w (hh.pick hn)
abbrev iY:=@Ar.pick
def af {ι:Type} (B:Bs) (I:ι→St) (φ:ι→Prop):Act→World→Prop:=fun a w=>∃ j,φ j∧A7 B (I j) a w
theorem Il {ι:Type} {r:Option Nat} {x y:Code} {Q:Exit→Act→World→Prop} (I:ι→B0×Hp) (φ:ι→Prop)
 (h1:Wc r P x B ⟨e,D,H,G⟩ (Exit.then (af B (fun i=>⟨(I i).1,D,(I i).2,G⟩) φ) Q)) (h2:∀ i,φ i→Wc r P y B ⟨(I i).1,D,(I i).2,G⟩ Q):Wc r P (.seq x y) B ⟨e,D,H,G⟩ Q:=by
 refine bP fun a w hh b k cs hro hb hr=>?_;obtain ⟨ex,a',w',hq,ha⟩:=h1 a w hh b k cs hro hb hr;refine ⟨ex,a',w',?_,ha⟩;cases ex with
 | normal=>obtain ⟨j,hj,hI⟩:=hq;exact h2 j hj a' w' hI
 | exit id=>exact hq
 | goto l=>exact hq
 | ret=>exact hq
 | panic ch=>exact hq
 | outgrown=>exact hq
theorem Xf {ι:Type} {I:ι→St} {φ:ι→Prop} {Q:Exit→Act→World→Prop} (j:ι) (hφ:φ j)
 (hI:I j=⟨(I j).e,D,(I j).H,G⟩) (he:e.sub (I j).e) (hH:H.sub (I j).H):Ar (Exit.then (af B I φ) Q) .normal B ⟨e,D,H,G⟩:=
 fun a w hh=>⟨j,hφ,by rw [hI];exact hh.sub he hH⟩
def Xg (H:Hp) (Gx:A3):Prop:=∀ t b o,H.get t=some (some b,o)→Gx b=some o
theorem B6.lend {H:Hp} {G:A3} {w:World} (h:B6 H G w):∃ Gx:A3,G.le Gx∧Xg H Gx∧B6 [] Gx w∧(∀ b,Gx b≠none→G b=none→∃ t o,H.get t=some (some b,o)):=by
 classical
 refine ⟨fun b=>if hx:∃ o,∃ t,H.get t=some (some b,o) then some (Classical.choose hx) else G b,?_,?_,⟨?_,?_,?_,?_⟩,?_⟩
 · intro b o hb;have hn:¬∃ o,∃ t,H.get t=some (some b,o):=fun ⟨o',t,ht⟩=>by rw [h.off t b o' ht] at hb;cases hb
   simp only [hn,dif_neg,not_false_eq_true];exact hb
 · intro t b o ht;have hx:∃ o,∃ t,H.get t=some (some b,o):=⟨o,t,ht⟩
   simp only [hx,dif_pos];obtain ⟨t',ht'⟩:=rV hx;have:=h.one _ _ b _ _ ht ht';subst this;rw [ht] at ht';simp only [cO,eF,true_and] at ht';rw [←ht']
 · intro t b o hx;simp [Hp.get] at hx
 · intro t t' b o o' hx;simp [Hp.get] at hx
 · intro b o hb;try simp only at hb
   split at hb
   · rename_i hx;obtain ⟨t',ht'⟩:=rV hx;cases hb;exact h.own t' b _ ht'
   exact h.imm b o hb
 · intro t b o hx;simp [Hp.get] at hx
 intro b hb hg;try simp only at hb
 split at hb
 · rename_i hx;exact ⟨_,_,(rV hx).choose_spec⟩
 exact absurd hg hb
theorem Arr.own {α:Type} [A2 α] {Gx:A3} {a:Option Addr} {c:Nat} {E:TypeId} {xs:List α} {junk:List Value} (hb:Xg H Gx) (t:Nat) (ht:H.get t=some (a.map (·.block),Row E xs junk)) (ho:A5 a c xs junk):Arr Gx a xs:=by
 rcases ho with ⟨rfl,rfl,rfl,_⟩ | ⟨b,rfl,_⟩
 · exact oT Gx
 exact HG (E:=E) (junk:=junk) (hb t b _ ht)
abbrev qV:=@Arr.own
def HI (H:Hp) (k:Nat):Hp→Prop
 | []=>True
 | (t,x) :: L=>H.get (k+t)=some x∧HI H k L
theorem vA {k:Nat}:∀ {Hi:Hp},HI H k Hi→∀ t x,Hi.get t=some x→H.get (k+t)=some x
 | [],_,t,x,h=>by simp [Hp.get] at h
 | (j,y) :: L,⟨h1,h2⟩,t,x,h=>by
   rw [bZ] at h;split at h
   · rename_i hj;subst hj;cases h;exact h1
   exact vA h2 t x h
section own
variable {α:Type} [A2 α] {a:Option Addr} {c:Nat} {xs:List α} {junk:List Value}
theorem A5.addr (h:A5 a c xs junk) (hn:0<xs.length):a=some ⟨ab a,0,none⟩:=by
 rcases h with ⟨_,h,_⟩ | ⟨b,rfl,_⟩
 · subst h;simp at hn
 rfl
theorem A5.blk (h:A5 a c xs junk) (hn:0<xs.length):a.map (·.block)=some (ab a):=by rw [h.addr hn];rfl
theorem A5.le (h:A5 a c xs junk):xs.length≤c:=by
 rcases h with ⟨_,rfl,_,rfl⟩ | ⟨b,_,_,h,_⟩
 · simp
 exact h
theorem Sy {T:TypeId} {x i:Operand} {k:IntKind} {m:Int} {E:Nat} (hT:uX P T E (A2.sz α)) (hx:e.ev x=some (.slice a xs.length c)) (hi:e.ev i=some (.int k m)) (ho:A5 a c xs junk) (hb:0≤m∧m<xs.length) :
 Qy P (.indexAddr T x i) ty e H G (.pointer (some ⟨ab a,0+m.toNat*A2.sz α,none⟩)):=by
 have ha:=ho.addr uJ;rw [ha] at hx;exact dV hT hx hi hb
abbrev dJ:=@Sy
theorem OU [Inhabited α] {T:TypeId} {x:Operand} {E:TypeId} {m:Int} {v:Value} (t k:Nat) (h1:xB P T=true) (hx:e.ev x=some (.pointer (some ⟨ab a,0+m.toNat*A2.sz α+k,none⟩)))
 (ht:H.get t=some (a.map (·.block),Row E xs junk)) (ho:A5 a c xs junk) (hm:0≤m∧m<xs.length) (hk:Nat.ble (k+1) (A2.sz α)=true) (hv:(A2.enc (xs[m.toNat]?.getD default))[k]?=some v):Qy P (.load T x) ty e H G v:=by
 rw [ho.blk uJ] at ht;exact Zo t k h1 hx ht hm hk hv
abbrev nI:=@OU
theorem Ks [Inhabited α] {T:TypeId} {x:Operand} {E:TypeId} {m:Int} (t:Nat) (h1:xZ P T (A2.sz α)=true) (hx:e.ev x=some (.pointer (some ⟨ab a,0+m.toNat*A2.sz α,none⟩)))
 (ht:H.get t=some (a.map (·.block),Row E xs junk)) (ho:A5 a c xs junk) (hm:0≤m∧m<xs.length):Qy P (.load T x) ty e H G (.agg (A2.enc (xs[m.toNat]?.getD default)).toArray):=by
 rw [ho.blk uJ] at ht;exact Ud t h1 hx ht hm
theorem VR {T:TypeId} {x y:Operand} {E:TypeId} {m:Int} {v:Value} {z:α} (t:Nat) (hs:(P.info? T).map (·.size)=some (A2.sz α))
 (hx:e.ev x=some (.pointer (some ⟨ab a,0+m.toNat*A2.sz α,none⟩))) (hy:e.ev y=some v) (ht:H.get t=some (a.map (·.block),Row E xs junk)) (ho:A5 a c xs junk) (hm:0≤m∧m<xs.length) (hv:v.cells=(A2.enc z).toArray)
 (h:A5 a c (xs.set m.toNat z) junk→Wl P ops rest B ⟨e,D,(t,a.map (·.block),Row E (xs.set m.toNat z) junk) :: H,G⟩ K):Wl P ops (⟨none,.store T x y,ty,pos,after,none⟩ :: rest) B ⟨e,D,H,G⟩ K:=by
 have h':=h (by
  rcases ho with ⟨_,h,_⟩ | ⟨b,h1,h2,h3,h4⟩
  · subst h;simp at hm;omega
  exact .inr ⟨b,h1,by simpa using h2,by simpa using h3,h4⟩)
 have hb:=ho.blk uJ;rw [hb] at ht h';exact Xb t hs hx hy hv ht hm h'
abbrev fL:=@VR
end own
end
section
variable {P:Program} {ops:Array Oper} {rest:List Oper} {B:Bs} {e:B0} {D:List Deferred} {H:Hp} {G:A3} {K:Act→World→Prop} {ty:TypeId} {pos:String} {after:Array Edge}
end
def lrec (q:Loop) (s:LoopState) (p:Option Code):Obj:=.loop { q with state:=s,pending:=p }
def Ku (P:Program) (l:Nat) (vs:List Value) (G:A3) (Hi:Hp) (post:Value→A3→Hp→Prop):Prop:=
 ∀ w,B6 Hi G w→∃ f tmps assign body,(Instr.yield l vs.toArray).run P w=.ok (.round l f tmps assign body) w∧RoundIn Fence.wide 0 P l f tmps assign body w (yA G Hi w post)
def Zp {β:Type} (P:Program) (f:FuncId) (caps:List Value) (G:A3) (enc:β→List Value) (xs:List β):Prop:=
 ∀ (ι:Type) (J:ι→Hp) (inv:Nat→ι→Prop) (stop:ι→Prop) (l:Nat) (i0:ι),inv 0 i0→
  (∀ k x i,xs[k]?=some x→inv k i→Ku P l (enc x) G (J i) (fun v G' Ho=>G'=G∧∃ j,Ho=J j∧((v=.bool true∧inv (k+1) j)∨(v=.bool false∧stop j))))→
  Does P f (.func (.yield l) #[] #[] :: caps) G (J i0) (fun v G' Ho=>G'=G∧∃ j,Ho=J j∧(inv xs.length j∨stop j))
def Cx (K:Nat):Hp→Bool
 | []=>true
 | (t,_) :: h=>Nat.ble (t+1) K && Cx K h
theorem Im {K:Nat}:∀ {A:Hp},Cx K A=true→∀ t,K≤t→A.get t=none
 | [],_,t,_=>rfl
 | (i,x) :: A,h,t,ht=>by
   simp only [Cx,aB] at h;have h1:=bK h.1;rw [bZ,aE (by omega)];exact Im h.2 t ht
abbrev tT:=@Im
section
variable {P:Program} {ops:Array Oper} {rest:List Oper} {B:Bs} {e:B0} {D:List Deferred} {H:Hp} {G:A3} {K:Act→World→Prop}
 {ty:TypeId} {pos:String} {after:Array Edge} {d:Nat}
theorem Eu (k:Nat):∀ (L:Hp) (t:Nat),t<k→(Hp.kill k L).get t=none
 | [],_,_=>rfl
 | (j,z) :: L,t,h=>by
   show Hp.get ((k+j,none,default) :: Hp.kill k L) t=none;rw [bZ,aE (by omega)];exact Eu k L t h
theorem A7.tail {a:Act} {w:World} (k:Nat) {A Hi Ho:Hp} {G':A3} (hA:Cx k A=true) (hh:A7 B ⟨e,D,Ho.shift k++(Hi.kill k++(A++Hi.shift k)),G'⟩ a w):A7 B ⟨e,D,A++Ho.shift k,G'⟩ a w:=by
 refine hh.weaken (fun _ _ h=>h) fun t x hx=>?_;rw [jP] at hx;rw [jP,jP,jP];rcases aK t k with ht | ht
 · have h1:(Ho.shift k).get t=none:=by rw [lT,aE (by omega)]
   have h2:(Hi.shift k).get t=none:=by rw [lT,aE (by omega)]
   have h3:(Hi.kill k).get t=none:=Eu k Hi t ht;rw [h1,h2,h3];rw [h1] at hx;simpa using hx
 rw [tT hA t ht] at hx;simp only [qH] at hx;rw [hx];rfl
theorem Wl.yield {g:Operand} {l:Nat} {xs:Array Operand} {ats:Array TypeId} {vs:List Value} {A Hi:Hp} {post:Value→A3→Hp→Prop} (k:Nat)
 (hn:Nat.ble (d+1) B.n=true) (hg:e.ev g=some (.func (.yield l) #[] #[])) (hx:e.evs xs.toList=some vs) (hH:H=A++Hi.shift k) (hA:Cx k A=true)
 (hF:Ku P l vs G Hi post) (h:∀ v G' Ho,G.le G'→post v G' Ho→Wl P ops rest B ⟨(d,v) :: e,D,A++Ho.shift k,G'⟩ K) :
 Wl P ops (⟨some d,.call { callee:=.value g,args:=xs,argTypes:=ats },ty,pos,after,none⟩ :: rest) B ⟨e,D,H,G⟩ K:=by
 intro a w hh;subst hH;unfold uZ;rw [aM (by simp [Region.wanted])];unfold Ag;have hHi:∀ t x,Hi.get t=some x→Hp.get (A++Hi.shift k) (k+t)=some x:=fun t x hx=>by
  rw [jP,tT hA (k+t) uJ,qH,lT,aM (by omega),iQ];exact hx
 have hw:B6 Hi G w:=⟨fun t b o x=>hh.mem.own _ b o (hHi _ _ x),fun t t' b o o' x y=>by have:=hh.mem.one _ _ b _ _ (hHi _ _ x) (hHi _ _ y);omega,hh.mem.imm,fun t b o x=>hh.mem.off _ b o (hHi _ _ x)⟩
 obtain ⟨f,tmps,assign,body,hy,hR⟩:=hF w hw;have hrun:(execOp a.eval ⟨some d,.call { callee:=.value g,args:=xs,argTypes:=ats },ty,pos,after,none⟩).run P w=.ok (.round l f tmps assign body) w:=by
  simp [execOp,resolve,Deferred.ofValue,invoke,hh.eval hg,hh.args hx,hy]
 rw [hrun];refine hR.mono fun x w' ⟨v,G',Ho,h1,h2,h3,h4,h5,h6,h7⟩=>⟨v,h1,?_⟩
 exact h v G' Ho h3 h7 _ _ (((hh.called k hHi h2 h3 h4 h5 h6).tail k hA).put hn v)
def Hp.tl (H:Hp) (k:Nat) (T:Hp):Prop:=∀ t x,(T.shift k).get t=some x→H.get t=some x
theorem DX (k:Nat) (T:Hp):Hp.tl (T.shift k) k T:=fun _ _ h=>h
theorem DY {k t:Nat} {x:Option Nat×Obj} {H T:Hp} (ht:Nat.ble (t+1) k=true) (h:Hp.tl H k T):Hp.tl ((t,x) :: H) k T:=fun i y hi=>by
 have hk:k≤i:=by
  rcases aK i k with h1 | h1
  · rw [lT,aE (by omega)] at hi;cases hi
  exact h1
 have:=bK ht;rw [bZ,aE (by omega)];exact h i y hi
theorem A7.cutT {a:Act} {w:World} {e':B0} {A T:Hp} {k:Nat} (hh:A7 B ⟨e,D,H,G⟩ a w) (he:e.sub e') (hH:H.sub A) (ht:H.tl k T):A7 B ⟨e',D,A++T.shift k,G⟩ a w:=by
 refine hh.weaken (Ek he) fun t x hx=>?_;rw [jP] at hx;cases hA:A.get t with
 | some y =>
   rw [hA] at hx;have hx':y=x:=by simpa using hx
   subst hx';exact nW hH t y hA
 | none=>rw [hA] at hx;exact ht t x (by simpa using hx)
theorem KD {g:Operand} {l:Nat} {xs:Array Operand} {ats:Array TypeId} {vs:List Value} {A Hi:Hp} {post:Value→A3→Hp→Prop} (k:Nat)
 (hn:Nat.ble (d+1) B.n=true) (hg:e.ev g=some (.func (.yield l) #[] #[])) (hx:e.evs xs.toList=some vs) (hH:H.sub A) (ht:H.tl k Hi) (hA:Cx k A=true)
 (hF:Ku P l vs G Hi post) (h:∀ v G' Ho,G.le G'→post v G' Ho→Wl P ops rest B ⟨(d,v) :: e,D,A++Ho.shift k,G'⟩ K) :
 Wl P ops (⟨some d,.call { callee:=.value g,args:=xs,argTypes:=ats },ty,pos,after,none⟩ :: rest) B ⟨e,D,H,G⟩ K:=by
 intro a w hh;refine Wl.yield (H:=A++Hi.shift k) k hn hg hx U hA hF h a w (hh.weaken (fun _ _ h=>h) (fun t x hx=>?_));rw [jP] at hx;cases hA:A.get t with
 | some y =>
   rw [hA] at hx;have hx':y=x:=by simpa using hx
   subst hx';exact nW hH t y hA
 | none=>rw [hA] at hx;exact ht t x (by simpa using hx)
theorem OV {ι:Type} {r:Option Nat} {c:Code} {Q:Exit→Act→World→Prop} (k:Nat) (I:ι→B0×Hp) (T:ι→Hp) (φ:ι→Prop) (μ:ι→Nat) (i0:ι) (h0:φ i0)
 (he:e.sub (I i0).1) (hH:H.sub (I i0).2) (ht:H.tl k (T i0))
 (hb:∀ i,φ i→Wc r P c B ⟨(I i).1,D,(I i).2++(T i).shift k,G⟩ (Exit.then (If B (fun i=>⟨(I i).1,D,(I i).2++(T i).shift k,G⟩) φ μ (μ i)) Q)):Wc r P (.loop c) B ⟨e,D,H,G⟩ Q:=
 Oi (fun i=>⟨(I i).1,D,(I i).2++(T i).shift k,G⟩) φ μ i0 h0 (fun _ _ h=>h.cutT he hH ht) hb
theorem VS {r:Option Nat} {c:Code} {Q:Exit→Act→World→Prop} (k:Nat) (h:Wc r P c B ⟨e,D,H.shift k,G⟩ Q):Wc r P c B ⟨e,D,H,G⟩ Q:=by
 intro a w hh;have hg:∀ t x,(H.shift k).get t=some x→k≤t∧H.get (t - k)=some x:=fun t x hx=>by
  rw [lT] at hx;split at hx
  · rename_i h1;exact ⟨h1,hx⟩
  cases hx
 refine h a w ⟨hh.size,hh.defers,hh.env,⟨?_,?_,hh.mem.imm,?_⟩,hh.upd,?_,hh.le,hh.new⟩
 · intro t b o hx;exact hh.mem.own _ b o (hg _ _ hx).2
 · intro t t' b o o' hx hy;have h1:=hg _ _ hx;have h2:=hg _ _ hy;have:=hh.mem.one _ _ b _ _ h1.2 h2.2;omega
 · intro t b o hx;exact hh.mem.off _ b o (hg _ _ hx).2
 intro t b o hx;exact hh.mine _ b o (hg _ _ hx).2
theorem Xh {H L:Hp} (h:H.sub L):∀ t x,L.get t=some x→H.get t=some x:=nW h
theorem HJ {fn:Func} {G0:A3} {Hi Ho:Hp} {w0:World} {post:Value→A3→Hp→Prop} {n k:Nat} {x:Exit} (hx:x=.normal∨x=.ret) (hres:fn.results=#[]) (ht:H.tl k Ho) (hp:post (.tuple #[]) G Ho) :
 Ar (HE P fn G0 Hi w0 post) x ⟨n,w0,Hi.has,G0⟩ ⟨e,[],H,G⟩:=by
 intro a w hh;have key:a.defers=[]∧∃ v,(results fn a.tmps).run P w=.ok v w∧yA G0 Hi w0 post (.returned v) w:=by
  have hg:∀ t x,Ho.get t=some x→H.get (k+t)=some x:=fun t x hx=>ht _ _ (by rw [lT,aM (by omega),iQ];exact hx);refine ⟨hh.defers,.tuple #[],by simp [zT,hres],.tuple #[],G,Ho,U,⟨?_,?_,hh.mem.imm,?_⟩,hh.le,hh.upd,hh.new,?_,hp⟩
  · intro t b o h;exact hh.mem.own _ b o (hg _ _ h)
  · intro t t' b o o' h h';have:=hh.mem.one _ _ b _ _ (hg _ _ h) (hg _ _ h');omega
  · intro t b o h;exact hh.mem.off _ b o (hg _ _ h)
  intro t b o h;exact hh.mine _ b o (hg _ _ h)
 rcases hx with rfl | rfl <;> exact key
def VT (P:Program) (fn:Func) (G:A3) (Hi:Hp) (w:World) (post:Value→A3→Hp→Prop):Exit→Act→World→Prop:=bodyPostM (FF none) 0 P fn (yA G Hi w post)
theorem Ml {f:FuncId} {fn:Func} {c:Code} {n:Nat} {args:List Value} {Hi:Hp} {post:Value→A3→Hp→Prop} (hf:P.funcs[f]?=some fn) (hb:fn.body=some c) (hn:fn.ntmps=n)
 (hl:Nat.ble args.length n=true) (h:∀ w,Wc none P c ⟨n,w,Hi.has,G⟩ ⟨xC 0 args,[],Hi,G⟩ (VT P fn G Hi w post)):Does P f args G Hi post:=by
 intro w hw;have hl':=bK hl;refine zS.1 (callsIn_of_wp_marks (F:=FF none) (n:=0) hf hb I8 (h w _ w ?_));refine ⟨?_,U,?_,hw,lE _ _,fun t b o hx=>.inr ⟨t,o,hx⟩,cC _,fun b h1 h2=>(h1 h2).elim⟩
 · simp [hn];omega
 intro i v hi;obtain ⟨_,h2⟩:=sP args 0 i v hi;have h2':args[i]?=some v:=by simpa using h2
 have hlt:i<args.length:=(aR.1 h2').1;show (args.toArray++Array.replicate (fn.ntmps - args.toArray.size) undef)[i]?=some v;rw [qP (by simpa using hlt)];simpa using h2'
def mark (b:Nat):Deferred:={ target:=.collected b,args:=#[] }
theorem xD (w:World) (b:Nat) (o:Obj):D2 (·=b) w (w.putObj b o):=⟨U,U,U,by simp,fun k _ hk=>World.putObj_heap_other hk⟩
section out
variable {fn:Func} {G0:A3} {Hi:Hp} {w0:World} {post:Value→A3→Hp→Prop} {x:Exit}
theorem Ow (hx:x=.normal∨x=.ret) (t:Nat) {b:Nat} (ht:H.get t=some (some b,.deferred (some []))) (h:Ar (VT P fn G0 Hi w0 post) .ret B ⟨e,D,(t,some b,.deferred none) :: H,G⟩) :
 Ar (VT P fn G0 Hi w0 post) x B ⟨e,mark b :: D,H,G⟩:=by
 intro a w hh;have hb:w.heap[b]?=some (.deferred (some [])):=hh.mem.own t b _ ht;have hlt:=(cK.1 hb).1;have hh1:A7 B ⟨e,D,H,G⟩ { a with defers:=D } w:=⟨hh.size,U,hh.env,hh.mem,hh.upd,hh.mine,hh.le,hh.new⟩
 have h1:=h _ _ (hh1.set ht (xD w b (.deferred none)) (gD hlt));have key:LeavesInM (FF none) 0 P fn a.tmps (yA G0 Hi w0 post) a.defers .returning w:=by
  rw [hh.defers];exact ⟨by simp,.inl ⟨b,_,rfl,run_takeDeferred hb,h1⟩⟩
 rcases hx with rfl | rfl <;> exact key
theorem In (hx:x=.normal∨x=.ret) (h:Ar (HE P fn G0 Hi w0 post) .ret B ⟨e,[],H,G⟩):Ar (VT P fn G0 Hi w0 post) x B ⟨e,[],H,G⟩:=by
 intro a w hh;obtain ⟨hd,v,hr,hR⟩:=h a w hh;have key:LeavesInM (FF none) 0 P fn a.tmps (yA G0 Hi w0 post) a.defers .returning w:=by
  rw [hd];exact ⟨v,hr,hR⟩
 rcases hx with rfl | rfl <;> exact key
end out
def B0.ps:List Nat→List Value→B0→B0
 | t :: ts,v :: vs,e=>B0.ps ts vs ((t,v) :: e)
 | _,_,e=>e
def DZ (P:Program) (l:Nat) (body:Code) (R:Ending→World→Prop):Exit→Act→World→Prop:=
 Exit.then (fun a₁ w₁=>∃ w₂,(Instr.beginRound l).run P w₁=.ok () w₂∧body.wpIn (FF (some l)) 0 P (roundPost P l R) a₁ w₂) (fun _ _ _=>False)
theorem Zq {l:Nat} {body:Code} {R:Ending→World→Prop} {q:Loop} {p:Option Code} (t:Nat) (ht:H.get t=some (some l,lrec q .ready p))
 (h:Wc (some l) P body B ⟨e,D,(t,some l,lrec q .busy p) :: H,G⟩ (roundPost P l R)):Ar (DZ P l body R) .normal B ⟨e,D,H,G⟩:=by
 intro a w hh;have hb:=hh.mem.own t l _ ht;have hlt:=(cK.1 hb).1;refine ⟨_,run_beginRound hb U,?_⟩;exact h _ _ (hh.set ht (xD w l _) (gD hlt))
section round
variable {ι:Type} {x:Exit} {l n:Nat} {w0:World} {Hi:Hp} {G0:A3} {post:Value→A3→Hp→Prop} {q:Loop} {p:Option Code}
theorem Mm (c:Option Code) (hx:(x=.normal∧c=none)∨(x=.ret∧c=some .ret)∨∃ id,x=.exit id∧c=some (.exit id)) (t:Nat) (ht:H.get t=some (some l,lrec q .busy p)) {Ho:Hp}
 (hp:post (.bool c.isNone) G Ho) (hHo:∀ i y,Ho.get i=some y→Hp.get ((t,some l,lrec q (if c.isNone then .ready else .done) c) :: H) i=some y) :
 Ar (roundPost P l (yA G0 Hi w0 post)) x ⟨n,w0,Hi.has,G0⟩ ⟨e,D,H,G⟩:=by
 intro a w hh;have hb:=hh.mem.own t l _ ht;have hlt:=(cK.1 hb).1;have h2:=hh.set ht (o':=lrec q (if c.isNone then .ready else .done) c) (xD w l _) (gD hlt);have h3:=h2.weaken (e':=e) (H':=Ho) (fun _ _ h=>h) hHo;have key:∃ v w',(Instr.endRound l c).run P w=.ok v w'∧yA G0 Hi w0 post (.returned v) w':=
  ⟨_,_,run_endRound c hb,.bool c.isNone,G,Ho,U,h3.mem,h3.le,h3.upd,h3.new,h3.mine,hp⟩
 rcases hx with ⟨rfl,rfl⟩ | ⟨rfl,rfl⟩ | ⟨id,rfl,rfl⟩ <;> exact key
end round
theorem Mn {n:Nat}:∀ (ts:List Nat) (vs:List Value) (e:B0) (tmps:Array Value),tmps.size=n→(∀ i v,e.get i=some v→tmps[i]?=some v)→ts.all (fun t=>Nat.ble (t+1) n)=true→
 ((ts.zip vs).foldl (fun t (p:Nat×Value)=>t.setIfInBounds p.1 p.2) tmps).size=n∧∀ i v,(B0.ps ts vs e).get i=some v→((ts.zip vs).foldl (fun t (p:Nat×Value)=>t.setIfInBounds p.1 p.2) tmps)[i]?=some v
 | [],vs,e,tmps,hs,he,_=>by
   have:B0.ps [] vs e=e:=by cases vs <;> rfl
   rw [this];simpa using ⟨hs,he⟩
 | t :: ts,[],e,tmps,hs,he,_=>by simpa [B0.ps] using ⟨hs,he⟩
 | t :: ts,v :: vs,e,tmps,hs,he,hb=>by
   simp only [kC,aB] at hb;have ht:=bK hb.1;refine Mn ts vs ((t,v) :: e) (tmps.setIfInBounds t v) (by simpa using hs) (fun i u hu=>?_) hb.2;rw [jQ] at hu;rw [Array.getElem?_setIfInBounds];by_cases hi:t=i
   · rw [aM hi] at hu ⊢;rw [aM (by omega)];exact hu
   rw [aE hi] at hu ⊢;exact he i u hu
section stmt
variable {β ι:Type} {Q:Exit→Act→World→Prop} {f:FuncId} {fst caps:List Value} {enc:β→List Value} {xs:List β} {ps:List Nat} {assign body:Code} {g:Operand}
def UY:Option Code→LoopState | none=>.ready | some _=>.done
abbrev RJ (tl td:Nat) (q:Loop) (l dd:Nat) (A:Hp) (p:Option Code):Hp:=(tl,some l,lrec q (UY p) p) :: (td,some dd,.deferred (some [])) :: A
theorem Wc.rangeFunc (tl td:Nat) (I:ι→Hp) (inv:Nat→ι→Prop) (stop:Code→ι→Prop) (i0:ι) (hg:e.ev g=some (.func (.func f) #[] caps.toArray)) (hf:wJ P f)
 (hps:∀ x,(enc x).length=ps.length) (hpb:ps.all (fun t=>Nat.ble (t+1) B.n)=true) (hit:Zp P f caps G enc xs) (h0:inv 0 i0) (hH:∀ t x,(I i0).get t=some x→H.get t=some x)
 (htl:Nat.beq tl td=false∧∀ i,(I i).get tl=none)
 (hround:∀ k x i l dd q w0,xs[k]?=some x→inv k i→Wc (some l) P assign ⟨B.n,w0,(RJ tl td q l dd (I i) none).has,G⟩ ⟨B0.ps ps (enc x) e,[],RJ tl td q l dd (I i) none,G⟩
  (DZ P l body (yA G (RJ tl td q l dd (I i) none) w0 (fun v G' Ho=>G'=G∧∃ j:ι×Option Code,Ho=RJ tl td q l dd (I j.1) j.2∧((v=.bool true∧j.2=none∧inv (k+1) j.1)∨(v=.bool false∧∃ c,j.2=some c∧stop c j.1))))))
 (hdone:∀ j dd,inv xs.length j→Ar Q .normal B ⟨e,mark dd :: D,(td,some dd,.deferred (some [])) :: I j,G⟩)
 (hstop:∀ j dd c,stop c j→Wc none P c B ⟨e,mark dd :: D,(td,some dd,.deferred (some [])) :: I j,G⟩ Q) :
 Wc none P (.rangeFunc g ps.toArray assign body) B ⟨e,D,H,G⟩ Q:=by
 intro a w hh;refine wpIn_rangeFunc fun fn _=>?_;obtain ⟨q,hq⟩:∃ q:Loop,q={ state:=.ready,pending:=none,fn,tmps:=a.tmps,params:=ps.toArray,assign,body,defers:=w.heap.size }:=⟨_,U⟩
 obtain ⟨fnn,hf1,hf2,hf3⟩:=hf;obtain ⟨ht3,htI⟩:=htl;have hne:tl≠td:=fun h=>by subst h;simp at ht3
 have hA:=hh.alloc td (.deferred (some []));have hB:=hA.alloc tl (lrec q .ready none);rw [World.size_alloc] at hB;refine ⟨w.heap.size+1,[mark w.heap.size],(w.alloc (.deferred (some []))).alloc (lrec q .ready none),{ target:=.fn (.func f) caps.toArray,args:=#[.func (.yield (w.heap.size+1)) #[] #[]] },(w.alloc (.deferred (some []))).alloc (lrec q .ready none),f,
  (.func (.yield (w.heap.size+1)) #[] #[] :: caps).toArray,(w.alloc (.deferred (some []))).alloc (lrec q .ready none),?_,?_,?_,?_,fun h=>by simp [FF] at h,?_⟩
 · have:=run_enterLoop_outer (P:=P) (w:=w) fn a.tmps ps.toArray assign body;rw [hq];exact this
 · have hev:Act.eval a g=.func (.func f) #[] caps.toArray:=hh.eval hg;simp only [resolve,hev];simp [go_sem]
 · intro f' hf';trivial
 · simp [invoke,Az _ _ hf1 hf2 hf3]
 have hB':A7 B ⟨e,D,RJ tl td q (w.heap.size+1) w.heap.size (I i0) none,G⟩ a ((w.alloc (.deferred (some []))).alloc (lrec q .ready none)):=by
  refine hB.weaken (fun _ _ h=>h) fun t x hx=>?_;rw [bZ] at hx ⊢;split at hx <;> rename_i h1
  · rw [aM h1];exact hx
  rw [aE h1];rw [bZ] at hx ⊢;split at hx <;> rename_i h2
  · rw [aM h2];exact hx
  rw [aE h2];exact hH t x hx
 have hC:=hit (ι×Option Code) (fun s=>RJ tl td q (w.heap.size+1) w.heap.size (I s.1) s.2) (fun k j=>j.2=none∧inv k j.1) (fun j=>∃ c,j.2=some c∧stop c j.1) (w.heap.size+1) (i0,none) ⟨U,h0⟩ (fun k x i hx hi=>?_)
 · refine zS.2 ((hC _ hB'.mem).mono fun ex w' ⟨v,G',Ho,h1,h2,h3,h4,h5,h6,h7,j,h8,h9⟩=>?_);subst h1 h7;have hcl:=hB'.called 0 (Hi:=RJ tl td q (w.heap.size+1) w.heap.size (I i0) none) (fun t x hx=>by rw [cF];exact hx) h2 h3 h4 h5 h6;have hD:A7 B ⟨e,D,Ho,G'⟩ a w':=hcl.weaken (fun _ _ h=>h) (fun t x hx=>by
    rw [jP,lT,aM (aS _),pY,hx];rfl)
   rw [h8] at hD;obtain ⟨ji,jp⟩:=j;have hget:Hp.get (RJ tl td q (w.heap.size+1) w.heap.size (I ji) jp) tl=some (some (w.heap.size+1),lrec q (UY jp) jp):=by
    rw [bZ,aM rfl]
   have hbk:=hD.mem.own tl _ _ hget;have hlt:=(cK.1 hbk).1;have hE:=hD.set hget (o':=lrec q .exhausted jp) (xD w' _ _) (gD hlt);have hF:A7 B ⟨e,D,(td,some w.heap.size,.deferred (some [])) :: I ji,G'⟩ a (w'.putObj (w.heap.size+1) (lrec q .exhausted jp)):=by
    refine hE.weaken (fun _ _ h=>h) fun t x hx=>?_;rw [bZ] at hx ⊢;have htn:tl≠t:=fun h=>by
     subst h;rw [aE (rM hne)] at hx;have:=htI ji;rw [hx] at this;cases this
    rw [aE htn,bZ,aE htn,bZ];exact hx
   have hG:A7 B ⟨e,mark w.heap.size :: D,(td,some w.heap.size,.deferred (some [])) :: I ji,G'⟩ { a with defers:=[mark w.heap.size]++a.defers } (w'.putObj (w.heap.size+1) (lrec q .exhausted jp)):=
    ⟨hF.size,by show [mark w.heap.size]++a.defers=_;rw [hF.defers];rfl,hF.env,hF.mem,hF.upd,hF.mine,hF.le,hF.new⟩
   have hend:(Instr.endLoop (w.heap.size+1)).run P w'=.ok jp (w'.putObj (w.heap.size+1) (lrec q .exhausted jp)):=run_endLoop hbk (by cases jp <;> simp [UY]);refine ⟨jp,_,hend,?_⟩;rcases h9 with ⟨hj,hi⟩ | ⟨c,hj,hs⟩
   · have hj':jp=none:=hj;subst hj';exact hdone ji _ hi _ _ hG
   have hj':jp=some c:=hj;subst hj';exact hstop ji _ c hs _ _ hG
 obtain ⟨i,ip⟩:=i;obtain ⟨hip,hi⟩:=hi;have hip':ip=none:=hip;subst hip';intro w2 hw2;have hl2:w2.heap[w.heap.size+1]?=some (lrec q .ready none):=hw2.own tl _ _ (by rw [bZ,aM rfl];rfl);have hq2:q.params=ps.toArray∧q.tmps=a.tmps∧q.assign=assign∧q.body=body:=by rw [hq];exact ⟨U,U,U,U⟩
 have hy:=run_yield (P:=P) (args:=(enc x).toArray) hl2 (by show _=q.params.size;rw [hq2.1];simp [hps x]);refine ⟨_,_,_,_,hy,roundIn_of_wpIn (F:=Fence.wide) (n:=0) I8 ?_⟩;have hz:=Mn ps (enc x) e a.tmps hh.size hh.env hpb;have hr:=hround k x i (w.heap.size+1) w.heap.size q w2 hx hi;have hhold:A7 ⟨B.n,w2,(RJ tl td q (w.heap.size+1) w.heap.size (I i) none).has,G⟩ ⟨B0.ps ps (enc x) e,[],RJ tl td q (w.heap.size+1) w.heap.size (I i) none,G⟩
  { tmps:=(q.params.zip (enc x).toArray).foldl (fun tmps (t,a)=>tmps.setIfInBounds t a) q.tmps,defers:=[] } w2:=by
  refine ⟨?_,U,?_,hw2,lE _ _,fun t b o hx=>.inr ⟨t,o,hx⟩,cC _,fun b h1 h2=>(h1 h2).elim⟩
  · show ((q.params.zip (enc x).toArray).foldl _ q.tmps).size=B.n;rw [hq2.1,hq2.2.1];have:=hz.1;simpa using this
  intro i v hv;show ((q.params.zip (enc x).toArray).foldl _ q.tmps)[i]?=some v;rw [hq2.1,hq2.2.1];have:=hz.2 i v hv;simpa using this
 have h:=hr _ w2 hhold;show q.assign.wpIn (FF (some (w.heap.size+1))) 0 P (DZ P (w.heap.size+1) q.body _) _ _;rw [hq2.2.2.1,hq2.2.2.2];exact h
end stmt
end
section
variable {P:Program} {e:B0} {H:Hp} {G:A3} {ty:TypeId}
def Io (P:Program) (t:TypeId):Bool:=match P.underlying t with | some (.func _ _ _)=>true | _=>false
theorem Av {t:TypeId} {f:Fn} {fs cs:Array Value} (ht:Io P t=true) (d:Nat) (w:World):(Op.equalIn (d+1) t (.func f fs cs) .nilFunc).run P w=.ok false w:=by
 unfold Io at ht;split at ht
 · rename_i a1 a2 a3 hu;simp [Op.equalIn,aQ hu]
 cases ht
theorem Sz {t t':TypeId} {x y:Operand} {f:Fn} {fs cs:Array Value} (ht:Io P t=true) (hx:e.ev x=some (.func f fs cs)) (hy:e.ev y=some .nilFunc):Qy P (.binOp .eql t x y t') ty e H G (.bool false):=fun a w _ _ _ _ hh=>by
 have:=Av (P:=P) (f:=f) (fs:=fs) (cs:=cs) ht 9999 w;simp [execOp,hh.eval hx,hh.eval hy,binOp,eqGuard,Op.equal,Op.maxDepth,this]
theorem Ta {t t':TypeId} {x y:Operand} {f:Fn} {fs cs:Array Value} (ht:Io P t=true) (hx:e.ev x=some (.func f fs cs)) (hy:e.ev y=some .nilFunc):Qy P (.binOp .neq t x y t') ty e H G (.bool true):=fun a w _ _ _ _ hh=>by
 have:=Av (P:=P) (f:=f) (fs:=fs) (cs:=cs) ht 9999 w;simp [execOp,hh.eval hx,hh.eval hy,binOp,eqGuard,Op.equal,Op.maxDepth,this]
theorem Ai {t E:TypeId} {a:Option Addr} {n c:Nat} (ht:P.underlying t=some (.slice E)) (d:Nat) (w:World):(Op.equalIn (d+1) t (.slice a n c) (.slice none 0 0)).run P w=.ok a.isNone w:=by
 cases a <;> simp [Op.equalIn,aQ ht]
theorem Ox {t t':TypeId} {x y:Operand} {a:Option Addr} {n c E sz:Nat} (ht:uX P t E sz) (hx:e.ev x=some (.slice a n c)) (hy:e.ev y=some (.slice none 0 0)):Qy P (.binOp .eql t x y t') ty e H G (.bool (decide (a=none))):=fun w0 w _ _ _ _ hh=>by
 have:=Ai (P:=P) (a:=a) (n:=n) (c:=c) ht.1 9999 w;simp [execOp,hh.eval hx,hh.eval hy,binOp,eqGuard,Op.equal,Op.maxDepth,this];cases a <;> rfl
abbrev iG:=@Ox
theorem Ew {t t':TypeId} {x y:Operand} {a:Option Addr} {n c E sz:Nat} (ht:uX P t E sz) (hx:e.ev x=some (.slice a n c)) (hy:e.ev y=some (.slice none 0 0)):Qy P (.binOp .neq t x y t') ty e H G (.bool (decide (a≠none))):=fun w0 w _ _ _ _ hh=>by
 have:=Ai (P:=P) (a:=a) (n:=n) (c:=c) ht.1 9999 w;simp [execOp,hh.eval hx,hh.eval hy,binOp,eqGuard,Op.equal,Op.maxDepth,this];cases a <;> rfl
theorem Tb {T:TypeId} {x i:Operand} {b o n sz:Nat} {zs:List Value} {k:IntKind} {m:Int} (j:Nat) (hT:C9 P T n sz zs) (hx:e.ev x=some (.pointer (some ⟨b,o,none⟩))) (hi:e.ev i=some (.int k m))
 (hb:decide (0≤m∧m<n)=true) (hj:Nat.beq (m.toNat*sz) j=true):Qy P (.indexAddr T x i) ty e H G (.pointer (some ⟨b,o+j,none⟩)):=fun a w _ _ _ _ hh=>by
 obtain ⟨z,E,hu,_,_,hs⟩:=hT;have hb':=tJ hb;have hj':=aD hj;simp [execOp,Instr.indexAt,Instr.sureAddr,hh.eval hx,hh.eval hi,asIntOf,aQ hu,hb',run_sizeOf w hs,add_lit,hj']
abbrev fV:=@Tb
end
section
variable {P:Program} {B:Bs} {e:B0} {D:List Deferred} {H:Hp} {G:A3}
theorem A7.base {a:Act} {w:World} (hh:A7 B ⟨e,D,H,G⟩ a w):A7 B ⟨e,D,H,B.G0⟩ a w:=by
 refine ⟨hh.size,hh.defers,hh.env,⟨hh.mem.own,hh.mem.one,fun b o h=>hh.mem.imm b o (hh.le b o h),fun t b o h=>?_⟩,hh.upd,hh.mine,cC _,fun b h h0=>(h h0).elim⟩;have h1:G b=none:=hh.mem.off t b o h;show B.G0 b=none;cases hg:B.G0 b with
 | none=>rfl
 | some x=>have h2:G b=some x:=hh.le b x hg;rw [h1] at h2;cases h2
theorem Ar.base {Q:Exit→Act→World→Prop} {x:Exit} (h:Ar Q x B ⟨e,D,H,B.G0⟩):Ar Q x B ⟨e,D,H,G⟩:=fun a w hh=>h a w hh.base
end
def Kv (r:Option Nat) (P:Program) (c:Code) (Q:Exit→Act→World→Prop) (a:Act) (w:World):Prop:=
 ∀ (b:Frame) (k:List Item) (cs:List Frame),b.roundOf=(FF r).round→(FF r).fn b.fn→(FF r).room (cs.length+1+0)→
  ∃ e a' w',Q e a' w'∧ArrivesIn (Machine.fenced P (FF r)) P (lone (b.atR a (.code c :: .inLoop c :: k)) cs w) b k cs e a' w'
def La (r:Option Nat) (P:Program) (c:Code) (B:Bs) (S:St) (Q:Exit→Act→World→Prop):Prop:=∀ a w,A7 B S a w→Kv r P c Q a w
section
variable {r:Option Nat} {P:Program} {B:Bs} {S:St} {Q:Exit→Act→World→Prop} {c:Code}
theorem Ip (h:La r P c B S Q):Wc r P (.loop c) B S Q:=by
 intro a w hh b k cs hro hb' hr;obtain ⟨e,a',w',hq,harr⟩:=h a w hh b k cs hro hb' hr;exact ⟨e,a',w',hq,.of_steps (.one (nZ hb' hr U) stepR_loop) harr⟩
theorem La.round (h:Wc r P c B S (Exit.then (Kv r P c Q) Q)):La r P c B S Q:=by
 intro a w hh b k cs hro hb' hr;obtain ⟨x,a₁,w₁,hq,harr⟩:=h a w hh b (.inLoop c :: k) cs hro hb' hr;cases x with
 | normal =>
   obtain ⟨e₂,a₂,w₂,hq₂,harr₂⟩:=hq b k cs hro hb' hr;exact ⟨e₂,a₂,w₂,hq₂,.of_steps (tA harr (.one (nZ hb' hr U) stepR_inLoop)) harr₂⟩
 | exit id=>exact ⟨_,a₁,w₁,hq,.pass (x:=.inLoop c) U (fun _ _=>.inl vL) harr⟩
 | goto l=>exact ⟨_,a₁,w₁,hq,.pass (x:=.inLoop c) U (fun _ _=>.inl vL) harr⟩
 | ret=>exact ⟨_,a₁,w₁,hq,.pass (x:=.inLoop c) U (fun _ _=>.inl vL) harr⟩
 | panic ch=>exact ⟨_,a₁,w₁,hq,.pass (x:=.inLoop c) U (fun _ _=>.inl vL) harr⟩
 | outgrown=>exact ⟨_,a₁,w₁,hq,.pass (x:=.inLoop c) U (fun _ _=>.inl vL) harr⟩
abbrev mA:=@La.round
theorem VU (h:La r P c B S Q):Ar (Exit.then (Kv r P c Q) Q) .normal B S:=h
abbrev qW:=@VU
end
def OW (P:Program):List (Nat×Nat×Nat)→Prop
 | []=>True
 | x :: l=>Ay P x.1 x.2.1 x.2.2∧OW P l
def H4 (P:Program):List Nat→Prop
 | []=>True
 | x :: l=>(∃ E sz,uX P x E sz)∧H4 P l
def F6 (P:Program):List Nat→Prop
 | []=>True
 | x :: l=>xB P x=true∧F6 P l
def F7 (P:Program):List (Nat×Nat)→Prop
 | []=>True
 | x :: l=>(xZ P x.1 x.2=true∧(P.info? x.1).map (·.size)=some x.2)∧F7 P l
def H5 (P:Program):List Nat→Prop
 | []=>True
 | x :: l=>wJ P x∧H5 P l
class Tab (P:Program) where
 fn:List Nat
 fnP:H5 P fn
 one:List Nat
 agg:List (Nat×Nat)
 sl:List Nat
 fa:List (Nat×Nat×Nat)
 oneP:F6 P one
 aggP:F7 P agg
 slP:H4 P sl
 faP:OW P fa
def Xi:List Nat→Nat→Bool
 | [],_=>false
 | x :: l,t=>bif Nat.beq x t then true else Xi l t
def lookN:List (Nat×Nat)→Nat→Option Nat
 | [],_=>none
 | (x,y) :: l,t=>bif Nat.beq x t then some y else lookN l t
def OX:List (Nat×Nat×Nat)→Nat→Nat→Option Nat
 | [],_,_=>none
 | (x,y,z) :: l,s,f=>bif Nat.beq x s && Nat.beq y f then some z else OX l s f
theorem uN {α:Type} {b:Bool} {x y z:α} (h:(bif b then x else y)=z):(b=true∧x=z)∨(b=false∧y=z):=by cases b <;> simp_all
theorem Oy {P:Program}:∀ {l:List Nat} {t:Nat},F6 P l→Xi l t=true→xB P t=true
 | [],t,_,h=>xY
 | x :: l,t,ha,h=>by
   rcases uN h with ⟨h1,_⟩ | ⟨_,h2⟩
   · have:=aD h1;subst this;exact ha.1
   exact Oy ha.2 h2
theorem Xj {P:Program}:∀ {l:List Nat} {t:Nat},H5 P l→Xi l t=true→wJ P t
 | [],t,_,h=>xY
 | x :: l,t,ha,h=>by
   rcases uN h with ⟨h1,_⟩ | ⟨_,h2⟩
   · have:=aD h1;subst this;exact ha.1
   exact Xj ha.2 h2
theorem HK {P:Program}:∀ {l:List Nat} {t:Nat},H4 P l→Xi l t=true→∃ E sz,uX P t E sz
 | [],t,_,h=>xY
 | x :: l,t,ha,h=>by
   rcases uN h with ⟨h1,_⟩ | ⟨_,h2⟩
   · have:=aD h1;subst this;exact ha.1
   exact HK ha.2 h2
theorem Kw {P:Program}:∀ {l:List (Nat×Nat)} {t k:Nat},F7 P l→lookN l t=some k→xZ P t k=true∧(P.info? t).map (·.size)=some k
 | [],t,k,_,h=>xY
 | (x,y) :: l,t,k,ha,h=>by
   rcases uN h with ⟨h1,h2⟩ | ⟨_,h2⟩
   · have:=aD h1;subst this;cases h2;exact ha.1
   exact Kw ha.2 h2
theorem Zr {P:Program}:∀ {l:List (Nat×Nat×Nat)} {s f k:Nat},OW P l→OX l s f=some k→Ay P s f k
 | [],s,f,k,_,h=>xY
 | (x,y,z) :: l,s,f,k,ha,h=>by
   rcases uN h with ⟨h1,h2⟩ | ⟨_,h2⟩
   · simp only [aB] at h1;have h3:=aD h1.1;have h4:=aD h1.2;subst h3;subst h4;cases h2;exact ha.1
   exact Zr ha.2 h2
def OB:IntKind→IntKind→Bool
 | .i8,.i8 | .i16,.i16 | .i32,.i32 | .i64,.i64 | .u8,.u8 | .u16,.u16 | .u32,.u32 | .u64,.u64=>true
 | _,_=>false
theorem Ky {a b:IntKind} (h:OB a b=true):a=b:=by cases a <;> cases b <;> first | rfl | cases h
def Ic {α:Type}:List α→Nat→Option α
 | [],_=>none
 | x :: l,n=>bif Nat.beq n 0 then some x else Ic l (Nat.pred n)
theorem zE {α:Type}:∀ (l:List α) (n:Nat),Ic l n=l[n]?
 | [],n=>by simp [Ic]
 | x :: l,n=>by
   unfold Ic;cases n with
   | zero=>rfl
   | succ n=>simp only [Nat.beq,nT,Nat.pred_succ,zE l n,gP]
abbrev Rz:=Value×List Nat×Prop
inductive IOp | eql | neq | lss | leq | gtr | geq | add | sub
def iop:BinOp→Option IOp
 | .eql=>some .eql | .neq=>some .neq | .lss=>some .lss | .leq=>some .leq | .gtr=>some .gtr | .geq=>some .geq | .add=>some .add | .sub=>some .sub
 | _=>none
def pm (o:IOp) (k:IntKind) (m n:Int) (hs:List Nat):Option Rz:=
 match o with
 | .eql=>some (.bool (decide (m=n)),hs,True)
 | .neq=>some (.bool (decide (m≠n)),hs,True)
 | .lss=>some (.bool (decide (m<n)),hs,True)
 | .leq=>some (.bool (decide (m≤n)),hs,True)
 | .gtr=>some (.bool (decide (n<m)),hs,True)
 | .geq=>some (.bool (decide (n≤m)),hs,True)
 | .add=>bif OB k .i64 then some (.int .i64 (m+n),hs,-9223372036854775808≤m+n∧m+n≤9223372036854775807) else none
 | .sub=>bif OB k .i64 then some (.int .i64 (m - n),hs,-9223372036854775808≤m - n∧m - n≤9223372036854775807) else none
def gq (P:Program) [Tab P] (e:B0) (H:Hp) (hs:List Nat):Op→Option Rz
 | .move x=>match e.ev x with | some v=>some (v,hs,True) | none=>none
 | .assign x=>match e.ev x with | some v=>some (v,hs,True) | none=>none
 | .pick c x y=>match e.ev c with
   | some (.bool b)=>match e.ev (bif b then x else y) with | some v=>some (v,hs,True) | none=>none
   | _=>none
 | .unOp .not _ x=>match e.ev x with | some (.bool b)=>some (.bool (!b),hs,True) | _=>none
 | .binOp o _ x y _=>match iop o with
   | some o=>match e.ev x with
     | some (.int k m)=>match e.ev y with
       | some (.int k' n)=>bif OB k k' then pm o k m n hs else none
       | _=>none
     | _=>none
   | none=>none
 | .extract x i=>match e.ev x with
   | some (.tuple ⟨vs⟩)=>match Ic vs i with | some v=>some (v,hs,True) | none=>none
   | _=>none
 | .nilCheck x=>match e.ev x with
   | some (.pointer (some ad))=>some (.pointer (some ad),hs,True)
   | _=>none
 | .fieldAddr s x f=>match OX (Tab.fa P) s f with
   | some k=>match e.ev x with
     | some (.pointer (some ⟨b,o,none⟩))=>some (.pointer (some ⟨b,o+k,none⟩),hs,True)
     | _=>none
   | none=>none
 | .load T x=>match hs with
   | t :: hs=>match e.ev x with
     | some (.pointer (some ⟨b,off,none⟩))=>match H.get t with
       | some (some b',.cells ⟨cs⟩ _ _)=>match Xi (Tab.one P) T with
         | true=>match Ic cs off with | some v=>some (v,hs,b=b') | none=>none
         | false=>match lookN (Tab.agg P) T with
           | some k=>bif Nat.beq off 0 && Nat.beq cs.length k then some (.agg cs.toArray,hs,b=b') else none
           | none=>none
       | _=>none
     | _=>none
   | []=>none
 | .call ⟨.builtin .len,⟨[x]⟩,⟨[T]⟩⟩=>match Xi (Tab.sl P) T with
   | true=>match e.ev x with | some (.slice _ n _)=>some (.int .i64 n,hs,True) | _=>none
   | false=>none
 | _=>none
theorem ah {P:Program} {e:B0} {H:Hp} {G:A3} {ty t t':TypeId} {hs hs':List Nat} {bo:BinOp} {o:IOp} {x y:Operand} {k:IntKind} {m n:Int} {v:Value} {ob:Prop} (ho:iop bo=some o) (hx:e.ev x=some (.int k m)) (hy:e.ev y=some (.int k n))
 (h:pm o k m n hs=some (v,hs',ob)) (hob:ob):Qy P (.binOp bo t x y t') ty e H G v:=by
 cases bo <;> first | (cases ho;done) | skip
 all_goals
  cases ho;unfold pm at h;first
   | (cases h;first | exact uB hx hy | exact Qy.neq hx hy | exact oX hx hy | exact Qy.leq hx hy | exact Qy.gtr hx hy | exact Qy.geq hx hy)
   | (rcases uN h with ⟨hk,h⟩ | ⟨_,h⟩
      · have:=Ky hk;subst this;cases h;first | exact tC hx hy hob | exact Qy.sub hx hy hob
      cases h)
theorem Xk {P:Program} [T:Tab P] {e:B0} {H:Hp} {G:A3} {ty:TypeId} {hs hs':List Nat} {o:Op} {v:Value} {ob:Prop} (h:gq P e H hs o=some (v,hs',ob)) (hob:ob):Qy P o ty e H G v:=by
 unfold gq at h;split at h
 · split at h
   · rename_i hx;cases h;exact cT hx
   cases h
 · split at h
   · rename_i hx;cases h;exact cG hx
   cases h
 · split at h
   · rename_i hc;split at h
     · rename_i hv;cases h;exact Qy.pick hc hv
     cases h
   cases h
 · split at h
   · rename_i hx;cases h;exact Qy.not hx
   cases h
 · split at h
   · rename_i o' ho;split at h
     · rename_i k m hx;split at h
       · rename_i k' n hy;rcases uN h with ⟨hk,h9⟩ | ⟨_,h9⟩
         · have h8:=Ky hk;subst h8;exact ah ho hx hy h9 hob
         cases h9
       cases h
     cases h
   cases h
 · split at h
   · rename_i hx;split at h
     · rename_i hv;cases h;rw [zE] at hv;exact lL hx hv
     cases h
   cases h
 · split at h
   · rename_i hx;cases h;exact sC hx
   cases h
 · split at h
   · rename_i k hk;split at h
     · rename_i hx;cases h;exact iV (Zr T.faP hk) hx
     cases h
   cases h
 · split at h
   · split at h
     · rename_i hx;split at h
       · rename_i hH;split at h
         · rename_i h1;split at h
           · rename_i hv;cases h;subst hob;rw [zE] at hv;exact oH _ (Oy T.oneP h1) hx hH hv
           cases h
         split at h
         · rename_i k hk;rcases uN h with ⟨hc,h⟩ | ⟨_,h⟩
           · cases h;subst hob;simp only [aB] at hc;have h0:=aD hc.1;subst h0;exact rK _ (Kw T.aggP hk).1 hx hH (aD hc.2)
           cases h
         cases h
       cases h
     cases h
   cases h
 · split at h
   · rename_i h1;split at h
     · rename_i hx;cases h;obtain ⟨E,sz,hT⟩:=HK T.slP h1;exact pP hT hx
     cases h
   cases h
 cases h
inductive Fr where
 | seq (y:Code)
 | thn (K:Act→World→Prop)
 | blk (id:Nat)
def Ni (P:Program) (r:Option Nat) (Q0:Exit→Act→World→Prop):List Fr→Exit→Act→World→Prop
 | []=>Q0
 | .seq y :: k=>Exit.then (y.wpIn (FF r) 0 P (Ni P r Q0 k)) (Ni P r Q0 k)
 | .thn K :: k=>Exit.then K (Ni P r Q0 k)
 | .blk id :: k=>Exit.inBlock id (Ni P r Q0 k)
def B1 (P:Program) (r:Option Nat) (Q:Exit→Act→World→Prop) (k:List Fr) (Q0:Exit→Act→World→Prop):Prop:=Q=Ni P r Q0 k
theorem B1.seq {P:Program} {r:Option Nat} {Q Q0:Exit→Act→World→Prop} {k:List Fr} {y:Code} (h:B1 P r Q k Q0):B1 P r (Exit.then (y.wpIn (FF r) 0 P Q) Q) (.seq y :: k) Q0:=by
 unfold B1 at *;subst h;rfl
abbrev mZ:=@B1.seq
theorem B1.thn {P:Program} {r:Option Nat} {Q Q0:Exit→Act→World→Prop} {k:List Fr} {K:Act→World→Prop} (h:B1 P r Q k Q0):B1 P r (Exit.then K Q) (.thn K :: k) Q0:=by
 unfold B1 at *;subst h;rfl
abbrev mY:=@B1.thn
theorem B1.blk {P:Program} {r:Option Nat} {Q Q0:Exit→Act→World→Prop} {k:List Fr} {id:Nat} (h:B1 P r Q k Q0):B1 P r (Exit.inBlock id Q) (.blk id :: k) Q0:=by
 unfold B1 at *;subst h;rfl
abbrev nA:=@B1.blk
theorem EA {P:Program} {r r':Option Nat} {Q0 Q1:Exit→Act→World→Prop} {k:List Fr} (h:B1 P r Q0 k Q1):B1 P r (Ni P r' Q0 []) k Q1:=h
abbrev mO:=@EA
theorem EC {P:Program} {r:Option Nat} {Q0 Q1:Exit→Act→World→Prop} {k k':List Fr} {y:Code} (h:B1 P r (Ni P r Q0 k) k' Q1):B1 P r (Ni P r Q0 (.seq y :: k)) (.seq y :: k') Q1:=mZ h
abbrev mN:=@EC
theorem ED {P:Program} {r:Option Nat} {Q0 Q1:Exit→Act→World→Prop} {k k':List Fr} {K:Act→World→Prop} (h:B1 P r (Ni P r Q0 k) k' Q1):B1 P r (Ni P r Q0 (.thn K :: k)) (.thn K :: k') Q1:=mY h
abbrev mM:=@ED
theorem EE {P:Program} {r:Option Nat} {Q0 Q1:Exit→Act→World→Prop} {k k':List Fr} {id:Nat} (h:B1 P r (Ni P r Q0 k) k' Q1):B1 P r (Ni P r Q0 (.blk id :: k)) (.blk id :: k') Q1:=nA h
abbrev mP:=@EE
theorem B1.none {P:Program} {Q:Exit→Act→World→Prop}:B1 P .none Q [] Q:=rfl
abbrev mL:=@B1.none
theorem B1.any {P:Program} {r:Option Nat} {Q:Exit→Act→World→Prop}:B1 P r Q [] Q:=rfl
abbrev oC:=@B1.any
inductive Fo where
 | c (c:Code)
 | l (ops:Array Oper) (l:List Oper)
 | a (x:Exit)
def Cm:List Oper→Nat→Option Nat
 | [],_=>none
 | x :: l,n=>bif Nat.beq n 0 then x.dst else Cm l (Nat.pred n)
theorem Dp:∀ (l:List Oper) (n:Nat),Cm l n=(l[n]?).bind (·.dst)
 | [],n=>by simp [Cm]
 | x :: l,n=>by
   unfold Cm;cases n with
   | zero=>rfl
   | succ n=>simp only [Nat.beq,nT,Nat.pred_succ,Dp l n,gP]
abbrev Cf:=Fo×List Fr×B0×Hp×List Nat
def OY (P:Program) [Tab P] (n:Nat) (ops:Array Oper) (k:List Fr) (e:B0) (H:Hp) (hs:List Nat) (rest:List Oper):Oper→Option (Cf×Prop)
 | ⟨some d,o,_,_,_,none⟩=>match Nat.ble (d+1) n with
   | true=>match gq P e H hs o with
     | some (v,hs,ob)=>some ((.l ops rest,k,(d,v) :: e,H,hs),ob)
     | none=>none
   | false=>none
 | ⟨none,.store T x y,_,_,_,none⟩=>match hs with
   | t :: hs=>match e.ev x with
     | some (.pointer (some ⟨b,off,none⟩))=>match H.get t with
       | some (some b',.cells ⟨cs⟩ bt (0,0))=>match e.ev y with
         | some v=>match Xi (Tab.one P) T with
           | true=>bif v.oneCell' && Nat.ble (off+1) cs.length then some ((.l ops rest,k,e,(t,some b',.cells (cs.set off v).toArray bt (0,0)) :: H,hs),b=b') else none
           | false=>match lookN (Tab.agg P) T with
             | some m=>match v with
               | .agg ⟨vs⟩=>bif Nat.beq off 0 && (Nat.beq vs.length m && (Nat.beq vs.length cs.length && vs.all (·.oneCell'))) then some ((.l ops rest,k,e,(t,some b',.cells vs.toArray bt (0,0)) :: H,hs),b=b') else none
               | _=>none
             | none=>none
         | none=>none
       | _=>none
     | _=>none
   | []=>none
 | ⟨dst,o,ty,pos,after,some (j,w)⟩=>match Cm ops.toList j with
   | some t=>match e.get t with
     | some (.bool b)=>bif (match b,w with | true,true=>true | false,false=>true | _,_=>false) then some ((.l ops (⟨dst,o,ty,pos,after,none⟩ :: rest),k,e,H,hs),True)
       else match dst with
        | some d=>bif Nat.ble (d+1) n then some ((.l ops rest,k,(d,undef) :: e,H,hs),True) else none
        | none=>none
     | _=>none
   | none=>none
 | _=>none
def pq (P:Program) [Tab P] (n:Nat):Fo→List Fr→B0→Hp→List Nat→Option (Cf×Prop)
 | .c (.seq x y),k,e,H,hs=>some ((.c x,.seq y :: k,e,H,hs),True)
 | .c .skip,k,e,H,hs=>some ((.a .normal,k,e,H,hs),True)
 | .c (.label _),k,e,H,hs=>some ((.a .normal,k,e,H,hs),True)
 | .c (.exit id),k,e,H,hs=>some ((.a (.exit id),k,e,H,hs),True)
 | .c .ret,k,e,H,hs=>some ((.a .ret,k,e,H,hs),True)
 | .c (.block id c),k,e,H,hs=>some ((.c c,.blk id :: k,e,H,hs),True)
 | .c (.region _ ⟨l⟩ false),k,e,H,hs=>bif l.all vT then some ((.l l.toArray l,k,e,H,hs),True) else none
 | .c (.cond c x y),k,e,H,h :: hs=>match e.ev c with
   | some (.bool b)=>bif Nat.beq h 1 then some ((.c x,k,e,H,hs),b=true) else some ((.c y,k,e,H,hs),b=false)
   | _=>none
 | .a .normal,.seq y :: k,e,H,hs=>some ((.c y,k,e,H,hs),True)
 | .a .normal,.blk _ :: k,e,H,hs=>some ((.a .normal,k,e,H,hs),True)
 | .a (.exit id),.blk j :: k,e,H,hs=>bif Nat.beq id j then some ((.a .normal,k,e,H,hs),True) else some ((.a (.exit id),k,e,H,hs),True)
 | .a (.exit id),_ :: k,e,H,hs=>some ((.a (.exit id),k,e,H,hs),True)
 | .a .ret,_ :: k,e,H,hs=>some ((.a .ret,k,e,H,hs),True)
 | .l _ [],k,e,H,hs=>some ((.a .normal,k,e,H,hs),True)
 | .l ops (o :: rest),k,e,H,hs=>OY P n ops k e H hs rest o
 | _,_,_,_,_=>none
def run (P:Program) [Tab P] (n:Nat):Nat→Fo→List Fr→B0→Hp→List Nat→Option (Cf×Prop)
 | 0,f,k,e,H,hs=>some ((f,k,e,H,hs),True)
 | m+1,f,k,e,H,hs=>match pq P n f k e H hs with
   | some ((f,k,e,H,hs),ob)=>match run P n m f k e H hs with
     | some (c,obs)=>some (c,ob∧obs)
     | none=>none
   | none=>none
section
variable {P:Program} {r:Option Nat} {B:Bs} {D:List Deferred} {G:A3} {Q0:Exit→Act→World→Prop}
def Fu (P:Program) (r:Option Nat) (B:Bs) (D:List Deferred) (G:A3) (Q0:Exit→Act→World→Prop):Cf→Prop
 | (.c c,k,e,H,_)=>Wc r P c B ⟨e,D,H,G⟩ (Ni P r Q0 k)
 | (.l ops l,k,e,H,_)=>Wl P ops l B ⟨e,D,H,G⟩ (Ni P r Q0 k .normal)
 | (.a x,k,e,H,_)=>Ar (Ni P r Q0 k) x B ⟨e,D,H,G⟩
theorem OZ [T:Tab P] {ops:Array Oper} {k:List Fr} {e:B0} {H:Hp} {hs:List Nat} {rest:List Oper} {o:Oper} {c:Cf} {ob:Prop} (h:OY P B.n ops k e H hs rest o=some (c,ob)) (hob:ob) (hg:Fu P r B D G Q0 c) :
 Fu P r B D G Q0 (.l ops (o :: rest),k,e,H,hs):=by
 unfold OY at h;split at h
 · split at h
   · rename_i hn;split at h
     · rename_i hq;cases h;exact aU hn (Xk hq hob) hg
     cases h
   cases h
 · split at h
   · split at h
     · rename_i hx;split at h
       · rename_i hH;split at h
         · rename_i v hy;split at h
           · rename_i h1;rcases uN h with ⟨hc,h⟩ | ⟨_,h⟩
             · cases h;subst hob;simp only [aB] at hc;exact Wl.store _ (Oy T.oneP h1) hx hy hc.1 hH hc.2 hg
             cases h
           split at h
           · rename_i m hm;split at h
             · rename_i vs;rcases uN h with ⟨hc,h⟩ | ⟨_,h⟩
               · cases h;subst hob;simp only [aB] at hc;have h0:=aD hc.1;subst h0;exact oB _ (Kw T.aggP hm).2 hx hy (aD hc.2.1) hc.2.2.2 hH hc.2.2.1 hg
               cases h
             cases h
           cases h
         cases h
       cases h
     cases h
   cases h
 · split at h
   · rename_i t ht;rw [Dp] at ht;split at h
     · rename_i b hb;rcases uN h with ⟨hw,h⟩ | ⟨hw,h⟩
       · cases h;refine Wl.want (t:=t) (by simpa using ht) (hb.trans ?_) hg;split at hw <;> first | rfl | cases hw
       split at h
       · rcases uN h with ⟨hn,h⟩ | ⟨_,h⟩
         · cases h;refine Wl.pass (t:=t) (by simpa using ht) (hb.trans ?_) hn hg;rename_i w _ _ _ _ _;cases b <;> cases w <;> first | rfl | cases hw
         cases h
       cases h
     cases h
   cases h
 cases h
theorem ai [T:Tab P] {f:Fo} {k:List Fr} {e:B0} {H:Hp} {hs:List Nat} {c:Cf} {ob:Prop} (h:pq P B.n f k e H hs=some (c,ob)) (hob:ob) (hg:Fu P r B D G Q0 c) :
 Fu P r B D G Q0 (f,k,e,H,hs):=by
 unfold pq at h;split at h
 · cases h;exact bP hg
 · cases h;exact iU hg
 · cases h;exact Wc.label hg
 · cases h;exact Wc.exit hg
 · cases h;exact kK hg
 · cases h;exact lD hg
 · rcases uN h with ⟨hd,h⟩ | ⟨_,h⟩
   · cases h;exact aZ hd hg
   cases h
 · split at h
   · rename_i b hb;rcases uN h with ⟨_,h⟩ | ⟨_,h⟩
     · cases h;subst hob;exact OH hb hg
     cases h;subst hob;exact OI hb hg
   cases h
 · cases h;exact bE hg
 · cases h;exact lW hg
 · rcases uN h with ⟨hd,h9⟩ | ⟨hd,h9⟩
   · have h8:=aD hd;subst h8;cases h9;exact Ww hg
   cases h9;exact DR hd hg
 · rename_i id fr k hne;cases h;cases fr with
   | seq y=>exact pN hg
   | thn K=>exact pN hg
   | blk j=>exact (hne j U).elim
 · rename_i fr k;cases h;cases fr with
   | seq y=>exact kQ hg
   | thn K=>exact kQ hg
   | blk j=>exact pE hg
 · cases h;exact bT hg
 · exact OZ h hob hg
 cases h
theorem run_ok [T:Tab P]:∀ {m:Nat} {f:Fo} {k:List Fr} {e:B0} {H:Hp} {hs:List Nat} {c:Cf} {ob:Prop},run P B.n m f k e H hs=some (c,ob)→ob→Fu P r B D G Q0 c→Fu P r B D G Q0 (f,k,e,H,hs)
 | 0,f,k,e,H,hs,c,ob,h,hob,hg=>by cases h;exact hg
 | m+1,f,k,e,H,hs,c,ob,h,hob,hg=>by
   unfold run at h;split at h
   · rename_i h1;split at h
     · rename_i h2;cases h;exact ai h1 hob.1 (run_ok h2 hob.2 hg)
     cases h
   cases h
end
section
variable {P:Program} [Tab P] {r:Option Nat} {B:Bs} {D:List Deferred} {G:A3} {Q Q0:Exit→Act→World→Prop} {k k':List Fr} {e e':B0} {H H':Hp} {hs':List Nat} {ob:Prop} {c c':Code} {l l':List Oper} {ops ops':Array Oper} {x x':Exit}
theorem Wc.gc (n:Nat) (hs:List Nat) (hg:Wc r P c' B ⟨e',D,H',G⟩ (Ni P r Q0 k')) (hr:B1 P r Q k Q0:=by (repeat with_reducible (first | apply mO | apply mN | apply mP | apply mM | apply mZ | apply nA | apply mY));first | exact mL | exact oC) (h:run P B.n n (.c c) k e H hs=some ((.c c',k',e',H',hs'),ob):=by exact U) (hob:ob:=by (repeat refine And.intro So ?_);exact I8):Wc r P c B ⟨e,D,H,G⟩ Q:=by
 unfold B1 at hr;subst hr;exact run_ok h hob hg
abbrev dN:=@Wc.gc
theorem Wc.gl (n:Nat) (hs:List Nat) (hg:Wl P ops' l' B ⟨e',D,H',G⟩ (Ni P r Q0 k' .normal)) (hr:B1 P r Q k Q0:=by (repeat with_reducible (first | apply mO | apply mN | apply mP | apply mM | apply mZ | apply nA | apply mY));first | exact mL | exact oC) (h:run P B.n n (.c c) k e H hs=some ((.l ops' l',k',e',H',hs'),ob):=by exact U) (hob:ob:=by (repeat refine And.intro So ?_);exact I8):Wc r P c B ⟨e,D,H,G⟩ Q:=by
 unfold B1 at hr;subst hr;exact run_ok h hob hg
abbrev aL:=@Wc.gl
theorem Wc.ga (n:Nat) (hs:List Nat) (hg:Ar (Ni P r Q0 k') x' B ⟨e',D,H',G⟩) (hr:B1 P r Q k Q0:=by (repeat with_reducible (first | apply mO | apply mN | apply mP | apply mM | apply mZ | apply nA | apply mY));first | exact mL | exact oC) (h:run P B.n n (.c c) k e H hs=some ((.a x',k',e',H',hs'),ob):=by exact U) (hob:ob:=by (repeat refine And.intro So ?_);exact I8):Wc r P c B ⟨e,D,H,G⟩ Q:=by
 unfold B1 at hr;subst hr;exact run_ok h hob hg
abbrev cJ:=@Wc.ga
theorem Wl.gc (n:Nat) (hs:List Nat) (hg:Wc r P c' B ⟨e',D,H',G⟩ (Ni P r Q0 k')) (hr:B1 P r Q k Q0:=by (repeat with_reducible (first | apply mO | apply mN | apply mP | apply mM | apply mZ | apply nA | apply mY));first | exact mL | exact oC) (h:run P B.n n (.l ops l) k e H hs=some ((.c c',k',e',H',hs'),ob):=by exact U) (hob:ob:=by (repeat refine And.intro So ?_);exact I8):Wl P ops l B ⟨e,D,H,G⟩ (Q .normal):=by
 unfold B1 at hr;subst hr;exact run_ok h hob hg
abbrev bY:=@Wl.gc
theorem Wl.gl (n:Nat) (hs:List Nat) (hg:Wl P ops' l' B ⟨e',D,H',G⟩ (Ni P r Q0 k' .normal)) (hr:B1 P r Q k Q0:=by (repeat with_reducible (first | apply mO | apply mN | apply mP | apply mM | apply mZ | apply nA | apply mY));first | exact mL | exact oC) (h:run P B.n n (.l ops l) k e H hs=some ((.l ops' l',k',e',H',hs'),ob):=by exact U) (hob:ob:=by (repeat refine And.intro So ?_);exact I8):Wl P ops l B ⟨e,D,H,G⟩ (Q .normal):=by
 unfold B1 at hr;subst hr;exact run_ok h hob hg
abbrev aN:=@Wl.gl
theorem Wl.ga (n:Nat) (hs:List Nat) (hg:Ar (Ni P r Q0 k') x' B ⟨e',D,H',G⟩) (hr:B1 P r Q k Q0:=by (repeat with_reducible (first | apply mO | apply mN | apply mP | apply mM | apply mZ | apply nA | apply mY));first | exact mL | exact oC) (h:run P B.n n (.l ops l) k e H hs=some ((.a x',k',e',H',hs'),ob):=by exact U) (hob:ob:=by (repeat refine And.intro So ?_);exact I8):Wl P ops l B ⟨e,D,H,G⟩ (Q .normal):=by
 unfold B1 at hr;subst hr;exact run_ok h hob hg
abbrev bA:=@Wl.ga
theorem Ar.gc (n:Nat) (hs:List Nat) (hg:Wc r P c' B ⟨e',D,H',G⟩ (Ni P r Q0 k')) (hr:B1 P r Q k Q0:=by (repeat with_reducible (first | apply mO | apply mN | apply mP | apply mM | apply mZ | apply nA | apply mY));first | exact mL | exact oC) (h:run P B.n n (.a x) k e H hs=some ((.c c',k',e',H',hs'),ob):=by exact U) (hob:ob:=by (repeat refine And.intro So ?_);exact I8):Ar Q x B ⟨e,D,H,G⟩:=by
 unfold B1 at hr;subst hr;exact run_ok h hob hg
abbrev rI:=@Ar.gc
theorem Ar.gl (n:Nat) (hs:List Nat) (hg:Wl P ops' l' B ⟨e',D,H',G⟩ (Ni P r Q0 k' .normal)) (hr:B1 P r Q k Q0:=by (repeat with_reducible (first | apply mO | apply mN | apply mP | apply mM | apply mZ | apply nA | apply mY));first | exact mL | exact oC) (h:run P B.n n (.a x) k e H hs=some ((.l ops' l',k',e',H',hs'),ob):=by exact U) (hob:ob:=by (repeat refine And.intro So ?_);exact I8):Ar Q x B ⟨e,D,H,G⟩:=by
 unfold B1 at hr;subst hr;exact run_ok h hob hg
abbrev rH:=@Ar.gl
theorem Ar.ga (n:Nat) (hs:List Nat) (hg:Ar (Ni P r Q0 k') x' B ⟨e',D,H',G⟩) (hr:B1 P r Q k Q0:=by (repeat with_reducible (first | apply mO | apply mN | apply mP | apply mM | apply mZ | apply nA | apply mY));first | exact mL | exact oC) (h:run P B.n n (.a x) k e H hs=some ((.a x',k',e',H',hs'),ob):=by exact U) (hob:ob:=by (repeat refine And.intro So ?_);exact I8):Ar Q x B ⟨e,D,H,G⟩:=by
 unfold B1 at hr;subst hr;exact run_ok h hob hg
abbrev iN:=@Ar.ga
theorem aj {K:Act→World→Prop} (n:Nat) (hs:List Nat) (hg:Wl P ops' l' B ⟨e',D,H',G⟩ K) (h:run P B.n n (.l ops l) [] e H hs=some ((.l ops' l',[],e',H',hs'),ob):=by exact U) (hob:ob:=by (repeat refine And.intro So ?_);exact I8):Wl P ops l B ⟨e,D,H,G⟩ K:=
 run_ok (r:=none) (Q0:=fun _=>K) h hob hg
abbrev aF:=@aj
end
section
variable {P:Program} {B:Bs} {e:B0} {D:List Deferred} {H H0:Hp} {G G0:A3} {K:Act→World→Prop} {ops:Array Oper} {l rest:List Oper} {f:Nat} {listed:Array Bool} {wr:List (Nat×Nat)} {ty:TypeId} {pos:String} {after:Array Edge} {d:Nat}
theorem Gm.o1 {o:Oper} (i:Nat) (h:Wl P l.toArray [o] B ⟨e,D,H,G⟩ (Eo P l.toArray f (listed.setIfInBounds i true) wr H0 G0 K)) (hH:H.sub (H0.live wr listed):=by repeat (first | exact I8 | refine ⟨U,?_⟩)) (hG:G0.le G:=by first | exact cC _ | repeat (first | assumption | refine bH ?_ uK)) (hr:Region.ready .any l.toArray listed=[i]:=by kernel_rfl) (ho:l[i]?=some o:=by exact U) :
 Gm P l.toArray (f+1) listed wr H0 G0 B ⟨e,D,H,G⟩ K:=rB i hH hG hr ho h
abbrev fC:=@Gm.o1
theorem Gm.o2 {o1 o2:Oper} (i j:Nat) (g1:Wl P l.toArray [o1] B ⟨e,D,H,G⟩ (Eo P l.toArray f (listed.setIfInBounds i true) wr H0 G0 K)) (g2:Wl P l.toArray [o2] B ⟨e,D,H,G⟩ (Eo P l.toArray f (listed.setIfInBounds j true) wr H0 G0 K))
 (hH:H.sub (H0.live wr listed):=by repeat (first | exact I8 | refine ⟨U,?_⟩)) (hG:G0.le G:=by first | exact cC _ | repeat (first | assumption | refine bH ?_ uK)) (hr:Region.ready .any l.toArray listed=[i,j]:=by kernel_rfl) (h1:l[i]?=some o1:=by exact U) (h2:l[j]?=some o2:=by exact U) :
 Gm P l.toArray (f+1) listed wr H0 G0 B ⟨e,D,H,G⟩ K:=ZY i j hH hG hr h1 h2 g1 g2
theorem Gm.o3 {o1 o2 o3:Oper} (i j k:Nat) (g1:Wl P l.toArray [o1] B ⟨e,D,H,G⟩ (Eo P l.toArray f (listed.setIfInBounds i true) wr H0 G0 K)) (g2:Wl P l.toArray [o2] B ⟨e,D,H,G⟩ (Eo P l.toArray f (listed.setIfInBounds j true) wr H0 G0 K)) (g3:Wl P l.toArray [o3] B ⟨e,D,H,G⟩ (Eo P l.toArray f (listed.setIfInBounds k true) wr H0 G0 K))
 (hH:H.sub (H0.live wr listed):=by repeat (first | exact I8 | refine ⟨U,?_⟩)) (hG:G0.le G:=by first | exact cC _ | repeat (first | assumption | refine bH ?_ uK)) (hr:Region.ready .any l.toArray listed=[i,j,k]:=by kernel_rfl) (h1:l[i]?=some o1:=by exact U) (h2:l[j]?=some o2:=by exact U) (h3:l[k]?=some o3:=by exact U) :
 Gm P l.toArray (f+1) listed wr H0 G0 B ⟨e,D,H,G⟩ K:=OO i j k hH hG hr h1 h2 h3 g1 g2 g3
theorem Gm.fin {Q:Exit→Act→World→Prop} {x:Exit} (h:Ar Q x B ⟨e,D,H,G⟩) (hr:Region.ready .any ops listed=[]:=by kernel_rfl) (hH:H.sub (H0.live wr listed):=by repeat (first | exact I8 | refine ⟨U,?_⟩)) (hG:G0.le G:=by first | exact cC _ | repeat (first | assumption | refine bH ?_ uK)):Gm P ops 0 listed wr H0 G0 B ⟨e,D,H,G⟩ (Q x):=
 mU hr hH hG h
abbrev eI:=@Gm.fin
theorem Gm.c [T:Tab P] {o:Op} {v:Value} {hs':List Nat} {ob:Prop} (i:Nat) (ts hs:List Nat) (h:Gm P l.toArray f (listed.setIfInBounds i true) wr H0 G0 B ⟨(d,v) :: e,D,H,G⟩ K) (ho:l[i]?=some ⟨some d,o,ty,pos,after,none⟩:=by exact U) (hv:gq P e (H0.only ts) hs o=some (v,hs',ob):=by exact rfl)
 (hob:ob:=by first | exact I8 | with_reducible rfl | assumption | omega | rfl) (hn:Nat.ble (d+1) B.n=true:=by exact U) (hB:zD l.toArray listed wr i ts=true:=by kernel_rfl):Gm P l.toArray (f+1) listed wr H0 G0 B ⟨e,D,H,G⟩ K:=
 Gm.q i ts hB ho hn (Xk hv hob) h
abbrev bO:=@Gm.c
theorem Gm.u {o:Op} {v:Value} (i:Nat) (ts:List Nat) (ho:l[i]?=some ⟨some d,o,ty,pos,after,none⟩) (hq:Qy P o ty e (H0.only ts) G0 v) (h:Gm P l.toArray f (listed.setIfInBounds i true) wr H0 G0 B ⟨(d,v) :: e,D,H,G⟩ K)
 (hn:Nat.ble (d+1) B.n=true:=by exact U) (hB:zD l.toArray listed wr i ts=true:=by kernel_rfl):Gm P l.toArray (f+1) listed wr H0 G0 B ⟨e,D,H,G⟩ K:=
 Gm.q i ts hB ho hn hq h
abbrev eP:=@Gm.u
theorem Wl.k [T:Tab P] {f:FuncId} {xs:Array Operand} {ats:Array TypeId} {vs:List Value} {Hi:Hp} {post:Value→A3→Hp→Prop} (k:Nat) (hx:e.evs xs.toList=some vs) (hF:Does P f vs G Hi post) (h:∀ v G' Ho,G.le G'→post v G' Ho→Wl P ops rest B ⟨(d,v) :: e,D,Ho.shift k++(Hi.kill k++H),G'⟩ K)
 (hn:Nat.ble (d+1) B.n=true:=by exact U) (hf:Xi (Tab.fn P) f=true:=by exact U) (hHi:∀ t x,Hi.get t=some x→H.get (k+t)=some x:=by first | exact vA I8 | exact vA ⟨U,I8⟩ | exact vA ⟨U,U,I8⟩ | exact vA ⟨U,U,U,I8⟩) :
 Wl P ops (⟨some d,.call { callee:=.value (.func f),args:=xs,argTypes:=ats },ty,pos,after,none⟩ :: rest) B ⟨e,D,H,G⟩ K:=pF k hn (Xj T.fnP hf) hx hF hHi h
abbrev cQ:=@Wl.k
theorem Wl.k0 [T:Tab P] {f:FuncId} {xs:Array Operand} {ats:Array TypeId} {vs:List Value} {r:Value} (hx:e.evs xs.toList=some vs) (hF:Does P f vs G [] (fun v G' Ho=>v=r∧G'=G∧Ho=[])) (h:Wl P ops rest B ⟨(d,r) :: e,D,H,G⟩ K)
 (hn:Nat.ble (d+1) B.n=true:=by exact U) (hf:Xi (Tab.fn P) f=true:=by exact U) :
 Wl P ops (⟨some d,.call { callee:=.value (.func f),args:=xs,argTypes:=ats },ty,pos,after,none⟩ :: rest) B ⟨e,D,H,G⟩ K:=rY hn (Xj T.fnP hf) hx hF h
abbrev dC:=@Wl.k0
end
section
variable {P:Program} {fn:Func} {G0:A3} {Hi:Hp} {w0:World} {post:Value→A3→Hp→Prop} {n:Nat} {e:B0} {H:Hp} {G:A3} {x:Exit} {t1 t2 t3:Nat} {v1 v2 v3:Value}
theorem Ar.e1 (hp:post v1 G (H.only [])) (hx:x=.normal∨x=.ret:=by exact .inr U) (hres:fn.results=#[.tmp t1]:=by exact U) (h1:e.get t1=some v1:=by exact U):Ar (HE P fn G0 Hi w0 post) x ⟨n,w0,Hi.has,G0⟩ ⟨e,[],H,G⟩:=
 cP hx hres (.tmp h1) (aV _ _) hp
abbrev cZ:=@Ar.e1
theorem Ar.e2 (hp:post (.tuple #[v1,v2]) G (H.only [])) (hx:x=.normal∨x=.ret:=by exact .inr U) (hres:fn.results=#[.tmp t1,.tmp t2]:=by exact U) (h1:e.get t1=some v1:=by exact U) (h2:e.get t2=some v2:=by exact U):Ar (HE P fn G0 Hi w0 post) x ⟨n,w0,Hi.has,G0⟩ ⟨e,[],H,G⟩:=
 jZ hx hres (.tmp h1) (.tmp h2) (aV _ _) hp
abbrev fU:=@Ar.e2
theorem Ar.e3 (hp:post (.tuple #[v1,v2,v3]) G (H.only [])) (hx:x=.normal∨x=.ret:=by exact .inr U) (hres:fn.results=#[.tmp t1,.tmp t2,.tmp t3]:=by exact U) (h1:e.get t1=some v1:=by exact U) (h2:e.get t2=some v2:=by exact U) (h3:e.get t3=some v3:=by exact U) :
 Ar (HE P fn G0 Hi w0 post) x ⟨n,w0,Hi.has,G0⟩ ⟨e,[],H,G⟩:=sW hx hres (.tmp h1) (.tmp h2) (.tmp h3) (aV _ _) hp
abbrev sR:=@Ar.e3
end
section
variable {P:Program} {B:Bs} {e:B0} {D:List Deferred} {H:Hp} {G:A3}
end
section
variable {P:Program} {e:B0} {H:Hp} {G:A3} {ty:TypeId} {t t':TypeId} {x y:Operand} {m n:Int}
theorem KE (hx:e.ev x=some (.int .u32 m)) (hy:e.ev y=some (.int .u32 n)) (hb:0≤m+n∧m+n≤4294967295):Qy P (.binOp .add t x y t') ty e H G (.int .u32 (m+n)):=by
 have:=Nf (P:=P) (H:=H) (G:=G) (ty:=ty) (t:=t) (t':=t') hx hy;rwa [sJ _ hb] at this
abbrev mB:=@KE
theorem KF (hx:e.ev x=some (.int .u64 m)) (hy:e.ev y=some (.int .u64 n)) (hb:0≤m+n∧m+n≤18446744073709551615):Qy P (.binOp .add t x y t') ty e H G (.int .u64 (m+n)):=by
 have:=Nf (P:=P) (H:=H) (G:=G) (ty:=ty) (t:=t) (t':=t') hx hy;rwa [kO _ hb] at this
abbrev iB:=@KF
theorem KG (hx:e.ev x=some (.int .u32 m)) (hy:e.ev y=some (.int .u32 n)) (hb:0≤m - n∧m - n≤4294967295):Qy P (.binOp .sub t x y t') ty e H G (.int .u32 (m - n)):=by
 have:=tK (P:=P) (H:=H) (G:=G) (ty:=ty) (t:=t) (t':=t') hx hy;rwa [sJ _ hb] at this
abbrev tY:=@KG
theorem KH (hx:e.ev x=some (.int .u64 m)) (hy:e.ev y=some (.int .u64 n)) (hb:0≤m - n∧m - n≤18446744073709551615):Qy P (.binOp .sub t x y t') ty e H G (.int .u64 (m - n)):=by
 have:=tK (P:=P) (H:=H) (G:=G) (ty:=ty) (t:=t) (t':=t') hx hy;rwa [kO _ hb] at this
abbrev kV:=@KH
theorem KI (hx:e.ev x=some (.int .u64 m)) (hy:e.ev y=some (.int .u64 n)) (hb:0≤m*n∧m*n≤18446744073709551615):Qy P (.binOp .mul t x y t') ty e H G (.int .u64 (m*n)):=by
 have:=nC (P:=P) (H:=H) (G:=G) (ty:=ty) (t:=t) (t':=t') hx hy;rwa [kO _ hb] at this
abbrev oW:=@KI
theorem Oz {m n:Int} (h:0≤m):m.tdiv n=m / n:=Int.tdiv_eq_ediv_of_nonneg h
theorem PA {m n:Int} (h:0≤m):m.tmod n=m % n:=Int.tmod_eq_emod_of_nonneg h
theorem EF {m n:Int} (h:0≤m) (hn:0<n):0≤m / n∧m / n≤m:=⟨nQ h (cN hn),Int.ediv_le_self _ h⟩
theorem KJ (hx:e.ev x=some (.int .u32 m)) (hy:e.ev y=some (.int .u32 n)) (hb:0≤m∧m≤4294967295∧0<n):Qy P (.binOp .quo t x y t') ty e H G (.int .u32 (m / n)):=by
 have:=Ng (P:=P) (H:=H) (G:=G) (ty:=ty) (t:=t) (t':=t') hx hy uJ;have h1:=EF hb.1 hb.2.2;rwa [Oz hb.1,sJ _ ⟨h1.1,Int.le_trans h1.2 hb.2.1⟩] at this
abbrev sT:=@KJ
theorem KK (hx:e.ev x=some (.int .u64 m)) (hy:e.ev y=some (.int .u64 n)) (hb:0≤m∧m≤18446744073709551615∧0<n):Qy P (.binOp .quo t x y t') ty e H G (.int .u64 (m / n)):=by
 have:=Ng (P:=P) (H:=H) (G:=G) (ty:=ty) (t:=t) (t':=t') hx hy uJ;have h1:=EF hb.1 hb.2.2;rwa [Oz hb.1,kO _ ⟨h1.1,Int.le_trans h1.2 hb.2.1⟩] at this
abbrev qC:=@KK
theorem VV (hx:e.ev x=some (.int .i64 m)) (hy:e.ev y=some (.int .i64 n)) (hb:0≤m∧m≤9223372036854775807∧0<n):Qy P (.binOp .quo t x y t') ty e H G (.int .i64 (m / n)):=by
 have h1:=EF hb.1 hb.2.2;have h2:m.tdiv n=m / n:=Oz hb.1;have:=Qy.quo (P:=P) (H:=H) (G:=G) (ty:=ty) (t:=t) (t':=t') hx hy uJ (by rw [h2];exact ⟨by omega,by omega⟩);rwa [h2] at this
abbrev nB:=@VV
theorem VW {k:IntKind} (hx:e.ev x=some (.int k m)) (hy:e.ev y=some (.int k n)) (hb:0≤m∧0<n):Qy P (.binOp .rem t x y t') ty e H G (.int k (m % n)):=by
 have:=Qy.rem (P:=P) (H:=H) (G:=G) (ty:=ty) (t:=t) (t':=t') hx hy uJ;rwa [PA hb.1] at this
abbrev mG:=@VW
theorem KM {s:TypeId} {k:IntKind} (hs:(P.underlying s).isSome=true) (ht:P.underlying t=some (.int .u32)) (hx:e.ev x=some (.int k m)) (hb:0≤m∧m≤4294967295):Qy P (.convert s t x) ty e H G (.int .u32 m):=by
 have:=jM (P:=P) (H:=H) (G:=G) (ty:=ty) hs ht hx;rwa [sJ _ hb] at this
abbrev iO:=@KM
theorem KN {s:TypeId} {k:IntKind} (hs:(P.underlying s).isSome=true) (ht:P.underlying t=some (.int .u64)) (hx:e.ev x=some (.int k m)) (hb:0≤m∧m≤18446744073709551615):Qy P (.convert s t x) ty e H G (.int .u64 m):=by
 have:=jM (P:=P) (H:=H) (G:=G) (ty:=ty) hs ht hx;rwa [kO _ hb] at this
abbrev cI:=@KN
theorem PB {s:TypeId} {k:IntKind} (hs:(P.underlying s).isSome=true) (ht:P.underlying t=some (.int .i64)) (hx:e.ev x=some (.int k m)) (hb:-9223372036854775808≤m∧m≤9223372036854775807):Qy P (.convert s t x) ty e H G (.int .i64 m):=by
 have:=jM (P:=P) (H:=H) (G:=G) (ty:=ty) hs ht hx;rwa [lG _ hb] at this
end
theorem Uh {P:Program} {e:B0} {H:Hp} {G:A3} {ty T:TypeId} {x:Operand} {i:Nat} {v0 v1 v:Value} (h:∀ (w:World) (v0 v1:Value),(Instr.field T (.agg #[v0,v1]) i).run P w=.ok (#[v0,v1][i]?.getD undef) w)
 (hx:e.ev x=some (.agg #[v0,v1])) (hv:#[v0,v1][i]?.getD undef=v):Qy P (.field T x i) ty e H G v:=fun a w _ _ _ _ hh=>by
 subst hv;simp [execOp,hh.eval hx,h]
theorem Kz (a b:Nat) (ha:a<4294967296) (hb:b<4294967296):bits .and .u32 (a:Int) (b:Int)=((a &&& b:Nat):Int):=by
 have hx:a &&& b<2 ^ 32:=Nat.and_lt_two_pow _ uJ;have h1:(BitVec.ofInt 32 (a:Int)).toNat=a:=by
  rw [iS,jK];exact eS uJ
 have h2:(BitVec.ofInt 32 (b:Int)).toNat=b:=by
  rw [iS,jK];exact eS uJ
 show IntKind.u32.wrap ((BitVec.ofInt 32 (a:Int) &&& BitVec.ofInt 32 (b:Int)).toNat:Int)=_;rw [BitVec.toNat_and,h1,h2,rF];omega
theorem Nb (a b:Nat) (ha:a<4294967296) (hb:b<4294967296):bits .or .u32 (a:Int) (b:Int)=((a ||| b:Nat):Int):=by
 have hx:a ||| b<2 ^ 32:=Nat.or_lt_two_pow uJ uJ
 have h1:(BitVec.ofInt 32 (a:Int)).toNat=a:=by
  rw [iS,jK];exact eS uJ
 have h2:(BitVec.ofInt 32 (b:Int)).toNat=b:=by
  rw [iS,jK];exact eS uJ
 show IntKind.u32.wrap ((BitVec.ofInt 32 (a:Int) ||| BitVec.ofInt 32 (b:Int)).toNat:Int)=_;rw [BitVec.toNat_or,h1,h2,rF];omega
structure IV where
 neg:Bool
 a:Option Addr
 n:Nat
 c:Nat
instance:Inhabited IV:=⟨⟨false,none,0,0⟩⟩
instance:A2 IV:=⟨2,fun x=>[.bool x.neg,.slice x.a x.n x.c],fun _=>rfl,fun _=>rfl⟩
structure SV where
 a:Option Addr
 n:Nat
 c:Nat
instance:Inhabited SV:=⟨⟨none,0,0⟩⟩
instance:A2 SV:=⟨1,fun x=>[.slice x.a x.n x.c],fun _=>rfl,fun _=>rfl⟩
def B2 (l:List A4):Prop:=∀ d∈l,0≤d.v∧d.v<65536
def uS:List A4→Int
 | []=>0
 | d :: l=>d.v+65536*uS l
def pw (n:Nat):Int:=((65536 ^ n:Nat):Int)
theorem Nj:pw 0=1:=rfl
theorem Dq (n:Nat):pw (n+1)=65536*pw n:=by unfold pw;rw [dM,eG,dS];rfl
theorem Lb (n:Nat):0<pw n:=by unfold pw;exact oN.2 (iP uR)
theorem PC (m n:Nat):pw (m+n)=pw m*pw n:=by unfold pw;rw [kX,dS]
theorem Zs {m n:Nat} (h:m≤n):pw m≤pw n:=by unfold pw;exact qB.2 (eR uR h)
theorem xO:uS []=0:=rfl
theorem wZ (d:A4) (l:List A4):uS (d :: l)=d.v+65536*uS l:=rfl
theorem B2.nil:B2 []:=fun d h=>by simp at h
abbrev tU:=@B2.nil
theorem B2.tail {d:A4} {l:List A4} (h:B2 (d :: l)):B2 l:=fun x hx=>h x (bD _ hx)
theorem B2.head {d:A4} {l:List A4} (h:B2 (d :: l)):0≤d.v∧d.v<65536:=h d bM
theorem B2.append {l m:List A4} (h:B2 l) (h':B2 m):B2 (l++m):=fun x hx=>by
 rcases eL.1 hx with h1 | h1
 · exact h x h1
 exact h' x h1
theorem B2.one {d:Int} (h:0≤d∧d<65536):B2 [⟨d⟩]:=fun x hx=>by
 have:x=⟨d⟩:=by simpa using hx
 subst this;exact h
abbrev sQ:=@B2.one
theorem B2.take {l:List A4} (h:B2 l) (n:Nat):B2 (l.take n):=fun x hx=>h x (sF hx)
theorem B2.at {l:List A4} (h:B2 l) {m:Int} (hm:0≤m∧m<l.length):0≤(l[m.toNat]?.getD default).v∧(l[m.toNat]?.getD default).v<65536:=by
 have hl:m.toNat<l.length:=uJ;rw [aA hl];exact h _ (dY hl)
theorem wO:∀ {l:List A4},B2 l→0≤uS l
 | [],_=>sM 0
 | d :: l,h=>by
   have h1:=wO h.tail;have h2:=h.head;rw [wZ];omega
theorem Dr:∀ {l:List A4},B2 l→uS l<pw l.length
 | [],_=>uR
 | d :: l,h=>by
   have h1:=Dr h.tail;have h2:=h.head;rw [wZ,bN,Dq];omega
theorem Ch:∀ (l m:List A4),uS (l++m)=uS l+pw l.length*uS m
 | [],m=>by rw [gI,xO,cR,Nj];omega
 | d :: l,m=>by
   rw [uH,wZ,wZ,Ch l m,bN,Dq,bQ,←dA];omega
theorem Bo (d:A4):uS [d]=d.v:=by rw [wZ,xO];omega
theorem Fv (l:List A4) (d:A4):uS (l++[d])=uS l+pw l.length*d.v:=by rw [Ch,Bo]
theorem Ex {l:List A4} {k:Nat} (h:k<l.length):uS (l.take (k+1))=uS (l.take k)+pw k*(l[((k:Nat):Int).toNat]?.getD default).v:=by
 rw [fW,aH,aA h];simp only [Option.toList_some,kF];rw [Fv,bI,dE (Nat.le_of_lt h)]
theorem vB {α:Type} {l:List α} {k:Nat} (h:l.length≤k):l.take k=l:=eQ h
theorem Pa (n:Nat):uS (List.replicate n ⟨0⟩)=0:=by
 induction n with
 | zero=>rfl
 | succ n ih=>rw [pT,wZ,ih];rfl
theorem Pb (n:Nat):B2 (List.replicate n ⟨0⟩):=fun x hx=>by
 have:=iH hx;subst this;exact ⟨by decide,by decide⟩
theorem KO {l:List A4} {n:Nat} (h:∀ j,n≤j→j<l.length→(l[j]?.getD default).v=0):uS (l.take n)=uS l:=by
 rcases aK n l.length with hn | hn
 · have e:l=l.take n++l.drop n:=(dF n l).symm;have hz:∀ (m:List A4),(∀ j,j<m.length→(m[j]?.getD default).v=0)→uS m=0:=by
    intro m;induction m with
    | nil=>intro _;rfl
    | cons d m ih =>
      intro h0;have h1:=h0 0 vL;simp only [rE,kF] at h1;rw [wZ,h1,ih fun j hj=>by have:=h0 (j+1) (by simpa using hj);simpa using this];rfl
   have h2:uS (l.drop n)=0:=hz _ fun j hj=>by
    rw [eW];exact h (n+j) uJ (by rw [cE] at hj;omega)
   have h3:uS l=uS (l.take n++l.drop n):=by rw [dF]
   rw [h3,Ch,h2];omega
 rw [vB hn]
def E8 (l:List A4):Prop:=l=[]∨(l[l.length - 1]?.getD default).v≠0
theorem E8.nil:E8 []:=.inl U
theorem Xl {l:List A4} (hd:B2 l) (ht:E8 l) (h0:l≠[]):pw (l.length - 1)≤uS l:=by
 have hl:0<l.length:=nH.2 h0;have h1:(l[l.length - 1]?.getD default).v≠0:=by
  rcases ht with h | h
  · exact absurd h h0
  exact h
 have h2:=Ex (l:=l) (k:=l.length - 1) uJ;rw [tD hl,vB (aG _),aH] at h2;have h3:=wO (hd.take (l.length - 1));have h4:(1:Int)≤(l[l.length - 1]?.getD default).v:=by
  have:=hd.at (m:=((l.length - 1:Nat):Int)) uJ;rw [aH] at this;omega
 have h5:=bG h4 (cN (Lb (l.length - 1)));omega
theorem VX {l:List A4} (hd:B2 l) (ht:E8 l) {m:Nat} (h:uS l<pw m):l.length≤m:=by
 by_cases h0:l=[]
 · subst h0;exact aS _
 have h1:=Xl hd ht h0;rcases aK m l.length with h2 | h2
 · have h3:=Zs (show m≤l.length - 1 by omega);omega
 exact h2
theorem Xm {l:List A4} (hd:B2 l) (ht:E8 l) (h0:l≠[]):0<uS l:=jJ (Lb _) (Xl hd ht h0)
theorem Ds {l m:List A4} (hl:B2 l) (hm:B2 m) (tm:E8 m) (h:l.length<m.length):uS l<uS m:=by
 have h1:=Dr hl;have h2:=Xl hm tm (fun e=>by rw [e] at h;simp at h);have h3:=Zs (show l.length≤m.length - 1 by omega);omega
structure F2 (neg:Bool) (l:List A4) (z:Int):Prop where
 digs:B2 l
 top:E8 l
 sign:l=[]→neg=false
 val:z=if neg=true then -uS l else uS l
theorem F2.abs {neg:Bool} {l:List A4} {z:Int} (h:F2 neg l z):uS l=z.natAbs:=by
 have h1:=wO h.digs;have h2:=h.val;split at h2 <;> omega
theorem F2.len {neg:Bool} {l:List A4} {z:Int} (h:F2 neg l z) {m:Nat} (hz:(z.natAbs:Int)<pw m):l.length≤m:=by
 refine VX h.digs h.top ?_;rw [h.abs];exact hz
def F4 (G:A3) (x:IV) (z:Int):Prop:=∃ l:List A4,l.length=x.n∧x.n≤x.c∧Arr G x.a l∧F2 x.neg l z
theorem F4.up {G G':A3} {x:IV} {z:Int} (h:F4 G x z) (hl:G.le G'):F4 G' x z:=by
 obtain ⟨l,h1,h0,h2,h3⟩:=h;exact ⟨l,h1,h0,h2.up hl,h3⟩
theorem F4.zero (G:A3):F4 G ⟨false,none,0,0⟩ 0:=⟨[],U,aG _,oT G,⟨tU,E8.nil,fun _=>rfl,U⟩⟩
section
variable {P:Program} {B:Bs} {D:List Deferred}
theorem PD {ι:Type} {r:Option Nat} {c:Code} {Q:Exit→Act→World→Prop} {e:B0} {H:Hp} {G:A3} (I:ι→B0×Hp) (g:ι→A3) (φ:ι→Prop) (μ:ι→Nat) (i0:ι) (h0:φ i0) (hg:G=g i0)
 (he:e.sub (I i0).1) (hH:H.sub (I i0).2)
 (hb:∀ i,φ i→Wc r P c B ⟨(I i).1,D,(I i).2,g i⟩ (Exit.then (If B (fun i=>⟨(I i).1,D,(I i).2,g i⟩) φ μ (μ i)) Q)):Wc r P (.loop c) B ⟨e,D,H,G⟩ Q:=
 Oi (fun i=>⟨(I i).1,D,(I i).2,g i⟩) φ μ i0 h0 (fun _ _ h=>by rw [hg] at h;exact h.sub he hH) hb
abbrev fX:=@PD
end
def D1 (G:A3) (l:List IV) (zs:List Int):Prop:=l.length=zs.length∧∀ i:Nat,i<l.length→F4 G (l[i]?.getD default) (zs[i]?.getD 0)
theorem D1.up {G G':A3} {l:List IV} {zs:List Int} (h:D1 G l zs) (hl:G.le G'):D1 G' l zs:=⟨h.1,fun i hi=>(h.2 i hi).up hl⟩
theorem D1.nil (G:A3):D1 G [] []:=⟨U,fun i hi=>by simp at hi⟩
theorem D1.at {G:A3} {l:List IV} {zs:List Int} (h:D1 G l zs) {m:Int} (hm:0≤m∧m<l.length):F4 G (l[m.toNat]?.getD default) (zs[m.toNat]?.getD 0):=h.2 _ uJ
theorem D1.snoc {G:A3} {l:List IV} {zs:List Int} (h:D1 G l zs) {x:IV} {z:Int} (hx:F4 G x z):D1 G (l++[x]) (zs++[z]):=by
 refine ⟨by simp [h.1],fun i hi=>?_⟩;rw [aI,gJ] at hi;by_cases hc:i<l.length
 · rw [bC hc,bC (by rw [←h.1];exact hc)];exact h.2 i hc
 have e:i=l.length:=uJ;subst e;rw [List.getElem?_concat_length,h.1,List.getElem?_concat_length];exact hx
def Below (m:Nat) (zs:List Int):Prop:=∀ z∈zs,(z.natAbs:Int)<pw m
theorem Below.at {m:Nat} {zs:List Int} (h:Below m zs) (i:Nat):((zs[i]?.getD 0).natAbs:Int)<pw m:=by
 cases hx:zs[i]? with
 | none=>exact Lb m
 | some z=>exact h z (iR hx)
theorem Below.mono {m k:Nat} {zs:List Int} (h:Below m zs) (hk:m≤k):Below k zs:=fun z hz=>jJ (h z hz) (Zs hk)
def fnB (P : Program) (f : Nat) : Bool := match P.funcs[f]? with | some fn => fn.body.isSome && !(fn.name == "runtime.NumGoroutine") | none => false
theorem H5.of {P:Program}:∀ {l:List Nat},l.all (fnB P)=true→H5 P l
 | [],_=>trivial
 | f :: l,h=>by
   rw [kC,aB] at h;refine ⟨?_,H5.of h.2⟩;have h1:=h.1;unfold fnB at h1;split at h1
   · rename_i fn hf;rw [aB] at h1;exact ⟨fn,hf,h1.1,by simpa using h1.2⟩
   cases h1
theorem F6.of {P:Program}:∀ {l:List Nat},l.all (xB P)=true→F6 P l
 | [],_=>trivial
 | f :: l,h=>by
   rw [kC,aB] at h;exact ⟨h.1,F6.of h.2⟩
def agB (P:Program) (x:Nat×Nat):Bool:=xZ P x.1 x.2 && (match P.info? x.1 with | some i=>Nat.beq i.size x.2 | none=>false)
theorem F7.of {P:Program}:∀ {l:List (Nat×Nat)},l.all (agB P)=true→F7 P l
 | [],_=>trivial
 | x :: l,h=>by
   rw [kC,aB] at h;have h1:=h.1;unfold agB at h1;rw [aB] at h1;refine ⟨⟨h1.1,?_⟩,F7.of h.2⟩;have h2:=h1.2;split at h2
   · rename_i i hi;rw [hi,←aD h2];rfl
   cases h2
def slB (P:Program) (t:Nat):Bool:=match P.underlying t with | some (.slice E)=>(P.info? E).isSome | _=>false
theorem H4.of {P:Program}:∀ {l:List Nat},l.all (slB P)=true→H4 P l
 | [],_=>trivial
 | t :: l,h=>by
   rw [kC,aB] at h;refine ⟨?_,H4.of h.2⟩;have h1:=h.1;unfold slB at h1;split at h1
   · rename_i E hE;cases hi:P.info? E with
     | none=>rw [hi] at h1;cases h1
     | some i=>exact ⟨E,i.size,hE,by rw [hi];rfl⟩
   cases h1
def VY:List (List Nat)→Nat→Nat
 | [],f=>f
 | _ :: s,f=>VY s f+1
def Zt:List (List Nat)→Array Bool→Array Bool
 | [],L=>L
 | [] :: s,L=>Zt s L
 | (i :: _) :: s,L=>Zt s (L.setIfInBounds i true)
def Iq (ops:Array Oper) (wr:List (Nat×Nat)):List (List Nat)→Array Bool→Bool
 | [],_=>true
 | [] :: _,_=>false
 | (i :: ts) :: s,L=>zD ops L wr i ts && Iq ops wr s (L.setIfInBounds i true)
def eqb (b w:Bool):Bool:=bif b then w else !w
def gmg (l:List Oper) (e:B0):Option (Nat×Bool)→Option Bool
 | none=>some true
 | some (j,w)=>match Cm l j with
   | some t=>match e.get t with
     | some (.bool b)=>some (eqb b w)
     | _=>none
   | none=>none
def fx (P:Program) [Tab P] (n:Nat) (l:List Oper) (H0:Hp):List (List Nat)→B0→Option (B0×Prop)
 | [],e=>some (e,True)
 | [] :: _,_=>none
 | (i :: ts) :: s,e=>match Ic l i with
   | some ⟨some d,o,_,_,_,g⟩=>match Nat.ble (d+1) n with
     | true=>match gmg l e g with
       | some true=>match gq P e (H0.only ts) ts o with
         | some (v,_,ob)=>match fx P n l H0 s ((d,v) :: e) with
           | some (e',obs)=>some (e',ob∧obs)
           | none=>none
         | none=>none
       | some false=>match ts with
         | []=>fx P n l H0 s ((d,undef) :: e)
         | _ :: _=>none
       | none=>none
     | false=>none
   | _=>none
theorem Zu {l:List Oper} {e:B0} {j:Nat} {w x:Bool} (h:gmg l e (some (j,w))=some x):∃ t,(l[j]?).bind (·.dst)=some t∧e.get t=some (.bool (bif x then w else !w)):=by
 replace h:(match Cm l j with
  | some t=>match e.get t with
    | some (.bool b)=>some (eqb b w)
    | _=>none
  | none=>none)=some x:=h
 split at h
 · rename_i t ht;rw [Dp] at ht;split at h
   · rename_i b hb;refine ⟨t,ht,hb.trans ?_⟩;cases b <;> cases w <;> cases h <;> rfl
   cases h
 cases h
theorem Xn {P:Program} [T:Tab P] {B:Bs} {D:List Deferred} {H H0:Hp} {G G0:A3} {K:Act→World→Prop} {l:List Oper} {f:Nat} {wr:List (Nat×Nat)} {e':B0}:∀ {steps:List (List Nat)} {listed:Array Bool} {e:B0} {ob:Prop},fx P B.n l H0 steps e=some (e',ob)→ob→Iq l.toArray wr steps listed=true→Gm P l.toArray f (Zt steps listed) wr H0 G0 B ⟨e',D,H,G⟩ K→Gm P l.toArray (VY steps f) listed wr H0 G0 B ⟨e,D,H,G⟩ K
 | [],listed,e,ob,h,_,_,hg=>by cases h;exact hg
 | [] :: s,listed,e,ob,h,_,_,_=>xY
 | (i :: ts) :: s,listed,e,ob,h,hob,hB,hg=>by
   unfold Iq at hB;rw [aB] at hB;unfold fx at h;split at h
   · rename_i d o ty pos after g hi;rw [zE] at hi;split at h
     · rename_i hn;split at h
       · rename_i hgm;split at h
         · rename_i v hs' ob1 hq;split at h
           · rename_i e1 obs h2;cases h;have hr:=Xn h2 hob.2 hB.2 hg;cases g with
             | none=>exact Gm.q i ts hB.1 hi hn (Xk hq hob.1) hr
             | some jw =>
               obtain ⟨j,w⟩:=jw;obtain ⟨t,ht,he⟩:=Zu hgm;exact nR (t:=t) i ts hB.1 hi ht he hn (Xk hq hob.1) hr
           cases h
         cases h
       · rename_i hgm;split at h
         · have hr:=Xn h hob hB.2 hg;cases g with
           | none=>cases hgm
           | some jw =>
             obtain ⟨j,w⟩:=jw;obtain ⟨t,ht,he⟩:=Zu hgm;exact ZX (t:=t) i hB.1 hi ht he hn hr
         cases h
       cases h
     cases h
   cases h
section
variable {P:Program} {B:Bs} {e e':B0} {D:List Deferred} {H H0:Hp} {G G0:A3} {K:Act→World→Prop} {ops:Array Oper} {l rest:List Oper} {f:Nat} {listed:Array Bool} {wr:List (Nat×Nat)} {ty:TypeId} {pos:String} {after:Array Edge} {d:Nat} {ob:Prop}
theorem Gm.r [T:Tab P] (steps:List (List Nat)) (h:Gm P l.toArray f (Zt steps listed) wr H0 G0 B ⟨e',D,H,G⟩ K) (hr:fx P B.n l H0 steps e=some (e',ob):=by exact U) (hob:ob:=by (repeat refine And.intro ZE ?_);exact I8) (hB:Iq l.toArray wr steps listed=true:=by kernel_rfl) :
 Gm P l.toArray (VY steps f) listed wr H0 G0 B ⟨e,D,H,G⟩ K:=Xn hr hob hB h
abbrev gS:=@Gm.r
theorem Gm.y {o:Op} {v:Value} {j:Nat} {want:Bool} {t:Nat} (i:Nat) (ts:List Nat) (ho:l[i]?=some ⟨some d,o,ty,pos,after,some (j,want)⟩) (hq:Qy P o ty e (H0.only ts) G0 v) (h:Gm P l.toArray f (listed.setIfInBounds i true) wr H0 G0 B ⟨(d,v) :: e,D,H,G⟩ K)
 (hj:(l[j]?).bind (·.dst)=some t:=by exact U) (he:e.get t=some (.bool want):=by exact U) (hn:Nat.ble (d+1) B.n=true:=by exact U) (hB:zD l.toArray listed wr i ts=true:=by kernel_rfl):Gm P l.toArray (f+1) listed wr H0 G0 B ⟨e,D,H,G⟩ K:=
 nR i ts hB ho hj he hn hq h
abbrev sO:=@Gm.y
theorem Wl.p {o:Op} {v:Value} (hq:Qy P o ty e H G v) (h:Wl P ops rest B ⟨(d,v) :: e,D,H,G⟩ K) (hn:Nat.ble (d+1) B.n=true:=by exact U):Wl P ops (⟨some d,o,ty,pos,after,none⟩ :: rest) B ⟨e,D,H,G⟩ K:=aU hn hq h
abbrev aT:=@Wl.p
theorem Wl.b {e0:B0} {H0:Hp} {v:Value} (n m:Nat) (he:e.drop n=e0:=by exact U) (hf:e0.fresh (e.take n)=true:=by exact U) (hH:H.drop m=H0:=by exact U) (hg:H0.fresh (H.take m)=true:=by exact U) (hv:e.get d=some v:=by exact U) :
 Wl P ops [] B ⟨e,D,H,G⟩ (A7 B ⟨(d,v) :: e0,D,H0,G⟩):=kR n m he hf hH hg hv
abbrev gO:=@Wl.b
theorem Wl.x {T:TypeId} {x:Operand} {v:Value} {cs:List Value} (t:Nat) (h:∀ b,Wl P ops rest B ⟨(d,.pointer (some ⟨b,0,none⟩)) :: e,D,(t,some b,.cells cs.toArray T (0,0)) :: H,G⟩ K) (hn:Nat.ble (d+1) B.n=true:=by exact U) (hx:e.ev x=some v:=by exact U) (hv:v.cells=cs.toArray:=by exact U) :
 Wl P ops (⟨some d,.box T x,ty,pos,after,none⟩ :: rest) B ⟨e,D,H,G⟩ K:=gU t hn hx hv h
abbrev fK:=@Wl.x
variable {α:Type} [A2 α]
theorem Wl.at {T:TypeId} {x i:Operand} {c:Nat} {k:IntKind} {m:Int} {E:Nat} {a:Option Addr} {xs:List α} (hT:uX P T E (A2.sz α)) (h:Wl P ops rest B ⟨(d,.pointer (some ⟨ab a,ao a+m.toNat*A2.sz α,none⟩)) :: e,D,H,G⟩ K)
 (hx:e.ev x=some (.slice a xs.length c):=by exact U) (hi:e.ev i=some (.int k m):=by exact U) (hs:Arr G a xs:=by assumption) (hb:0≤m∧m<xs.length:=by omega) (hn:Nat.ble (d+1) B.n=true:=by exact U):Wl P ops (⟨some d,.indexAddr T x i,ty,pos,after,none⟩ :: rest) B ⟨e,D,H,G⟩ K:=
 aU hn (jH hT hx hi hs hb) h
abbrev fF:=@Wl.at
theorem gr {T:TypeId} {x i:Operand} {c:Nat} {k:IntKind} {m:Int} {E:Nat} {a:Option Addr} {xs:List α} {junk:List Value} (hT:uX P T E (A2.sz α)) (h:Wl P ops rest B ⟨(d,.pointer (some ⟨ab a,0+m.toNat*A2.sz α,none⟩)) :: e,D,H,G⟩ K)
 (hx:e.ev x=some (.slice a xs.length c):=by exact U) (hi:e.ev i=some (.int k m):=by exact U) (hs:A5 a c xs junk:=by assumption) (hb:0≤m∧m<xs.length:=by omega) (hn:Nat.ble (d+1) B.n=true:=by exact U):Wl P ops (⟨some d,.indexAddr T x i,ty,pos,after,none⟩ :: rest) B ⟨e,D,H,G⟩ K:=
 aU hn (dJ hT hx hi hs hb) h
abbrev kZ:=@gr
theorem gu [Inhabited α] {T:TypeId} {x:Operand} {a:Option Addr} {xs:List α} {m:Int} {v:Value} (k:Nat) (h1:xB P T=true) (h:Wl P ops rest B ⟨(d,v) :: e,D,H,G⟩ K) (hx:e.ev x=some (.pointer (some ⟨ab a,ao a+m.toNat*A2.sz α+k,none⟩)):=by exact U)
 (hs:Arr G a xs:=by assumption) (hm:0≤m∧m<xs.length:=by omega) (hk:Nat.ble (k+1) (A2.sz α)=true:=by exact U) (hv:(A2.enc (xs[m.toNat]?.getD default))[k]?=some v:=by exact U) (hn:Nat.ble (d+1) B.n=true:=by exact U):Wl P ops (⟨some d,.load T x,ty,pos,after,none⟩ :: rest) B ⟨e,D,H,G⟩ K:=
 aU hn (cS h1 hx (hs.cell hm k hk hv)) h
abbrev iT:=@gu
theorem Wl.le [Inhabited α] {T k:TypeId} {x:Operand} {a:Option Addr} {xs:List α} {m:Int} (h1:xZ P T k=true) (h:Wl P ops rest B ⟨(d,.agg (A2.enc (xs[m.toNat]?.getD default)).toArray) :: e,D,H,G⟩ K) (hx:e.ev x=some (.pointer (some ⟨ab a,ao a+m.toNat*A2.sz α,none⟩)):=by exact U)
 (hs:Arr G a xs:=by assumption) (hm:0≤m∧m<xs.length:=by omega) (hl:(A2.enc (xs[m.toNat]?.getD default)).length=k:=by exact U) (hn:Nat.ble (d+1) B.n=true:=by exact U):Wl P ops (⟨some d,.load T x,ty,pos,after,none⟩ :: rest) B ⟨e,D,H,G⟩ K:=
 aU hn (gB h1 hx (hs.elem hm) hl) h
abbrev qF:=@Wl.le
theorem Wl.lo [Inhabited α] {T:TypeId} {x:Operand} {E:TypeId} {a:Option Addr} {c:Nat} {xs:List α} {junk:List Value} {m:Int} {v:Value} (t k:Nat) (h1:xB P T=true) (h:Wl P ops rest B ⟨(d,v) :: e,D,H,G⟩ K) (hx:e.ev x=some (.pointer (some ⟨ab a,0+m.toNat*A2.sz α+k,none⟩)):=by exact U)
 (ht:H.get t=some (a.map (·.block),Row E xs junk):=by exact U) (ho:A5 a c xs junk:=by assumption) (hm:0≤m∧m<xs.length:=by omega) (hk:Nat.ble (k+1) (A2.sz α)=true:=by exact U) (hv:(A2.enc (xs[m.toNat]?.getD default))[k]?=some v:=by exact U) (hn:Nat.ble (d+1) B.n=true:=by exact U) :
 Wl P ops (⟨some d,.load T x,ty,pos,after,none⟩ :: rest) B ⟨e,D,H,G⟩ K:=aU hn (nI t k h1 hx ht ho hm hk hv) h
theorem Gm.at {T:TypeId} {x i:Operand} {c:Nat} {k:IntKind} {m:Int} {E:Nat} {a:Option Addr} {xs:List α} (q:Nat) (hT:uX P T E (A2.sz α)) (h:Gm P l.toArray f (listed.setIfInBounds q true) wr H0 G0 B ⟨(d,.pointer (some ⟨ab a,ao a+m.toNat*A2.sz α,none⟩)) :: e,D,H,G⟩ K)
 (ho:l[q]?=some ⟨some d,.indexAddr T x i,ty,pos,after,none⟩:=by exact U) (hx:e.ev x=some (.slice a xs.length c):=by exact U) (hi:e.ev i=some (.int k m):=by exact U) (hs:Arr G0 a xs:=by assumption) (hb:0≤m∧m<xs.length:=by omega) (hn:Nat.ble (d+1) B.n=true:=by exact U) (hB:zD l.toArray listed wr q []=true:=by kernel_rfl) :
 Gm P l.toArray (f+1) listed wr H0 G0 B ⟨e,D,H,G⟩ K:=eP q [] ho (jH hT hx hi hs hb) h hn hB
abbrev qN:=@Gm.at
theorem gw {T:TypeId} {x i:Operand} {c:Nat} {k:IntKind} {m:Int} {E:Nat} {a:Option Addr} {xs:List α} {junk:List Value} (q:Nat) (hT:uX P T E (A2.sz α)) (h:Gm P l.toArray f (listed.setIfInBounds q true) wr H0 G0 B ⟨(d,.pointer (some ⟨ab a,0+m.toNat*A2.sz α,none⟩)) :: e,D,H,G⟩ K)
 (ho:l[q]?=some ⟨some d,.indexAddr T x i,ty,pos,after,none⟩:=by exact U) (hx:e.ev x=some (.slice a xs.length c):=by exact U) (hi:e.ev i=some (.int k m):=by exact U) (hs:A5 a c xs junk:=by assumption) (hb:0≤m∧m<xs.length:=by omega) (hn:Nat.ble (d+1) B.n=true:=by exact U) (hB:zD l.toArray listed wr q []=true:=by kernel_rfl) :
 Gm P l.toArray (f+1) listed wr H0 G0 B ⟨e,D,H,G⟩ K:=eP q [] ho (dJ hT hx hi hs hb) h hn hB
abbrev nE:=@gw
theorem gx [Inhabited α] {T:TypeId} {x:Operand} {a:Option Addr} {xs:List α} {m:Int} {v:Value} (q:Nat) (ts:List Nat) (k:Nat) (h1:xB P T=true) (h:Gm P l.toArray f (listed.setIfInBounds q true) wr H0 G0 B ⟨(d,v) :: e,D,H,G⟩ K) (ho:l[q]?=some ⟨some d,.load T x,ty,pos,after,none⟩:=by exact U)
 (hx:e.ev x=some (.pointer (some ⟨ab a,ao a+m.toNat*A2.sz α+k,none⟩)):=by exact U) (hs:Arr G0 a xs:=by assumption) (hm:0≤m∧m<xs.length:=by omega) (hk:Nat.ble (k+1) (A2.sz α)=true:=by exact U) (hv:(A2.enc (xs[m.toNat]?.getD default))[k]?=some v:=by exact U) (hn:Nat.ble (d+1) B.n=true:=by exact U) (hB:zD l.toArray listed wr q ts=true:=by kernel_rfl) :
 Gm P l.toArray (f+1) listed wr H0 G0 B ⟨e,D,H,G⟩ K:=eP q ts ho (cS h1 hx (hs.cell hm k hk hv)) h hn hB
abbrev rS:=@gx
theorem Gm.le [Inhabited α] {T k:TypeId} {x:Operand} {a:Option Addr} {xs:List α} {m:Int} (q:Nat) (h1:xZ P T k=true) (h:Gm P l.toArray f (listed.setIfInBounds q true) wr H0 G0 B ⟨(d,.agg (A2.enc (xs[m.toNat]?.getD default)).toArray) :: e,D,H,G⟩ K) (ho:l[q]?=some ⟨some d,.load T x,ty,pos,after,none⟩:=by exact U)
 (hx:e.ev x=some (.pointer (some ⟨ab a,ao a+m.toNat*A2.sz α,none⟩)):=by exact U) (hs:Arr G0 a xs:=by assumption) (hm:0≤m∧m<xs.length:=by omega) (hl:(A2.enc (xs[m.toNat]?.getD default)).length=k:=by exact U) (hn:Nat.ble (d+1) B.n=true:=by exact U) (hB:zD l.toArray listed wr q []=true:=by kernel_rfl) :
 Gm P l.toArray (f+1) listed wr H0 G0 B ⟨e,D,H,G⟩ K:=eP q [] ho (gB h1 hx (hs.elem hm) hl) h hn hB
theorem Gm.lo [Inhabited α] {T:TypeId} {x:Operand} {E:TypeId} {a:Option Addr} {c:Nat} {xs:List α} {junk:List Value} {m:Int} {v:Value} (q t k:Nat) (h1:xB P T=true) (h:Gm P l.toArray f (listed.setIfInBounds q true) wr H0 G0 B ⟨(d,v) :: e,D,H,G⟩ K) (ho:l[q]?=some ⟨some d,.load T x,ty,pos,after,none⟩:=by exact U)
 (hx:e.ev x=some (.pointer (some ⟨ab a,0+m.toNat*A2.sz α+k,none⟩)):=by exact U) (ht:(H0.only [t]).get t=some (a.map (·.block),Row E xs junk):=by exact U) (hw:A5 a c xs junk:=by assumption) (hm:0≤m∧m<xs.length:=by omega) (hk:Nat.ble (k+1) (A2.sz α)=true:=by exact U)
 (hv:(A2.enc (xs[m.toNat]?.getD default))[k]?=some v:=by exact U) (hn:Nat.ble (d+1) B.n=true:=by exact U) (hB:zD l.toArray listed wr q [t]=true:=by kernel_rfl):Gm P l.toArray (f+1) listed wr H0 G0 B ⟨e,D,H,G⟩ K:=eP q [t] ho (nI t k h1 hx ht hw hm hk hv) h hn hB
abbrev oQ:=@Gm.lo
theorem Wl.ap {s x:Operand} {T E bytes:Nat} {zs:List Value} {a ad:Option Addr} {c c2:Nat} {xs ys:List α} {junk:List Value} (t:Nat) (hT:uX P T E (A2.sz α)) (hE:B8 P E (A2.sz α) bytes zs) (hsrc:Src H G ad ys)
 (h:∀ a' c' junk',A5 a' c' (xs++ys) junk'→Wl P ops rest B ⟨(d,.slice a' (xs++ys).length c') :: e,D,(t,a'.map (·.block),Row E (xs++ys) junk') :: H,G⟩ K) (hs:e.ev s=some (.slice a xs.length c):=by exact U) (hx:e.ev x=some (.slice ad ys.length c2):=by exact U)
 (ht:H.get t=some (a.map (·.block),Row E xs junk):=by exact U) (ho:A5 a c xs junk:=by first | assumption | exact fN | exact kW vL) (hb:(xs.length+ys.length)*bytes≤140737488355328:=by first | omega | (simp only [aI,bN,cR,maxLen];omega)) (hl:xs.length+ys.length≤maxLen:=by first | omega | (simp only [aI,bN,cR,maxLen];omega)) (hn:Nat.ble (d+1) B.n=true:=by exact U) :
 Wl P ops (⟨some d,.call { callee:=.builtin .append,args:=#[s,x],argTypes:=#[T,T] },ty,pos,after,none⟩ :: rest) B ⟨e,D,H,G⟩ K:=fZ t hn hT hE hs hx ht ho hsrc hb hl h
abbrev qG:=@Wl.ap
end
section
variable {P:Program} {B:Bs} {e:B0} {D:List Deferred} {H H0:Hp} {G G0:A3} {K:Act→World→Prop} {l:List Oper} {f:Nat} {listed:Array Bool} {wr:List (Nat×Nat)} {Q:Exit→Act→World→Prop} {ops:Array Oper} {p:Prop} [Decidable p]
theorem gy {ι:Type} {I:ι→St} {φ:ι→Prop} {μ:ι→Nat} {m:Nat} (j:ι) (hφ:φ j) (hμ:μ j<m) (hI:I j=⟨(I j).e,D,(I j).H,G⟩:=by exact U) (he:e.sub (I j).e:=by repeat (first | exact I8 | refine ⟨U,?_⟩)) (hH:H.sub (I j).H:=by repeat (first | exact I8 | refine ⟨U,?_⟩)):Ar (Exit.then (If B I φ μ m) Q) .normal B ⟨e,D,H,G⟩:=eK j hφ hμ hI he hH
abbrev eH:=@gy
theorem Ar.mt {ι:Type} {I:ι→St} {φ:ι→Prop} (j:ι) (hφ:φ j) (hI:I j=⟨(I j).e,D,(I j).H,G⟩:=by exact U) (he:e.sub (I j).e:=by repeat (first | exact I8 | refine ⟨U,?_⟩)) (hH:H.sub (I j).H:=by repeat (first | exact I8 | refine ⟨U,?_⟩)):Ar (Exit.then (af B I φ) Q) .normal B ⟨e,D,H,G⟩:=Xf j hφ hI he hH
theorem Wc.lp {ι:Type} {r:Option Nat} {c:Code} (I:ι→B0×Hp) (φ:ι→Prop) (μ:ι→Nat) (i0:ι) (h0:φ i0) (hb:∀ i,φ i→Wc r P c B ⟨(I i).1,D,(I i).2,G⟩ (Exit.then (If B (fun i=>⟨(I i).1,D,(I i).2,G⟩) φ μ (μ i)) Q)) (he:e.sub (I i0).1:=by repeat (first | exact I8 | refine ⟨U,?_⟩)) (hH:H.sub (I i0).2:=by repeat (first | exact I8 | refine ⟨U,?_⟩)) :
 Wc r P (.loop c) B ⟨e,D,H,G⟩ Q:=mW I φ μ i0 h0 he hH hb
abbrev kL:=@Wc.lp
theorem Wc.lg {ι:Type} {r:Option Nat} {c:Code} (I:ι→B0×Hp) (g:ι→A3) (φ:ι→Prop) (μ:ι→Nat) (i0:ι) (h0:φ i0) (hb:∀ i,φ i→Wc r P c B ⟨(I i).1,D,(I i).2,g i⟩ (Exit.then (If B (fun i=>⟨(I i).1,D,(I i).2,g i⟩) φ μ (μ i)) Q)) (hg:G=g i0:=by exact U) (he:e.sub (I i0).1:=by repeat (first | exact I8 | refine ⟨U,?_⟩)) (hH:H.sub (I i0).2:=by repeat (first | exact I8 | refine ⟨U,?_⟩)) :
 Wc r P (.loop c) B ⟨e,D,H,G⟩ Q:=fX I g φ μ i0 h0 hg he hH hb
theorem Zv (t:Nat) (h:Wl P ops l B ⟨(t,.bool true) :: e,D,H,G⟩ K) (he:e.get t=some (.bool (decide p)):=by exact U) (hp:p:=by first | assumption | omega):Wl P ops l B ⟨e,D,H,G⟩ K:=rX t he hp h
theorem Wl.ne (t:Nat) (h:Wl P ops l B ⟨(t,.bool false) :: e,D,H,G⟩ K) (he:e.get t=some (.bool (decide p)):=by exact U) (hp:¬p:=by first | assumption | omega):Wl P ops l B ⟨e,D,H,G⟩ K:=pJ t he hp h
abbrev pR:=@Wl.ne
theorem Wl.o1 {o:Oper} (i:Nat) (h:Wl P l.toArray [o] B ⟨e,D,H,G⟩ (Eo P l.toArray f (listed.setIfInBounds i true) wr H0 G0 K)) (hH:H.sub (H0.live wr listed):=by repeat (first | exact I8 | refine ⟨U,?_⟩)) (hG:G0.le G:=by first | exact cC _ | repeat (first | assumption | refine bH ?_ uK)) (hr:Region.ready .any l.toArray listed=[i]:=by kernel_rfl) (ho:l[i]?=some o:=by exact U) :
 Wl P l.toArray [] B ⟨e,D,H,G⟩ (Eo P l.toArray (f+1) listed wr H0 G0 K):=dG (fC i h hH hG hr ho)
abbrev eD:=@Wl.o1
theorem gz {x:Exit} (h:Ar Q x B ⟨e,D,H,G⟩) (hr:Region.ready .any ops listed=[]:=by kernel_rfl) (hH:H.sub (H0.live wr listed):=by repeat (first | exact I8 | refine ⟨U,?_⟩)) (hG:G0.le G:=by first | exact cC _ | repeat (first | assumption | refine bH ?_ uK)):Wl P ops [] B ⟨e,D,H,G⟩ (Eo P ops 0 listed wr H0 G0 (Q x)):=dG (eI h hr hH hG)
abbrev lC:=@gz
theorem ia [Tab P] {r:Option Nat} {id:Nat} {e':B0} {ob:Prop} (ts:List Nat) (wr:List (Nat×Nat)) (hm:P.follows .mixedOrders=true) (steps:List (List Nat)) {f:Nat} (h:Gm P l.toArray f (Zt steps (Array.replicate l.length false)) wr (H.only ts) G B ⟨e',D,H,G⟩ (Q .normal)) (hf:l.length=VY steps f:=by exact rfl)
 (hr:fx P B.n l (H.only ts) steps e=some (e',ob):=by exact rfl) (hob:ob:=by (repeat refine And.intro ZE ?_);exact I8) (hB:Iq l.toArray wr steps (Array.replicate l.length false)=true:=by kernel_rfl) (hd:l.all vT=true:=by exact U) :
 Wc r P (.region id l.toArray true) B ⟨e,D,H,G⟩ Q:=gV ts wr hm hd (by have:=Xn hr hob hB h;rw [←hf] at this;exact this)
abbrev gK:=@ia
end
theorem D0 {P:Program} {G:A3} {f:FuncId} {fn:Func} {c:Code} {n:Nat} {args:List Value} {Hi:Hp} {post:Value→A3→Hp→Prop} (hf:P.funcs[f]?=some fn) (hn:fn.ntmps=n) (h:∀ w,Wc none P c ⟨n,w,Hi.has,G⟩ ⟨xC 0 args,[],Hi,G⟩ (HE P fn G Hi w post)) (hb:fn.body=some c:=by exact U)
 (hl:Nat.ble args.length n=true:=by exact U):Does P f args G Hi post:=bU hf hb hn hl h
section
variable {P:Program} {fn:Func} {G0:A3} {Hi:Hp} {w0:World} {post:Value→A3→Hp→Prop} {n:Nat} {e:B0} {H:Hp} {G:A3} {x:Exit} {t1 t2:Nat} {v1 v2:Value}
theorem Ar.p1 (L:List Nat) (hp:post v1 G (H.only L)) (hx:x=.normal∨x=.ret:=by exact .inr rfl) (hres:fn.results=#[.tmp t1]:=by exact U) (h1:e.get t1=some v1:=by exact U):Ar (HE P fn G0 Hi w0 post) x ⟨n,w0,Hi.has,G0⟩ ⟨e,[],H,G⟩:=
 cP hx hres (.tmp h1) (aV _ _) hp
abbrev rT:=@Ar.p1
theorem Ar.p2 (L:List Nat) (hp:post (.tuple #[v1,v2]) G (H.only L)) (hx:x=.normal∨x=.ret:=by exact .inr rfl) (hres:fn.results=#[.tmp t1,.tmp t2]:=by exact U) (h1:e.get t1=some v1:=by exact U) (h2:e.get t2=some v2:=by exact U):Ar (HE P fn G0 Hi w0 post) x ⟨n,w0,Hi.has,G0⟩ ⟨e,[],H,G⟩:=
 jZ hx hres (.tmp h1) (.tmp h2) (aV _ _) hp
abbrev tV:=@Ar.p2
end
theorem Wc.i {P:Program} {r:Option Nat} {B:Bs} {S:St} {Q:Exit→Act→World→Prop} {c:Operand} {x y:Code} {p:Prop} [Decidable p] (ht:p→Wc r P x B S Q) (hf:¬p→Wc r P y B S Q) (hc:S.e.ev c=some (.bool (decide p)):=by exact U):Wc r P (.cond c x y) B S Q:=jF hc ht hf
abbrev hZ:=@Wc.i
end Go.Sl
namespace Go.Proofs.YtngphgeghfdjbaaGreatDoor.T
open Go Go.Sl
theorem one2:xB Tryz.prog 2=true:=uO
theorem u2:Tryz.prog.underlying 2=some (.int .i64):=uO
theorem one3:xB Tryz.prog 3=true:=uO
theorem zero3:C3 Tryz.prog 3 [.int .i64 0]:=iZ uO
theorem el3:B8 Tryz.prog 3 1 8 [.int .i64 0]:=mD uO U
theorem u3:Tryz.prog.underlying 3=some (.int .i64):=uO
theorem one4:xB Tryz.prog 4=true:=uO
theorem u4:Tryz.prog.underlying 4=some .bool:=uO
theorem one5:xB Tryz.prog 5=true:=uO
theorem size5:(Tryz.prog.info? 5).map (·.size)=some 1:=uO
theorem el5:B8 Tryz.prog 5 1 1 [.int .u8 0]:=mD uO U
theorem u5:Tryz.prog.underlying 5=some (.int .u8):=uO
theorem one9:xB Tryz.prog 9=true:=uO
theorem zero9:C3 Tryz.prog 9 [.string ByteArray.empty]:=iZ uO
theorem u9:Tryz.prog.underlying 9=some .string:=uO
theorem one22:xB Tryz.prog 22=true:=uO
theorem sl22:uX Tryz.prog 22 51 2:=⟨by kernel_rfl,by kernel_rfl⟩
theorem one23:xB Tryz.prog 23=true:=uO
theorem sl23:uX Tryz.prog 23 211 5:=⟨by kernel_rfl,by kernel_rfl⟩
theorem sl24:uX Tryz.prog 24 3 1:=⟨by kernel_rfl,by kernel_rfl⟩
theorem agg26:xZ Tryz.prog 26 4=true:=uO
theorem size26:(Tryz.prog.info? 26).map (·.size)=some 4:=uO
theorem zero26:C3 Tryz.prog 26 [.int .i64 0,.int .i64 0,.slice none 0 0,.slice none 0 0]:=iZ uO
theorem fa26_2:Ay Tryz.prog 26 2 2:=fun _ _ _=>uO
theorem el26:B8 Tryz.prog 26 4 64 [.int .i64 0,.int .i64 0,.slice none 0 0,.slice none 0 0]:=mD uO U
theorem agg28:xZ Tryz.prog 28 15=true:=uO
theorem zero28:C3 Tryz.prog 28 [.int .i64 0,.int .i64 0,.slice none 0 0,.int .i64 0,.int .i64 0,.slice none 0 0,.slice none 0 0,.int .i64 0,.int .i64 0,.slice none 0 0,.slice none 0 0,.int .i64 0,.int .i64 0,.slice none 0 0,.slice none 0 0]:=iZ uO
theorem sl29:uX Tryz.prog 29 2 1:=⟨by kernel_rfl,by kernel_rfl⟩
theorem agg37:xZ Tryz.prog 37 4=true:=uO
theorem zero37:C3 Tryz.prog 37 [.int .i64 0,.int .i64 0,.int .i64 0,.int .i64 0]:=iZ uO
theorem st37:C0 Tryz.prog 37 [(0,1),(1,1),(2,1),(3,1)] [.int .i64 0,.int .i64 0,.int .i64 0,.int .i64 0]:=kB (Tryz.prog.fieldsOf 37) uO uO uO
theorem ai37:Es Tryz.prog 37 4:=⟨by kernel_rfl,by kernel_rfl,by kernel_rfl,by kernel_rfl⟩
theorem one39:xB Tryz.prog 39=true:=uO
theorem size39:(Tryz.prog.info? 39).map (·.size)=some 1:=uO
theorem sl39:uX Tryz.prog 39 89 2:=⟨by kernel_rfl,by kernel_rfl⟩
theorem el39:B8 Tryz.prog 39 1 24 [.slice none 0 0]:=mD uO U
theorem sl45:uX Tryz.prog 45 93 2:=⟨by kernel_rfl,by kernel_rfl⟩
theorem agg51:xZ Tryz.prog 51 2=true:=uO
theorem zero51:C3 Tryz.prog 51 [.int .i64 0,.int .i64 0]:=iZ uO
theorem el51:B8 Tryz.prog 51 2 16 [.int .i64 0,.int .i64 0]:=mD uO U
theorem st51:C0 Tryz.prog 51 [(0,1),(1,1)] [.int .i64 0,.int .i64 0]:=kB (Tryz.prog.fieldsOf 51) uO uO uO
theorem ai51:Es Tryz.prog 51 2:=⟨by kernel_rfl,by kernel_rfl,by kernel_rfl,by kernel_rfl⟩
theorem sl57:uX Tryz.prog 57 65 2:=⟨by kernel_rfl,by kernel_rfl⟩
theorem agg65:xZ Tryz.prog 65 2=true:=uO
theorem zero65:C3 Tryz.prog 65 [.slice none 0 0,.slice none 0 0]:=iZ uO
theorem el65:B8 Tryz.prog 65 2 48 [.slice none 0 0,.slice none 0 0]:=mD uO U
theorem st65:C0 Tryz.prog 65 [(0,1),(1,1)] [.slice none 0 0,.slice none 0 0]:=kB (Tryz.prog.fieldsOf 65) uO uO uO
theorem sl86:uX Tryz.prog 86 39 1:=⟨by kernel_rfl,by kernel_rfl⟩
theorem one87:xB Tryz.prog 87=true:=uO
theorem sl87:uX Tryz.prog 87 166 1:=⟨by kernel_rfl,by kernel_rfl⟩
theorem agg89:xZ Tryz.prog 89 2=true:=uO
theorem size89:(Tryz.prog.info? 89).map (·.size)=some 2:=uO
theorem zero89:C3 Tryz.prog 89 [.bool false,.slice none 0 0]:=iZ uO
theorem fa89_0:Ay Tryz.prog 89 0 0:=fun _ _ _=>uO
theorem fa89_1:Ay Tryz.prog 89 1 1:=fun _ _ _=>uO
theorem el89:B8 Tryz.prog 89 2 32 [.bool false,.slice none 0 0]:=mD uO U
theorem st89:C0 Tryz.prog 89 [(0,1),(1,1)] [.bool false,.slice none 0 0]:=kB (Tryz.prog.fieldsOf 89) uO uO uO
theorem agg93:xZ Tryz.prog 93 2=true:=uO
theorem zero93:C3 Tryz.prog 93 [.bool false,.slice none 0 0]:=iZ uO
theorem el93:B8 Tryz.prog 93 2 32 [.bool false,.slice none 0 0]:=mD uO U
theorem st93:C0 Tryz.prog 93 [(0,1),(1,1)] [.bool false,.slice none 0 0]:=kB (Tryz.prog.fieldsOf 93) uO uO uO
theorem sl122:uX Tryz.prog 122 26 4:=⟨by kernel_rfl,by kernel_rfl⟩
theorem st127:C0 Tryz.prog 127 [(0,15)] [.int .i64 0,.int .i64 0,.slice none 0 0,.int .i64 0,.int .i64 0,.slice none 0 0,.slice none 0 0,.int .i64 0,.int .i64 0,.slice none 0 0,.slice none 0 0,.int .i64 0,.int .i64 0,.slice none 0 0,.slice none 0 0]:=kB (Tryz.prog.fieldsOf 127) uO uO uO
theorem u165:Tryz.prog.underlying 165=some (.int .u64):=uO
theorem one166:xB Tryz.prog 166=true:=uO
theorem size166:(Tryz.prog.info? 166).map (·.size)=some 1:=uO
theorem el166:B8 Tryz.prog 166 1 4 [.int .u32 0]:=mD uO U
theorem u166:Tryz.prog.underlying 166=some (.int .u32):=uO
theorem zero177:C3 Tryz.prog 177 [.slice none 0 0]:=iZ uO
theorem sl177:uX Tryz.prog 177 5 1:=⟨by kernel_rfl,by kernel_rfl⟩
theorem sl199:uX Tryz.prog 199 203 5:=⟨by kernel_rfl,by kernel_rfl⟩
theorem agg203:xZ Tryz.prog 203 5=true:=uO
theorem zero203:C3 Tryz.prog 203 [.int .i64 0,.int .i64 0,.slice none 0 0,.slice none 0 0,.nilFunc]:=iZ uO
theorem el203:B8 Tryz.prog 203 5 72 [.int .i64 0,.int .i64 0,.slice none 0 0,.slice none 0 0,.nilFunc]:=mD uO U
theorem st203:C0 Tryz.prog 203 [(0,4),(4,1)] [.int .i64 0,.int .i64 0,.slice none 0 0,.slice none 0 0,.nilFunc]:=kB (Tryz.prog.fieldsOf 203) uO uO uO
theorem ar205:C9 Tryz.prog 205 3 1 [.pointer none,.pointer none,.pointer none]:=qO 150 uO uO uO
theorem agg211:xZ Tryz.prog 211 5=true:=uO
theorem zero211:C3 Tryz.prog 211 [.int .i64 0,.int .i64 0,.int .i64 0,.int .i64 0,.int .i64 0]:=iZ uO
theorem el211:B8 Tryz.prog 211 5 40 [.int .i64 0,.int .i64 0,.int .i64 0,.int .i64 0,.int .i64 0]:=mD uO U
theorem zero222:C3 Tryz.prog 222 [.slice none 0 0,.slice none 0 0]:=iZ uO
theorem ar222:C9 Tryz.prog 222 2 1 [.slice none 0 0,.slice none 0 0]:=qO 86 uO uO uO
theorem zero223:C3 Tryz.prog 223 [.slice none 0 0,.int .i64 0,.int .i64 0,.int .i64 0,.slice none 0 0,.slice none 0 0]:=iZ uO
theorem st223:C0 Tryz.prog 223 [(0,1),(1,1),(2,4)] [.slice none 0 0,.int .i64 0,.int .i64 0,.int .i64 0,.slice none 0 0,.slice none 0 0]:=kB (Tryz.prog.fieldsOf 223) uO uO uO
theorem ar224:C9 Tryz.prog 224 2 6 [.slice none 0 0,.int .i64 0,.int .i64 0,.int .i64 0,.slice none 0 0,.slice none 0 0,.slice none 0 0,.int .i64 0,.int .i64 0,.int .i64 0,.slice none 0 0,.slice none 0 0]:=qO 223 uO uO uO
theorem st251:C0 Tryz.prog 251 [(0,1),(1,1),(2,1)] [.int .i64 0,.int .i64 0,.slice none 0 0]:=kB (Tryz.prog.fieldsOf 251) uO uO uO
theorem fa267_0:Ay Tryz.prog 267 0 0:=fun _ _ _=>uO
theorem fa267_2:Ay Tryz.prog 267 2 5:=fun _ _ _=>uO
theorem st267:C0 Tryz.prog 267 [(0,4),(4,1),(5,1)] [.int .i64 0,.int .i64 0,.slice none 0 0,.slice none 0 0,.slice none 0 0,.int .i64 0]:=kB (Tryz.prog.fieldsOf 267) uO uO uO
theorem ar279:C9 Tryz.prog 279 2 1 [.int .i64 0,.int .i64 0]:=qO 3 uO uO uO
theorem zero286:C3 Tryz.prog 286 [.pointer none,.slice none 0 0]:=iZ uO
theorem zero287:C3 Tryz.prog 287 [.int .u8 0,.int .u8 0,.int .u8 0,.int .u8 0,.int .u8 0,.int .u8 0,.int .u8 0,.int .u8 0,.int .u8 0]:=iZ uO
theorem agg352:xZ Tryz.prog 352 5=true:=uO
theorem zero352:C3 Tryz.prog 352 [.nilFunc,.nilFunc,.nilFunc,.nilFunc,.nilFunc]:=iZ uO
theorem st352:C0 Tryz.prog 352 [(0,1),(1,1),(2,1),(3,1),(4,1)] [.nilFunc,.nilFunc,.nilFunc,.nilFunc,.nilFunc]:=kB (Tryz.prog.fieldsOf 352) uO uO uO
theorem one361:xB Tryz.prog 361=true:=uO
theorem ar394:C9 Tryz.prog 394 32 1 [.int .u8 0,.int .u8 0,.int .u8 0,.int .u8 0,.int .u8 0,.int .u8 0,.int .u8 0,.int .u8 0,.int .u8 0,.int .u8 0,.int .u8 0,.int .u8 0,.int .u8 0,.int .u8 0,.int .u8 0,.int .u8 0,.int .u8 0,.int .u8 0,.int .u8 0,.int .u8 0,.int .u8 0,.int .u8 0,.int .u8 0,.int .u8 0,.int .u8 0,.int .u8 0,.int .u8 0,.int .u8 0,.int .u8 0,.int .u8 0,.int .u8 0,.int .u8 0]:=qO 5 uO uO uO
theorem fn42:wJ Tryz.prog 42:=⟨Tryz.f42,Tryz.func42,U,by kernel_rfl⟩
theorem fn43:wJ Tryz.prog 43:=⟨Tryz.f43,Tryz.func43,U,by kernel_rfl⟩
theorem fn48:wJ Tryz.prog 48:=⟨Tryz.f48,Tryz.func48,U,by kernel_rfl⟩
theorem fn55:wJ Tryz.prog 55:=⟨Tryz.f55,Tryz.func55,U,by kernel_rfl⟩
theorem fn65:wJ Tryz.prog 65:=⟨Tryz.f65,Tryz.func65,U,by kernel_rfl⟩
theorem fn73:wJ Tryz.prog 73:=⟨Tryz.f73,Tryz.func73,U,by kernel_rfl⟩
theorem fn96:wJ Tryz.prog 96:=⟨Tryz.f96,Tryz.func96,U,by kernel_rfl⟩
theorem fn150:wJ Tryz.prog 150:=⟨Tryz.f150,Tryz.func150,U,by kernel_rfl⟩
theorem fn155:wJ Tryz.prog 155:=⟨Tryz.f155,Tryz.func155,U,by kernel_rfl⟩
theorem fn158:wJ Tryz.prog 158:=⟨Tryz.f158,Tryz.func158,U,by kernel_rfl⟩
theorem fn159:wJ Tryz.prog 159:=⟨Tryz.f159,Tryz.func159,U,by kernel_rfl⟩
theorem fn166:wJ Tryz.prog 166:=⟨Tryz.f166,Tryz.func166,U,by kernel_rfl⟩
theorem fn168:wJ Tryz.prog 168:=⟨Tryz.f168,Tryz.func168,U,by kernel_rfl⟩
theorem fn170:wJ Tryz.prog 170:=⟨Tryz.f170,Tryz.func170,U,by kernel_rfl⟩
theorem fn171:wJ Tryz.prog 171:=⟨Tryz.f171,Tryz.func171,U,by kernel_rfl⟩
theorem fn204:wJ Tryz.prog 204:=⟨Tryz.f204,Tryz.func204,U,by kernel_rfl⟩
theorem fn252:wJ Tryz.prog 252:=⟨Tryz.f252,Tryz.func252,U,by kernel_rfl⟩
theorem fn258:wJ Tryz.prog 258:=⟨Tryz.f258,Tryz.func258,U,by kernel_rfl⟩
theorem fn259:wJ Tryz.prog 259:=⟨Tryz.f259,Tryz.func259,U,by kernel_rfl⟩
theorem fn260:wJ Tryz.prog 260:=⟨Tryz.f260,Tryz.func260,U,by kernel_rfl⟩
theorem fn261:wJ Tryz.prog 261:=⟨Tryz.f261,Tryz.func261,U,by kernel_rfl⟩
theorem fn262:wJ Tryz.prog 262:=⟨Tryz.f262,Tryz.func262,U,by kernel_rfl⟩
theorem fn264:wJ Tryz.prog 264:=⟨Tryz.f264,Tryz.func264,U,by kernel_rfl⟩
theorem fn265:wJ Tryz.prog 265:=⟨Tryz.f265,Tryz.func265,U,by kernel_rfl⟩
theorem fn267:wJ Tryz.prog 267:=⟨Tryz.f267,Tryz.func267,U,by kernel_rfl⟩
theorem fn268:wJ Tryz.prog 268:=⟨Tryz.f268,Tryz.func268,U,by kernel_rfl⟩
theorem fn269:wJ Tryz.prog 269:=⟨Tryz.f269,Tryz.func269,U,by kernel_rfl⟩
theorem fn293:wJ Tryz.prog 293:=⟨Tryz.f293,Tryz.func293,U,by kernel_rfl⟩
theorem fn294:wJ Tryz.prog 294:=⟨Tryz.f294,Tryz.func294,U,by kernel_rfl⟩
theorem fn296:wJ Tryz.prog 296:=⟨Tryz.f296,Tryz.func296,U,by kernel_rfl⟩
theorem fn298:wJ Tryz.prog 298:=⟨Tryz.f298,Tryz.func298,U,by kernel_rfl⟩
theorem fn299:wJ Tryz.prog 299:=⟨Tryz.f299,Tryz.func299,U,by kernel_rfl⟩
theorem fn301:wJ Tryz.prog 301:=⟨Tryz.f301,Tryz.func301,U,by kernel_rfl⟩
theorem fn318:wJ Tryz.prog 318:=⟨Tryz.f318,Tryz.func318,U,by kernel_rfl⟩
theorem fn320:wJ Tryz.prog 320:=⟨Tryz.f320,Tryz.func320,U,by kernel_rfl⟩
theorem fn335:wJ Tryz.prog 335:=⟨Tryz.f335,Tryz.func335,U,by kernel_rfl⟩
theorem mixed:Tryz.prog.follows .mixedOrders=true:=uO
end Go.Proofs.YtngphgeghfdjbaaGreatDoor.T
namespace Go.Proofs.YtngphgeghfdjbaaGreatDoor
open Go Go.Sl
instance:Tab Tryz.prog where
 fn:=[16,17,18,19,20,21,22,23,24,25,30,34,38,40,42,43,48,50,51,52,55,56,57,58,59,65,69,70,71,72,74,80,81,86,92,95,96,97,98,99,100,104,105,106,109,110,120,122,123,124,125,126,127,128,140,141,146,147,149,150,151,154,158,159,163,164,165,166,167,169,172,173,174,175,181,182,183,184,196,198,199,200,201,202,203,204,205,206,207,208,209,210,211,212,213,214,215,216,222,223,224,226,242,246,247,248,249,250,251,253,254,255,263,266,290,291,292,295,297,300,316,317,318,319]
 fnP:=.of uO
 one:=[3,4,9,22,23,24,39,86,87,177,201,284,306,348,349,350]
 agg:=[(26,4),(28,15),(37,4),(51,2),(65,2),(89,2),(93,2),(203,5),(211,5),(223,6),(352,5)]
 sl:=[22,23,24,29,39,45,57,86,87,122,177,199]
 fa:=[(26,0,0),(26,1,1),(26,2,2),(26,3,3),(28,0,0),(28,1,1),(28,2,2),(28,3,3),(28,4,7),(28,5,11),(37,0,0),(37,1,1),(37,2,2),(37,3,3),(51,0,0),(51,1,1),(65,0,0),(65,1,1),(89,0,0),(89,1,1),(93,0,0),(93,1,1),(127,0,0),(203,0,0),(203,1,4),(211,0,0),(211,1,1),(211,2,2),(211,3,3),(211,4,4),(223,0,0),(223,1,1),(223,2,2),(267,0,0),(267,1,4),(267,2,5),(286,0,0),(286,1,1),(352,0,0),(352,1,1),(352,2,2),(352,3,3),(352,4,4)]
 oneP:=.of uO
 aggP:=.of uO
 slP:=.of uO
 faP:=⟨fun _ _ _=>by kernel_rfl,fun _ _ _=>by kernel_rfl,fun _ _ _=>by kernel_rfl,fun _ _ _=>by kernel_rfl,fun _ _ _=>by kernel_rfl,fun _ _ _=>by kernel_rfl,fun _ _ _=>by kernel_rfl,fun _ _ _=>by kernel_rfl,fun _ _ _=>by kernel_rfl,fun _ _ _=>by kernel_rfl,fun _ _ _=>by kernel_rfl,fun _ _ _=>by kernel_rfl,fun _ _ _=>by kernel_rfl,fun _ _ _=>by kernel_rfl,fun _ _ _=>by kernel_rfl,fun _ _ _=>by kernel_rfl,fun _ _ _=>by kernel_rfl,fun _ _ _=>by kernel_rfl,fun _ _ _=>by kernel_rfl,fun _ _ _=>by kernel_rfl,fun _ _ _=>by kernel_rfl,fun _ _ _=>by kernel_rfl,fun _ _ _=>by kernel_rfl,fun _ _ _=>by kernel_rfl,fun _ _ _=>by kernel_rfl,fun _ _ _=>by kernel_rfl,fun _ _ _=>by kernel_rfl,fun _ _ _=>by kernel_rfl,fun _ _ _=>by kernel_rfl,fun _ _ _=>by kernel_rfl,fun _ _ _=>by kernel_rfl,fun _ _ _=>by kernel_rfl,fun _ _ _=>by kernel_rfl,fun _ _ _=>by kernel_rfl,fun _ _ _=>by kernel_rfl,fun _ _ _=>by kernel_rfl,fun _ _ _=>by kernel_rfl,fun _ _ _=>by kernel_rfl,fun _ _ _=>by kernel_rfl,fun _ _ _=>by kernel_rfl,fun _ _ _=>by kernel_rfl,fun _ _ _=>by kernel_rfl,fun _ _ _=>by kernel_rfl,I8⟩
end Go.Proofs.YtngphgeghfdjbaaGreatDoor
namespace Go.Proofs.YtngphgeghfdjbaaGreatDoor.T
open Go Go.Sl
theorem ar395:C9 Tryz.prog 395 64 1 (List.replicate 64 (.int .u8 0)):=qO 5 uO uO uO
end Go.Proofs.YtngphgeghfdjbaaGreatDoor.T
namespace Go.Proofs.YtngphgeghfdjbaaGreatDoor
open Go Go.Sl
def KP (c:Int):Int:=if c=2 then 1 else if c=4 then 2 else if c=8 then 3 else if c=16 then 4 else if c=32 then 5 else if c=64 then 6 else if c=128 then 7 else if c=256 then 8 else if c=512 then 9 else 0
def HL:List Value:=[0,1,56,2,57,49,28,3,61,58,42,50,38,29,17,4,62,47,59,36,45,43,51,22,53,39,33,30,24,18,12,5,63,55,48,27,60,41,37,16,46,35,44,21,52,32,23,11,54,26,40,15,34,20,31,10,25,14,19,9,13,8,7,6].map fun n=>.int .u8 n
def TabOk (G:A3):Prop:=∀ k v,HL[k]?=some v→G.cell 1 k=some v
theorem TabOk.cell {G:A3} (h:TabOk G) (k:Nat) (v:Value) (hv:HL[k]?=some v):G.cell 1 k=some v:=h k v hv
theorem KQ {c:Int} (h:KP c≠0):c=2∨c=4∨c=8∨c=16∨c=32∨c=64∨c=128∨c=256∨c=512:=by
 unfold KP at h
 repeat' split at h
 all_goals omega
theorem pu (G:A3) (hT:TabOk G) (c:Int) (h:KP c≠0):Does Tryz.prog 269 [.int .u64 c] G [] (fun v G' Ho=>v=.int .i64 (KP c)∧G'=G∧Ho=[]):=by
 refine D0 Tryz.func269 Tryz.ntmps269 fun w=>?_;rcases KQ h with rfl | rfl | rfl | rfl | rfl | rfl | rfl | rfl | rfl
 · have hcell:=hT.cell 1 (.int .u8 1) U;refine bP ?_;refine aZ U ?_;refine aF 1 [] ?_;refine bT ?_;refine bE ?_;refine bP ?_;refine bP ?_;refine aZ U ?_;refine aF 2 [] ?_;refine bT ?_;refine bE ?_;refine iE U vG ?_;refine iU ?_;refine bE ?_;refine bP ?_;refine aZ U ?_;refine aF 2 [] ?_;refine aT (nN U) ?_;refine aT (nO U U) ?_;refine aT (nC U U) ?_;refine aT (pO U U uJ) ?_;refine jB 10 U (show _=Value.int .u64 1 by kernel_rfl) ?_;refine aT (fV 1 T.ar395 U U U U) ?_;refine aT (cS T.one5 U uK) ?_;refine aT (jM U T.u3 U) ?_;refine aF 1 [] ?_;refine bT ?_;refine bE ?_;refine kK ?_;refine cZ ?_;exact ⟨U,U,U⟩
 · have hcell:=hT.cell 3 (.int .u8 2) U;refine bP ?_;refine aZ U ?_;refine aF 1 [] ?_;refine bT ?_;refine bE ?_;refine bP ?_;refine bP ?_;refine aZ U ?_;refine aF 2 [] ?_;refine bT ?_;refine bE ?_;refine iE U vG ?_;refine iU ?_;refine bE ?_;refine bP ?_;refine aZ U ?_;refine aF 2 [] ?_;refine aT (nN U) ?_;refine aT (nO U U) ?_;refine aT (nC U U) ?_;refine aT (pO U U uJ) ?_;refine jB 10 U (show _=Value.int .u64 3 by kernel_rfl) ?_;refine aT (fV 3 T.ar395 U U U U) ?_;refine aT (cS T.one5 U uK) ?_;refine aT (jM U T.u3 U) ?_;refine aF 1 [] ?_;refine bT ?_;refine bE ?_;refine kK ?_;refine cZ ?_;exact ⟨U,U,U⟩
 · have hcell:=hT.cell 7 (.int .u8 3) U;refine bP ?_;refine aZ U ?_;refine aF 1 [] ?_;refine bT ?_;refine bE ?_;refine bP ?_;refine bP ?_;refine aZ U ?_;refine aF 2 [] ?_;refine bT ?_;refine bE ?_;refine iE U vG ?_;refine iU ?_;refine bE ?_;refine bP ?_;refine aZ U ?_;refine aF 2 [] ?_;refine aT (nN U) ?_;refine aT (nO U U) ?_;refine aT (nC U U) ?_;refine aT (pO U U uJ) ?_;refine jB 10 U (show _=Value.int .u64 7 by kernel_rfl) ?_;refine aT (fV 7 T.ar395 U U U U) ?_;refine aT (cS T.one5 U uK) ?_;refine aT (jM U T.u3 U) ?_;refine aF 1 [] ?_;refine bT ?_;refine bE ?_;refine kK ?_;refine cZ ?_;exact ⟨U,U,U⟩
 · have hcell:=hT.cell 15 (.int .u8 4) U;refine bP ?_;refine aZ U ?_;refine aF 1 [] ?_;refine bT ?_;refine bE ?_;refine bP ?_;refine bP ?_;refine aZ U ?_;refine aF 2 [] ?_;refine bT ?_;refine bE ?_;refine iE U vG ?_;refine iU ?_;refine bE ?_;refine bP ?_;refine aZ U ?_;refine aF 2 [] ?_;refine aT (nN U) ?_;refine aT (nO U U) ?_;refine aT (nC U U) ?_;refine aT (pO U U uJ) ?_;refine jB 10 U (show _=Value.int .u64 15 by kernel_rfl) ?_;refine aT (fV 15 T.ar395 U U U U) ?_;refine aT (cS T.one5 U uK) ?_;refine aT (jM U T.u3 U) ?_;refine aF 1 [] ?_;refine bT ?_;refine bE ?_;refine kK ?_;refine cZ ?_;exact ⟨U,U,U⟩
 · have hcell:=hT.cell 31 (.int .u8 5) U;refine bP ?_;refine aZ U ?_;refine aF 1 [] ?_;refine bT ?_;refine bE ?_;refine bP ?_;refine bP ?_;refine aZ U ?_;refine aF 2 [] ?_;refine bT ?_;refine bE ?_;refine iE U vG ?_;refine iU ?_;refine bE ?_;refine bP ?_;refine aZ U ?_;refine aF 2 [] ?_;refine aT (nN U) ?_;refine aT (nO U U) ?_;refine aT (nC U U) ?_;refine aT (pO U U uJ) ?_;refine jB 10 U (show _=Value.int .u64 31 by kernel_rfl) ?_;refine aT (fV 31 T.ar395 U U U U) ?_;refine aT (cS T.one5 U uK) ?_;refine aT (jM U T.u3 U) ?_;refine aF 1 [] ?_;refine bT ?_;refine bE ?_;refine kK ?_;refine cZ ?_;exact ⟨U,U,U⟩
 · have hcell:=hT.cell 63 (.int .u8 6) U;refine bP ?_;refine aZ U ?_;refine aF 1 [] ?_;refine bT ?_;refine bE ?_;refine bP ?_;refine bP ?_;refine aZ U ?_;refine aF 2 [] ?_;refine bT ?_;refine bE ?_;refine iE U vG ?_;refine iU ?_;refine bE ?_;refine bP ?_;refine aZ U ?_;refine aF 2 [] ?_;refine aT (nN U) ?_;refine aT (nO U U) ?_;refine aT (nC U U) ?_;refine aT (pO U U uJ) ?_;refine jB 10 U (show _=Value.int .u64 63 by kernel_rfl) ?_;refine aT (fV 63 T.ar395 U U U U) ?_;refine aT (cS T.one5 U uK) ?_;refine aT (jM U T.u3 U) ?_;refine aF 1 [] ?_;refine bT ?_;refine bE ?_;refine kK ?_;refine cZ ?_;exact ⟨U,U,U⟩
 · have hcell:=hT.cell 62 (.int .u8 7) U;refine bP ?_;refine aZ U ?_;refine aF 1 [] ?_;refine bT ?_;refine bE ?_;refine bP ?_;refine bP ?_;refine aZ U ?_;refine aF 2 [] ?_;refine bT ?_;refine bE ?_;refine iE U vG ?_;refine iU ?_;refine bE ?_;refine bP ?_;refine aZ U ?_;refine aF 2 [] ?_;refine aT (nN U) ?_;refine aT (nO U U) ?_;refine aT (nC U U) ?_;refine aT (pO U U uJ) ?_;refine jB 10 U (show _=Value.int .u64 62 by kernel_rfl) ?_;refine aT (fV 62 T.ar395 U U U U) ?_;refine aT (cS T.one5 U uK) ?_;refine aT (jM U T.u3 U) ?_;refine aF 1 [] ?_;refine bT ?_;refine bE ?_;refine kK ?_;refine cZ ?_;exact ⟨U,U,U⟩
 · have hcell:=hT.cell 61 (.int .u8 8) U;refine bP ?_;refine aZ U ?_;refine aF 1 [] ?_;refine bT ?_;refine bE ?_;refine bP ?_;refine bP ?_;refine aZ U ?_;refine aF 2 [] ?_;refine bT ?_;refine bE ?_;refine iE U vG ?_;refine iU ?_;refine bE ?_;refine bP ?_;refine aZ U ?_;refine aF 2 [] ?_;refine aT (nN U) ?_;refine aT (nO U U) ?_;refine aT (nC U U) ?_;refine aT (pO U U uJ) ?_;refine jB 10 U (show _=Value.int .u64 61 by kernel_rfl) ?_;refine aT (fV 61 T.ar395 U U U U) ?_;refine aT (cS T.one5 U uK) ?_;refine aT (jM U T.u3 U) ?_;refine aF 1 [] ?_;refine bT ?_;refine bE ?_;refine kK ?_;refine cZ ?_;exact ⟨U,U,U⟩
 have hcell:=hT.cell 59 (.int .u8 9) U;refine bP ?_;refine aZ U ?_;refine aF 1 [] ?_;refine bT ?_;refine bE ?_;refine bP ?_;refine bP ?_;refine aZ U ?_;refine aF 2 [] ?_;refine bT ?_;refine bE ?_;refine iE U vG ?_;refine iU ?_;refine bE ?_;refine bP ?_;refine aZ U ?_;refine aF 2 [] ?_;refine aT (nN U) ?_;refine aT (nO U U) ?_;refine aT (nC U U) ?_;refine aT (pO U U uJ) ?_;refine jB 10 U (show _=Value.int .u64 59 by kernel_rfl) ?_;refine aT (fV 59 T.ar395 U U U U) ?_;refine aT (cS T.one5 U uK) ?_;refine aT (jM U T.u3 U) ?_;refine aF 1 [] ?_;refine bT ?_;refine bE ?_;refine kK ?_;refine cZ ?_;exact ⟨U,U,U⟩
end Go.Proofs.YtngphgeghfdjbaaGreatDoor
namespace Go.Sl
open Go Go.ChangeShapes Go.WideShapes Go.RowKit
def yX (W:World):A3:=fun b=>W.heap[b]?
theorem ib (W:World):B6 [] (yX W) W:=
 ⟨fun t b o h=>by simp [Hp.get] at h,fun t t' b o o' h=>by simp [Hp.get] at h,fun b o h=>h,fun t b o h=>by simp [Hp.get] at h⟩
theorem KR {W W':World} (h:D2 (Hp.has []) W W'):Go.RowKit.Below W.heap.size W W':=
 ⟨h.os,h.tape,h.output,h.size,fun k hk=>h.same k hk (fun ⟨t,o,hx⟩=>by simp [Hp.get] at hx)⟩
section
variable {H:Type} {enc:TypeId×Value→H} {P:Program}
theorem Gn (hl:laidOutB P=true) {W W':World} {sp':Nat→Bool}:∀ {ts:List TypeId} {vs:List Value} {ds:List (DataW H)} {ps:List MemPlace},(ts.all fun t=>P.readableRec t && decide (t<P.types.size))=true→
 DataW.TrodAll enc P W 0 (fun _=>true) true ts vs ds ps→(∀ p∈ps,W.sameAt W' p)→(∀ p∈ps,sp' p.block=true)→DataW.TrodAll enc P W' 0 sp' true ts vs ds ps
 | [],_,_,_,_,h,_,_=>by
   obtain ⟨rfl,rfl,rfl⟩:=trodAll_nil h;exact trodAll_mk0
 | t :: ts,_,_,_,hr,h,hs,hp=>by
   obtain ⟨v,vs,d,ds,p,q,rfl,rfl,rfl,h1,h2⟩:=trodAll_cons h;simp only [kC,aB,aY] at hr;exact ⟨p,q,WideElems.Trod_stays hl hr.1.1 hr.1.2 h1 (fun x hx=>hs x (by simp [hx])) (fun x hx=>hp x (by simp [hx])),
    Gn hl hr.2 h2 (fun x hx=>hs x (by simp [hx])) (fun x hx=>hp x (by simp [hx])),U⟩
theorem Mo {w:World} {base:Nat} {sp:Nat→Bool} {hd:Bool}:∀ {ts:List TypeId} {vs:List Value} {ds:List (DataW H)} {ps:List MemPlace},DataW.TrodAll enc P w base sp hd ts vs ds ps→ds.length=ts.length
 | [],_,_,_,h=>by obtain ⟨rfl,rfl,rfl⟩:=trodAll_nil h;rfl
 | t :: ts,_,_,_,h=>by
   obtain ⟨v,vs,d,ds,p,q,rfl,rfl,rfl,h1,h2⟩:=trodAll_cons h;simp [Mo h2]
theorem KS {f:Func} {n:FuncId} {s:ChangeSpec} {tb:TypeId} {apart fresh handsOn again:Bool} (hl:laidOutB P=true) (hr:(f.params.toList.all fun t=>P.readableRec t && decide (t<P.types.size))=true) (hres:f.resultTypes=#[tb]) (hb:P.underlying tb=some .bool)
 (hv:s.vars=[]) (hs:∀ ds:List (DataW H),ds.length=f.params.toList.length→s.fn H ds={ results:=[.lit (.bool true)],args:=ds }) {W:World} {args:Array Value} {ds gs:List (DataW H)} {before:List MemPlace}
 (hW:DataW.Whole enc P f.params.toList s.vars apart W args.toList ds gs before) (hd:Does P n args.toList (yX W) [] (fun v _ _=>v=.bool true)) :
 Calls P n args W fun e W'=>∃ v,e=.returned v∧s.post enc P f apart fresh handsOn again W args v W':=by
 refine (hd W (ib W)).mono fun e W' ⟨v,G',Ho,he,q1,q2,q3,q4,q5,hvv⟩=>⟨v,he,?_⟩
 subst hvv;have hbel:=KR q3;have hW':=hW;have hlt:=hW.lt;obtain ⟨p,q,hA,hV,rfl,hz,hn⟩:=hW;rw [hv] at hV;obtain ⟨rfl,rfl⟩:=trodVars_none hV;simp only [fH] at hW' hlt hz hn;have hlen:=Mo hA;have hspec:=hs ds hlen;have hres':∀ (b:Nat) (sp:Nat→Bool) (hd:Bool),DataW.TrodAll enc P W' b sp hd f.resultTypes.toList ((Value.bool true).resultList f.resultTypes.size) (s.fn H (ds++[])).results []:=fun b sp hd=>by
  rw [fH,hspec,hres];exact ⟨[],[],shut_bool hb _,trodAll_mk0,U⟩
 have hargs:∀ sp:Nat→Bool,(∀ x∈p,sp x.block=true)→DataW.TrodAll enc P W' 0 sp true f.params.toList args.toList (s.fn H (ds++[])).args p:=fun sp hsp=>by
  rw [fH,hspec];exact Gn hl hr hA (fun x hx=>hbel.same (hlt x hx)) hsp
 have hvars:∀ sp:Nat→Bool,DataW.TrodVars enc P W' sp s.vars (s.fn H (ds++[])).vars []:=fun sp=>by
  rw [fH,hspec,hv];exact U
 have hold:∀ x∈p,(fun b=>decide (b<W.heap.size)) x.block=true:=fun x hx=>by simpa using hlt x hx
 refine ⟨ds,[],p,[],p,[],by simpa using hW',hres' _ _ _,hargs _ hold,hvars _,World.keptBut_mono (fun x hx=>⟨hx,.inr (by simpa using hx)⟩) (hbel.frame _),fun _=>?_⟩;refine ⟨ok_one hres U (okWide_bool_mk hb _),_,_,([]++p)++[],⟨[]++p,[],trodAll_append (hargs _ (fun _ _=>rfl)) (hres' _ _ _),hvars _,U,?_,?_⟩,?_⟩
 · intro b off hp;have hp':MemPlace.cell b off∈p:=by simpa using hp
   rw [hbel.frozen (by exact hlt _ hp')];exact hz b off hp'
 · intro ha;simpa using hn ha
 intro x hx _;simpa using hx
end
theorem Gw {W:World} {b o:Nat} {v:Value} (h:W.cell? ⟨b,o,none⟩=some v):(yX W).cell b o=some v:=by
 unfold World.cell? at h;unfold A3.cell yX;split at h
 · rename_i c t fz hb;rw [show W.heap[b]?=some (.cells c t fz) from hb];exact h
 cases h
theorem Ui {W:World} {a:Addr} {v:Value} (h:W.cell? a=some v):a.spot=none:=by
 unfold World.cell? at h;split at h
 · cases hs:a.spot with
   | none=>rfl
   | some x=>simp [hs] at h
 cases h
theorem PE {a:Addr} {i:Nat} (h:(a.add i).spot=none) (ha:i=0∨True):a.add i=⟨a.block,a.off+i,none⟩:=by
 unfold Addr.add at h ⊢;split
 · rename_i h0;subst h0;rw [aM rfl] at h;cases a;simp_all
 rfl
section
variable {H:Type} {enc:TypeId×Value→H} {P:Program} {α:Type} [A2 α] [Inhabited α]
def om (enc:TypeId×Value→H) (P:Program) (W:World) (E:TypeId) (Good:α→DataW H→Prop):Prop:=
 ∀ (n:Nat) (cs:List Value) (x:DataW H×List MemPlace),DataW.trod enc P W 0 (fun _=>true) true n E cs=some x→∃ y:α,cs=A2.enc y∧Good y x.1
theorem Xo {W:World} {b o:Nat} {xs:List α} (h:∀ i,i<xs.length→∀ j,j<A2.sz α→W.cell? ⟨b,o+(i*A2.sz α+j),none⟩=(A2.enc (xs[i]?.getD default))[j]?) (h0:0<A2.sz α):(yX W).row b o (uT xs):=by
 intro q v hq;have hlt:q<(uT xs).length:=(aR.1 hq).1;rw [uV] at hlt;have h1:q=(q / A2.sz α)*A2.sz α+q % A2.sz α:=by rw [eG];exact (lY q _).symm
 have h2:q % A2.sz α<A2.sz α:=iX _ h0;have h3:q / A2.sz α<xs.length:=(eY h0).2 hlt;have h4:=Ep xs _ _ h3 h2;rw [←h1,hq] at h4;have h5:=h _ h3 _ h2;rw [←h1,←h4] at h5;exact Gw h5
theorem Ir {W:World} {T E:TypeId} {Good:α→DataW H→Prop} {fuel:Nat} {cs:List Value} {x:DataW H×List MemPlace} (ht:P.underlying T=some (.slice E)) (hsz:P.cellsOf E=A2.sz α) (h0:0<A2.sz α)
 (dec:om (α:=α) enc P W E Good) (h:DataW.trod enc P W 0 (fun _=>true) true fuel T cs=some x) :
 ∃ (a:Option Addr) (cap:Nat) (xs:List α),cs=[.slice a xs.length cap]∧Arr (yX W) a xs∧xs.length≤cap∧
  ((x.1=.nil∧xs=[])∨∃ l r,x.1=.slice l r∧l.length=xs.length∧∀ i,i<xs.length→∃ d,l[i]?=some d∧Good (xs[i]?.getD default) d):=by
 rcases Deep.open_slice ht h with ⟨rfl,rfl⟩ | ⟨a,len,cap,m,n,D,Pl,rfl,hb,hlc,hm,hmm,rfl,hx⟩
 · exact ⟨none,0,[],U,oT _,aG _,.inl ⟨U,U⟩⟩
 have hml:m=cap:=by rw [hmm];simp
 have hel:∀ i,i<len→∃ y:α,W.cells? 0 (a.add (i*A2.sz α)) (A2.sz α)=some (A2.enc y)∧Good y (D i):=fun i hi=>by
  obtain ⟨cs',h1,h2⟩:=hx i uJ;obtain ⟨y,rfl,hg⟩:=dec _ _ _ h2;rw [hsz] at h1;exact ⟨y,h1,hg⟩
 obtain ⟨Y,hY⟩:=Deep.choose_lt hel;have hlen:((List.range len).map Y).length=len:=vL;have hget:∀ i,i<len→((List.range len).map Y)[i]?.getD default=Y i:=fun i hi=>by simp [hi]
 refine ⟨some a,cap,(List.range len).map Y,by rw [hlen],⟨uV _,?_⟩,by rw [hlen];exact hlc,.inr ⟨_,_,U,by simp,fun i hi=>?_⟩⟩
 · rw [hlen];rcases dD len with h00 | hpos
   · exact .inl h00
   refine .inr ⟨a.block,a.off,?_,?_⟩
   · have h1:=(World.cells?_some (hY 0 hpos).1).2.2 0 h0;rw [jN] at h1;have h2:∃ v,(A2.enc (Y 0))[0]?=some v:=⟨_,aA (by rw [A2.len];exact h0)⟩
     obtain ⟨v,hv⟩:=h2;rw [hv] at h1;have h3:=Ui h1;cases a;simp only [Addr.add] at h3;simp_all
   refine Xo (fun i hi j hj=>?_) h0;rw [hlen] at hi;rw [hget i hi];have h1:=(World.cells?_some (hY i hi).1).2.2 j hj;have h2:∃ v,(A2.enc (Y i))[j]?=some v:=⟨_,aA (by rw [A2.len];exact hj)⟩
   obtain ⟨v,hv⟩:=h2;rw [hv] at h1 ⊢;rw [Deep.add_add] at h1;have h3:=Ui h1;rw [PE h3 (.inr trivial)] at h1;exact h1
 rw [hlen] at hi;rw [hget i hi];exact ⟨D i,by simp [hi],(hY i hi).2⟩
theorem HM {W:World} {E:TypeId} (he:P.underlying E=some (.int .i64)):om (α:=Int) enc P W E (fun y d=>d=.lit (.int .i64 y)∧(Lit.int .i64 y).wf=true):=fun n cs x h=>by
 obtain ⟨k,rfl,rfl,hw⟩:=iI he h;exact ⟨k,U,U,hw⟩
theorem KT {W:World} {E Ti:TypeId} {f0 f1 f2 f3 f4:Field} (hi:P.underlying Ti=some (.int .i64)) (hs:P.underlying E=some (.struct #[f0,f1,f2,f3,f4]))
 (h0:f0.type=Ti∧f0.offset=0) (h1:f1.type=Ti∧f1.offset=1) (h2:f2.type=Ti∧f2.offset=2) (h3:f3.type=Ti∧f3.offset=3) (h4:f4.type=Ti∧f4.offset=4) (hc:P.cellsOf Ti=1) (hcE:P.cellsOf E=5) :
 om (α:=Instr) enc P W E (fun _ _=>True):=fun n cs x h=>by
 obtain ⟨xs,m,_,_,hl,hxl,hf⟩:=qU hs h;rw [hcE] at hl
 match cs,hl with
 | [v0,v1,v2,v3,v4],_ =>
   have hxl':xs.length=5:=hxl
   match xs,hxl' with
   | [y0,y1,y2,y3,y4],_ =>
     have k0:=hf 0 f0 U;have k1:=hf 1 f1 U;have k2:=hf 2 f2 U;have k3:=hf 3 f3 U;have k4:=hf 4 f4 U;rw [h0.1,h0.2,hc] at k0;rw [h1.1,h1.2,hc] at k1;rw [h2.1,h2.2,hc] at k2;rw [h3.1,h3.2,hc] at k3;rw [h4.1,h4.2,hc] at k4;obtain ⟨a0,e0,_,_⟩:=iI hi k0;obtain ⟨a1,e1,_,_⟩:=iI hi k1;obtain ⟨a2,e2,_,_⟩:=iI hi k2;obtain ⟨a3,e3,_,_⟩:=iI hi k3;obtain ⟨a4,e4,_,_⟩:=iI hi k4;simp at e0 e1 e2 e3 e4;exact ⟨⟨a0,a1,a2,a3,a4⟩,by rw [e0,e1,e2,e3,e4];rfl,I8⟩
end
end Go.Sl
namespace Go.Proofs.YtngphgeghfdjbaaGreatDoor
open Go Go.Sl Go.ChangeShapes Go.WideShapes Go.RowKit Go.Joins
abbrev HN : List (String × DataW Unit) := [("math/bits.deBruijn32tab", Rows.laid_math_bits_deBruijn32tab), ("math/bits.deBruijn64tab", Rows.laid_math_bits_deBruijn64tab), ("unicode/utf8.acceptRanges", Rows.laid_unicode_utf8_acceptRanges), ("unicode/utf8.first", Rows.laid_unicode_utf8_first)]
def PG:List Int:=[0,1,56,2,57,49,28,3,61,58,42,50,38,29,17,4,62,47,59,36,45,43,51,22,53,39,33,30,24,18,12,5,63,55,48,27,60,41,37,16,46,35,44,21,52,32,23,11,54,26,40,15,34,20,31,10,25,14,19,9,13,8,7,6]
theorem px:Tryz.prog.underlying 4=some .bool:=uO
theorem HO:laidOutB Tryz.prog=true:=uO
theorem own:ownKnob Tryz.prog.godebug=none:=uO
theorem ic : Tryz.prog.globalNamed "math/bits.deBruijn64tab" = some 1 := by kernel_rfl
theorem PI:(Tryz.prog.globals[1]?).map (·.type)=some 395:=uO
theorem ak:Tryz.prog.underlying 395=some (.array 64 5):=uO
theorem ie:Tryz.prog.underlying 5=some (.int .u8):=uO
theorem PJ:Tryz.prog.cellsOf 395=64:=uO
theorem PK:Tryz.prog.cellsOf 5=1:=uO
theorem ig {W : World} (h : laidMetH Tryz.prog HN W) : Lib.TabIs Tryz.prog W "math/bits.deBruijn64tab" .u8 PG := by
 have h1 := h.filter (fun x => x.1 == "math/bits.deBruijn64tab");have e : HN.filter (fun x => x.1 == "math/bits.deBruijn64tab") = [("math/bits.deBruijn64tab", Rows.laid_math_bits_deBruijn64tab)] := by kernel_rfl
 rw [e] at h1;exact Lib.tabIs_of_head (rest:=[]) ic PI ak ie PK PJ h1
theorem al {W:World} (h:laidMetH Tryz.prog HN W):TabOk (yX W):=fun k v hv=>by
 have hk:k<PG.length:=by
  have:=(aR.1 hv).1;simpa [HL,PG] using this
 have h1:=(ig h).cell ic k hk;have h2:=Gw h1;rw [h2];have e:HL=PG.map fun n=>.int .u8 n:=rfl;rw [e,bJ,aA hk] at hv;rw [←hv,List.getD_eq_getElem?_getD,aA hk];rfl
def Xp (cs:Array Value):Obj→Obj
 | .cells _ t frozen=>.cells cs t frozen
 | o=>o
def Lc (os:Os):World:=
 { World.holding Tryz.prog os ⟨#[],#[],[]⟩ with heap:=((((World.holding Tryz.prog os ⟨#[],#[],[]⟩).heap.modify 0 (Xp #[.int .u8 0,.int .u8 1,.int .u8 28,.int .u8 2,.int .u8 29,.int .u8 14,.int .u8 24,.int .u8 3,.int .u8 30,.int .u8 22,.int .u8 20,.int .u8 15,.int .u8 25,.int .u8 17,.int .u8 4,.int .u8 8,.int .u8 31,.int .u8 27,.int .u8 13,.int .u8 23,.int .u8 21,.int .u8 19,.int .u8 16,.int .u8 7,.int .u8 26,.int .u8 12,.int .u8 18,.int .u8 6,.int .u8 11,.int .u8 5,.int .u8 10,.int .u8 9])).modify 1 (Xp HL.toArray)).modify 2 (Xp (Go.Pinned.utf8FirstZ.map fun (n:Nat)=>Value.int .u8 (n:Int)).toArray)).modify 3 (Xp #[.int .u8 128,.int .u8 191,.int .u8 160,.int .u8 191,.int .u8 128,.int .u8 159,.int .u8 144,.int .u8 191,.int .u8 128,.int .u8 143,.int .u8 0,.int .u8 0,.int .u8 0,.int .u8 0,.int .u8 0,.int .u8 0,.int .u8 0,.int .u8 0,.int .u8 0,.int .u8 0,.int .u8 0,.int .u8 0,.int .u8 0,.int .u8 0,.int .u8 0,.int .u8 0,.int .u8 0,.int .u8 0,.int .u8 0,.int .u8 0,.int .u8 0,.int .u8 0]) }
end Go.Proofs.YtngphgeghfdjbaaGreatDoor
end
