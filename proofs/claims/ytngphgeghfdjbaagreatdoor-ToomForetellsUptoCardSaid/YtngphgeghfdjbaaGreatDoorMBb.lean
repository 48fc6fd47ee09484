/- sN of the proof (part 2): what the rows' text needs of the texts that lead to it. -/
import Derived.Test.YtngphgeghfdjbaaGreatDoorMBa
set_option linter.unusedVariables false
set_option linter.unusedSimpArgs false
set_option linter.unusedSectionVars false
set_option maxHeartbeats 4000000
noncomputable section
set_option maxRecDepth 100000
namespace Go.Sl
open Go
structure R2 where
 a:Int
 b:Int
 deriving DecidableEq
instance:Inhabited R2:=⟨⟨0,0⟩⟩
instance:Cells R2:=⟨2,fun i=>[.int .i64 i.a,.int .i64 i.b],fun _=>rfl,fun _=>rfl⟩
structure R6 where
 a:Int
 b:Int
 c:Int
 d:Int
 e:Int
 f:Int
 deriving DecidableEq
instance:Inhabited R6:=⟨⟨0,0,0,0,0,0⟩⟩
instance:Cells R6:=⟨6,fun i=>[.int .i64 i.a,.int .i64 i.b,.int .i64 i.c,.int .i64 i.d,.int .i64 i.e,.int .i64 i.f],fun _=>rfl,fun _=>rfl⟩
section scope
variable {P:Program} {b:Frame} {a:Act} {k:List Item} {cs:List Frame} {w:World} {Q:Exit→Act→World→Prop} {F:Fence} {n:Nat}
theorem uD {c:Code}:step P (lone (b.atR a (.code (.scope c) :: k)) cs w)=.next (lone (b.atR a (.code c :: .inScope c :: k)) cs w):=
 step_lone_go (by simp [stepG,stepG.exec,Frame.atR])
theorem Il {c:Code}:step P (lone (b.atR a (.inScope c :: k)) cs w)=.next (lone (b.atR a k) cs w):=
 step_lone_go (by simp [stepG,stepG.exec,Frame.atR])
def Le (Q:Exit→Act→World→Prop):Exit→Act→World→Prop
 | .goto _,_,_=>False
 | e,a,w=>Q e a w
theorem Ew {c:Code} (h:c.wpIn F n P (Le Q) a w):(Code.scope c).wpIn F n P Q a w:=by
 intro b k cs hro hb hr
 have h0:(lone (b.atR a (.code (.scope c) :: k)) cs w).fenced P F:=kQ hb hr rfl
 obtain ⟨e,a₁,w₁,hq,harr⟩:=h b (.inScope c :: k) cs hro hb hr
 cases e with
 | normal=>exact ⟨.normal,a₁,w₁,hq,.head h0 uD (pV harr (.one (kQ hb hr rfl) Il))⟩
 | exit id =>
   have hx:exitTo id (.inScope c :: k)=exitTo id k:=by simp [exitTo]
   exact ⟨.exit id,a₁,w₁,hq,fun k' hk=>.head h0 uD (harr.1 k' (by rw [hx];exact hk)),
    fun hr' hk=>let ⟨k₁,h1,h2⟩:=harr.2 hr' (by rw [hx];exact hk);⟨k₁,h1,.head h0 uD h2⟩⟩
 | goto l=>exact hq.elim
 | ret=>exact ⟨_,a₁,w₁,hq,.of_steps (.one h0 uD) harr⟩
 | panic ch=>exact ⟨_,a₁,w₁,hq,.of_steps (.one h0 uD) harr⟩
 | outgrown=>exact ⟨_,a₁,w₁,hq,.of_steps (.one h0 uD) harr⟩
end scope
section scopeS
variable {r:Option Nat} {P:Program} {B:Bs} {S:St} {Q:Exit→Act→World→Prop}
theorem Wc.scope {c:Code} (h:Wc r P c B S (Le Q)):Wc r P (.scope c) B S Q:=fun a w hh=>Ew (h a w hh)
theorem Ui (h:Ar Q .ret B S):Ar (Le Q) .ret B S:=h
abbrev pS:=@Ui
end scopeS
section
variable {P:Program} {ops:Array Oper} {rest:List Oper} {B:Bs} {e:Env} {D:List Deferred} {H H0:Hp} {G:Imm} {K:Act→World→Prop}
 {ty:TypeId} {pos:String} {after:Array Edge} {d:Nat} {f:Nat} {listed:Array Bool}
theorem Bu {Q:Exit→Act→World→Prop} {x:Exit} (t:Nat) (o:Obj) (h:Ar Q x B ⟨e,D,(t,none,o) :: H,G⟩):Ar Q x B ⟨e,D,H,G⟩:=fun a w hh=>h a w (hh.noBlock t o)
theorem Ex {o:Op} {j:Nat} {want:Bool} {t:Nat} (hj:(ops[j]?).bind (·.dst)=some t) (he:e.get t=some undef) (hn:Nat.ble (d+1) B.n=true)
 (h:Wl P ops rest B ⟨(d,undef) :: e,D,H,G⟩ K):Wl P ops (⟨some d,o,ty,pos,after,some (j,want)⟩ :: rest) B ⟨e,D,H,G⟩ K:=by
 intro a w hh
 unfold rM
 have hy:yielded ops a.tmps j=none:=by simp [yielded,hj,hh.env t _ he,undef]
 rw [aF (by simp [Region.wanted,hy])]
 exact h _ _ (hh.put hn undef)
end
def Hp.pick (H:Hp):Nat→List Nat→Hp
 | _,[]=>[]
 | i,t :: ts=>match H.get t with | some x=>(i,x) :: Hp.pick H (i+1) ts | none=>Hp.pick H (i+1) ts
theorem Cz (H:Hp):∀ (ts:List Nat) (i j:Nat) (x:Option Nat×Obj),(H.pick i ts).get j=some x→i≤j∧∃ t,ts[j - i]?=some t∧H.get t=some x
 | [],i,j,x,h=>by simp [Hp.pick,Hp.get] at h
 | t :: ts,i,j,x,h=>by
   unfold Hp.pick at h
   have rec':(H.pick (i+1) ts).get j=some x→i≤j∧∃ t',(t :: ts)[j - i]?=some t'∧H.get t'=some x:=fun h=>by
    obtain ⟨h1,t',h2,h3⟩:=Cz H ts (i+1) j x h
    refine ⟨by omega,t',?_,h3⟩
    rw [show j - i=(j - (i+1))+1 by omega]
    simpa using h2
   split at h
   · rename_i y hy
     have h':Hp.get ((i,y) :: H.pick (i+1) ts) j=some x:=h
     rw [bF] at h'
     split at h'
     · rename_i e;subst e;cases h';exact ⟨aE _,t,by simp,hy⟩
     exact rec' h'
   exact rec' h
theorem Hold.pick {B:Bs} {e:Env} {D:List Deferred} {H:Hp} {G:Imm} {a:Act} {w:World} (hh:Hold B ⟨e,D,H,G⟩ a w) {ts:List Nat} (hn:ts.Nodup):Hold B ⟨e,D,H.pick 0 ts,G⟩ a w:=by
 have key:∀ t x,(H.pick 0 ts).get t=some x→∃ t',ts[t]?=some t'∧H.get t'=some x:=fun t x hx=>by
  obtain ⟨_,t',h1,h2⟩:=Cz H ts 0 t x hx
  exact ⟨t',by simpa using h1,h2⟩
 refine ⟨hh.size,hh.defers,hh.env,⟨?_,?_,hh.mem.imm,?_⟩,hh.upd,?_,hh.le,hh.new⟩
 · intro t b o hx;obtain ⟨t',_,h2⟩:=key _ _ hx;exact hh.mem.own _ b o h2
 · intro t u b o o' hx hy
   obtain ⟨t',h1,h2⟩:=key _ _ hx
   obtain ⟨u',h3,h4⟩:=key _ _ hy
   have:=hh.mem.one _ _ b _ _ h2 h4
   subst this
   obtain ⟨h5,h6⟩:=aJ.1 h1
   obtain ⟨h7,h8⟩:=aJ.1 h3
   rcases Nat.lt_trichotomy t u with h | h | h
   · exact absurd (h6.trans h8.symm) (List.pairwise_iff_getElem.1 hn t u h5 h7 h)
   · exact h
   exact absurd (h8.trans h6.symm) (List.pairwise_iff_getElem.1 hn u t h7 h5 h)
 · intro t b o hx;obtain ⟨t',_,h2⟩:=key _ _ hx;exact hh.mem.off _ b o h2
 intro t b o hx;obtain ⟨t',_,h2⟩:=key _ _ hx;exact hh.mine _ b o h2
section
variable {P:Program} {ops:Array Oper} {rest:List Oper} {B:Bs} {e:Env} {D:List Deferred} {H H0:Hp} {G:Imm} {K:Act→World→Prop}
 {ty:TypeId} {pos:String} {after:Array Edge} {d:Nat} {f:Nat} {listed:Array Bool}
theorem Ar.pick {Q:Exit→Act→World→Prop} {x:Exit} (ts:List Nat) (hn:ts.Nodup) (h:Ar Q x B ⟨e,D,H.pick 0 ts,G⟩):Ar Q x B ⟨e,D,H,G⟩:=fun a w hh=>h a w (hh.pick hn)
def DK {ι:Type} (B:Bs) (I:ι→St) (φ:ι→Prop):Act→World→Prop:=fun a w=>∃ j,φ j∧Hold B (I j) a w
theorem Aa {ι:Type} {r:Option Nat} {x y:Code} {Q:Exit→Act→World→Prop} (I:ι→Env×Hp) (φ:ι→Prop)
 (h1:Wc r P x B ⟨e,D,H,G⟩ (Exit.then (DK B (fun i=>⟨(I i).1,D,(I i).2,G⟩) φ) Q)) (h2:∀ i,φ i→Wc r P y B ⟨(I i).1,D,(I i).2,G⟩ Q):Wc r P (.seq x y) B ⟨e,D,H,G⟩ Q:=by
 refine cO fun a w hh b k cs hro hb hr=>?_
 obtain ⟨ex,a',w',hq,ha⟩:=h1 a w hh b k cs hro hb hr
 refine ⟨ex,a',w',?_,ha⟩
 cases ex with
 | normal=>obtain ⟨j,hj,hI⟩:=hq;exact h2 j hj a' w' hI
 | exit id=>exact hq
 | goto l=>exact hq
 | ret=>exact hq
 | panic ch=>exact hq
 | outgrown=>exact hq
theorem Ab {ι:Type} {I:ι→St} {φ:ι→Prop} {Q:Exit→Act→World→Prop} (j:ι) (hφ:φ j)
 (hI:I j=⟨(I j).e,D,(I j).H,G⟩) (he:e.sub (I j).e) (hH:H.sub (I j).H):Ar (Exit.then (DK B I φ) Q) .normal B ⟨e,D,H,G⟩:=
 fun a w hh=>⟨j,hφ,by rw [hI];exact hh.sub he hH⟩
def Lf (H:Hp) (Gx:Imm):Prop:=∀ t b o,H.get t=some (some b,o)→Gx b=some o
theorem HoldH.lend {H:Hp} {G:Imm} {w:World} (h:HoldH H G w):∃ Gx:Imm,G.le Gx∧Lf H Gx∧HoldH [] Gx w∧(∀ b,Gx b≠none→G b=none→∃ t o,H.get t=some (some b,o)):=by
 classical
 refine ⟨fun b=>if hx:∃ o,∃ t,H.get t=some (some b,o) then some (Classical.choose hx) else G b,?_,?_,⟨?_,?_,?_,?_⟩,?_⟩
 · intro b o hb
   have hn:¬∃ o,∃ t,H.get t=some (some b,o):=fun ⟨o',t,ht⟩=>by rw [h.off t b o' ht] at hb;cases hb
   simp only [hn,dif_neg,not_false_eq_true];exact hb
 · intro t b o ht
   have hx:∃ o,∃ t,H.get t=some (some b,o):=⟨o,t,ht⟩
   simp only [hx,dif_pos]
   obtain ⟨t',ht'⟩:=oU hx
   have:=h.one _ _ b _ _ ht ht'
   subst this
   rw [ht] at ht'
   simp only [bL,cP,true_and] at ht'
   rw [←ht']
 · intro t b o hx;simp [Hp.get] at hx
 · intro t t' b o o' hx;simp [Hp.get] at hx
 · intro b o hb
   try simp only at hb
   split at hb
   · rename_i hx
     obtain ⟨t',ht'⟩:=oU hx
     cases hb
     exact h.own t' b _ ht'
   exact h.imm b o hb
 · intro t b o hx;simp [Hp.get] at hx
 intro b hb hg
 try simp only at hb
 split at hb
 · rename_i hx;exact ⟨_,_,(oU hx).choose_spec⟩
 exact absurd hg hb
theorem Arr.own {α:Type} [Cells α] {Gx:Imm} {a:Option Addr} {c:Nat} {E:TypeId} {xs:List α} {junk:List Value} (hb:Lf H Gx) (t:Nat) (ht:H.get t=some (a.map (·.block),rP E xs junk)) (ho:OwnA a c xs junk):Arr Gx a xs:=by
 rcases ho with ⟨rfl,rfl,rfl,_⟩ | ⟨b,rfl,_⟩
 · exact pQ Gx
 exact Se (E:=E) (junk:=junk) (hb t b _ ht)
abbrev pP:=@Arr.own
def Sh (H:Hp) (k:Nat):Hp→Prop
 | []=>True
 | (t,x) :: L=>H.get (k+t)=some x∧Sh H k L
theorem sE {k:Nat}:∀ {Hi:Hp},Sh H k Hi→∀ t x,Hi.get t=some x→H.get (k+t)=some x
 | [],_,t,x,h=>by simp [Hp.get] at h
 | (j,y) :: L,⟨h1,h2⟩,t,x,h=>by
   rw [bF] at h
   split at h
   · rename_i hj;subst hj;cases h;exact h1
   exact sE h2 t x h
section own
variable {α:Type} [Cells α] {a:Option Addr} {c:Nat} {xs:List α} {junk:List Value}
theorem OwnA.addr (h:OwnA a c xs junk) (hn:0<xs.length):a=some ⟨ab a,0,none⟩:=by
 rcases h with ⟨_,h,_⟩ | ⟨b,rfl,_⟩
 · subst h;simp at hn
 rfl
theorem OwnA.blk (h:OwnA a c xs junk) (hn:0<xs.length):a.map (·.block)=some (ab a):=by rw [h.addr hn];rfl
theorem OwnA.le (h:OwnA a c xs junk):xs.length≤c:=by
 rcases h with ⟨_,rfl,_,rfl⟩ | ⟨b,_,_,h,_⟩
 · simp
 exact h
theorem Im {T:TypeId} {x i:Operand} {k:IntKind} {m:Int} {E:Nat} (hT:rH P T E (Cells.sz α)) (hx:e.ev x=some (.slice a xs.length c)) (hi:e.ev i=some (.int k m)) (ho:OwnA a c xs junk) (hb:0≤m∧m<xs.length) :
 Qy P (.indexAddr T x i) ty e H G (.pointer (some ⟨ab a,0+m.toNat*Cells.sz α,none⟩)):=by
 have ha:=ho.addr qX
 rw [ha] at hx
 exact cL hT hx hi hb
abbrev nV:=@Im
theorem Ac [Inhabited α] {T:TypeId} {x:Operand} {E:TypeId} {m:Int} {v:Value} (t k:Nat) (h1:sY P T=true) (hx:e.ev x=some (.pointer (some ⟨ab a,0+m.toNat*Cells.sz α+k,none⟩)))
 (ht:H.get t=some (a.map (·.block),rP E xs junk)) (ho:OwnA a c xs junk) (hm:0≤m∧m<xs.length) (hk:Nat.ble (k+1) (Cells.sz α)=true) (hv:(Cells.enc (xs[m.toNat]?.getD default))[k]?=some v):Qy P (.load T x) ty e H G v:=by
 rw [ho.blk qX] at ht
 exact Ng t k h1 hx ht hm hk hv
theorem Uj [Inhabited α] {T:TypeId} {x:Operand} {E:TypeId} {m:Int} (t:Nat) (h1:tX P T (Cells.sz α)=true) (hx:e.ev x=some (.pointer (some ⟨ab a,0+m.toNat*Cells.sz α,none⟩)))
 (ht:H.get t=some (a.map (·.block),rP E xs junk)) (ho:OwnA a c xs junk) (hm:0≤m∧m<xs.length):Qy P (.load T x) ty e H G (.agg (Cells.enc (xs[m.toNat]?.getD default)).toArray):=by
 rw [ho.blk qX] at ht
 exact Jg t h1 hx ht hm
theorem DM {T:TypeId} {x y:Operand} {E:TypeId} {m:Int} {v:Value} {z:α} (t:Nat) (hs:(P.info? T).map (·.size)=some (Cells.sz α))
 (hx:e.ev x=some (.pointer (some ⟨ab a,0+m.toNat*Cells.sz α,none⟩))) (hy:e.ev y=some v) (ht:H.get t=some (a.map (·.block),rP E xs junk)) (ho:OwnA a c xs junk) (hm:0≤m∧m<xs.length) (hv:v.cells=(Cells.enc z).toArray)
 (h:OwnA a c (xs.set m.toNat z) junk→Wl P ops rest B ⟨e,D,(t,a.map (·.block),rP E (xs.set m.toNat z) junk) :: H,G⟩ K):Wl P ops (⟨none,.store T x y,ty,pos,after,none⟩ :: rest) B ⟨e,D,H,G⟩ K:=by
 have h':=h (by
  rcases ho with ⟨_,h,_⟩ | ⟨b,h1,h2,h3,h4⟩
  · subst h;simp at hm;omega
  exact .inr ⟨b,h1,by simpa using h2,by simpa using h3,h4⟩)
 have hb:=ho.blk qX
 rw [hb] at ht h'
 exact Sg t hs hx hy hv ht hm h'
abbrev fS:=@DM
end own
end
section
variable {P:Program} {ops:Array Oper} {rest:List Oper} {B:Bs} {e:Env} {D:List Deferred} {H:Hp} {G:Imm} {K:Act→World→Prop} {ty:TypeId} {pos:String} {after:Array Edge}
end
def lrec (q:Loop) (s:LoopState) (p:Option Code):Obj:=.loop { q with state:=s,pending:=p }
def Bv (P:Program) (l:Nat) (vs:List Value) (G:Imm) (Hi:Hp) (post:Value→Imm→Hp→Prop):Prop:=
 ∀ w,HoldH Hi G w→∃ f tmps assign body,(Instr.yield l vs.toArray).run P w=.ok (.round l f tmps assign body) w∧RoundIn Fence.wide 0 P l f tmps assign body w (tM G Hi w post)
def Ey {β:Type} (P:Program) (f:FuncId) (caps:List Value) (G:Imm) (enc:β→List Value) (xs:List β):Prop:=
 ∀ (ι:Type) (J:ι→Hp) (inv:Nat→ι→Prop) (stop:ι→Prop) (l:Nat) (i0:ι),inv 0 i0→
  (∀ k x i,xs[k]?=some x→inv k i→Bv P l (enc x) G (J i) (fun v G' Ho=>G'=G∧∃ j,Ho=J j∧((v=.bool true∧inv (k+1) j)∨(v=.bool false∧stop j))))→
  Does P f (.func (.yield l) #[] #[] :: caps) G (J i0) (fun v G' Ho=>G'=G∧∃ j,Ho=J j∧(inv xs.length j∨stop j))
def wY (K:Nat):Hp→Bool
 | []=>true
 | (t,_) :: h=>Nat.ble (t+1) K && wY K h
theorem Ad {K:Nat}:∀ {A:Hp},wY K A=true→∀ t,K≤t→A.get t=none
 | [],_,t,_=>rfl
 | (i,x) :: A,h,t,ht=>by
   simp only [wY,aA] at h
   have h1:=aU h.1
   rw [bF,aF (by omega)]
   exact Ad h.2 t ht
abbrev qK:=@Ad
section
variable {P:Program} {ops:Array Oper} {rest:List Oper} {B:Bs} {e:Env} {D:List Deferred} {H:Hp} {G:Imm} {K:Act→World→Prop}
 {ty:TypeId} {pos:String} {after:Array Edge} {d:Nat}
theorem xY (k:Nat):∀ (L:Hp) (t:Nat),t<k→(Hp.kill k L).get t=none
 | [],_,_=>rfl
 | (j,z) :: L,t,h=>by
   show Hp.get ((k+j,none,default) :: Hp.kill k L) t=none
   rw [bF,aF (by omega)]
   exact xY k L t h
theorem Hold.tail {a:Act} {w:World} (k:Nat) {A Hi Ho:Hp} {G':Imm} (hA:wY k A=true) (hh:Hold B ⟨e,D,Ho.shift k++(Hi.kill k++(A++Hi.shift k)),G'⟩ a w):Hold B ⟨e,D,A++Ho.shift k,G'⟩ a w:=by
 refine hh.weaken (fun _ _ h=>h) fun t x hx=>?_
 rw [fU] at hx
 rw [fU,fU,fU]
 rcases aR t k with ht | ht
 · have h1:(Ho.shift k).get t=none:=by rw [iS,aF (by omega)]
   have h2:(Hi.shift k).get t=none:=by rw [iS,aF (by omega)]
   have h3:(Hi.kill k).get t=none:=xY k Hi t ht
   rw [h1,h2,h3]
   rw [h1] at hx
   simpa using hx
 rw [qK hA t ht] at hx
 simp only [nD] at hx
 rw [hx];rfl
theorem Wl.yield {g:Operand} {l:Nat} {xs:Array Operand} {ats:Array TypeId} {vs:List Value} {A Hi:Hp} {post:Value→Imm→Hp→Prop} (k:Nat)
 (hn:Nat.ble (d+1) B.n=true) (hg:e.ev g=some (.func (.yield l) #[] #[])) (hx:e.evs xs.toList=some vs) (hH:H=A++Hi.shift k) (hA:wY k A=true)
 (hF:Bv P l vs G Hi post) (h:∀ v G' Ho,G.le G'→post v G' Ho→Wl P ops rest B ⟨(d,v) :: e,D,A++Ho.shift k,G'⟩ K) :
 Wl P ops (⟨some d,.call { callee:=.value g,args:=xs,argTypes:=ats },ty,pos,after,none⟩ :: rest) B ⟨e,D,H,G⟩ K:=by
 intro a w hh
 subst hH
 unfold rM
 rw [aT (by simp [Region.wanted])]
 unfold vO
 have hHi:∀ t x,Hi.get t=some x→Hp.get (A++Hi.shift k) (k+t)=some x:=fun t x hx=>by
  rw [fU,qK hA (k+t) qX,nD,iS,aT (by omega),iJ];exact hx
 have hw:HoldH Hi G w:=⟨fun t b o x=>hh.mem.own _ b o (hHi _ _ x),fun t t' b o o' x y=>by have:=hh.mem.one _ _ b _ _ (hHi _ _ x) (hHi _ _ y);omega,hh.mem.imm,fun t b o x=>hh.mem.off _ b o (hHi _ _ x)⟩
 obtain ⟨f,tmps,assign,body,hy,hR⟩:=hF w hw
 have hrun:(execOp a.eval ⟨some d,.call { callee:=.value g,args:=xs,argTypes:=ats },ty,pos,after,none⟩).run P w=.ok (.round l f tmps assign body) w:=by
  simp [execOp,resolve,Deferred.ofValue,invoke,hh.eval hg,hh.args hx,hy]
 rw [hrun]
 refine hR.mono fun x w' ⟨v,G',Ho,h1,h2,h3,h4,h5,h6,h7⟩=>⟨v,h1,?_⟩
 exact h v G' Ho h3 h7 _ _ (((hh.called k hHi h2 h3 h4 h5 h6).tail k hA).put hn v)
def Hp.tl (H:Hp) (k:Nat) (T:Hp):Prop:=∀ t x,(T.shift k).get t=some x→H.get t=some x
theorem Py (k:Nat) (T:Hp):Hp.tl (T.shift k) k T:=fun _ _ h=>h
theorem Pz {k t:Nat} {x:Option Nat×Obj} {H T:Hp} (ht:Nat.ble (t+1) k=true) (h:Hp.tl H k T):Hp.tl ((t,x) :: H) k T:=fun i y hi=>by
 have hk:k≤i:=by
  rcases aR i k with h1 | h1
  · rw [iS,aF (by omega)] at hi;cases hi
  exact h1
 have:=aU ht
 rw [bF,aF (by omega)]
 exact h i y hi
theorem Hold.cutT {a:Act} {w:World} {e':Env} {A T:Hp} {k:Nat} (hh:Hold B ⟨e,D,H,G⟩ a w) (he:e.sub e') (hH:H.sub A) (ht:H.tl k T):Hold B ⟨e',D,A++T.shift k,G⟩ a w:=by
 refine hh.weaken (xQ he) fun t x hx=>?_
 rw [fU] at hx
 cases hA:A.get t with
 | some y =>
   rw [hA] at hx
   have hx':y=x:=by simpa using hx
   subst hx'
   exact kN hH t y hA
 | none=>rw [hA] at hx;exact ht t x (by simpa using hx)
theorem Uk {g:Operand} {l:Nat} {xs:Array Operand} {ats:Array TypeId} {vs:List Value} {A Hi:Hp} {post:Value→Imm→Hp→Prop} (k:Nat)
 (hn:Nat.ble (d+1) B.n=true) (hg:e.ev g=some (.func (.yield l) #[] #[])) (hx:e.evs xs.toList=some vs) (hH:H.sub A) (ht:H.tl k Hi) (hA:wY k A=true)
 (hF:Bv P l vs G Hi post) (h:∀ v G' Ho,G.le G'→post v G' Ho→Wl P ops rest B ⟨(d,v) :: e,D,A++Ho.shift k,G'⟩ K) :
 Wl P ops (⟨some d,.call { callee:=.value g,args:=xs,argTypes:=ats },ty,pos,after,none⟩ :: rest) B ⟨e,D,H,G⟩ K:=by
 intro a w hh
 refine Wl.yield (H:=A++Hi.shift k) k hn hg hx rfl hA hF h a w (hh.weaken (fun _ _ h=>h) (fun t x hx=>?_))
 rw [fU] at hx
 cases hA:A.get t with
 | some y =>
   rw [hA] at hx
   have hx':y=x:=by simpa using hx
   subst hx'
   exact kN hH t y hA
 | none=>rw [hA] at hx;exact ht t x (by simpa using hx)
theorem Xt {ι:Type} {r:Option Nat} {c:Code} {Q:Exit→Act→World→Prop} (k:Nat) (I:ι→Env×Hp) (T:ι→Hp) (φ:ι→Prop) (μ:ι→Nat) (i0:ι) (h0:φ i0)
 (he:e.sub (I i0).1) (hH:H.sub (I i0).2) (ht:H.tl k (T i0))
 (hb:∀ i,φ i→Wc r P c B ⟨(I i).1,D,(I i).2++(T i).shift k,G⟩ (Exit.then (zV B (fun i=>⟨(I i).1,D,(I i).2++(T i).shift k,G⟩) φ μ (μ i)) Q)):Wc r P (.loop c) B ⟨e,D,H,G⟩ Q:=
 Ek (fun i=>⟨(I i).1,D,(I i).2++(T i).shift k,G⟩) φ μ i0 h0 (fun _ _ h=>h.cutT he hH ht) hb
theorem Si {r:Option Nat} {c:Code} {Q:Exit→Act→World→Prop} (k:Nat) (h:Wc r P c B ⟨e,D,H.shift k,G⟩ Q):Wc r P c B ⟨e,D,H,G⟩ Q:=by
 intro a w hh
 have hg:∀ t x,(H.shift k).get t=some x→k≤t∧H.get (t - k)=some x:=fun t x hx=>by
  rw [iS] at hx
  split at hx
  · rename_i h1;exact ⟨h1,hx⟩
  cases hx
 refine h a w ⟨hh.size,hh.defers,hh.env,⟨?_,?_,hh.mem.imm,?_⟩,hh.upd,?_,hh.le,hh.new⟩
 · intro t b o hx;exact hh.mem.own _ b o (hg _ _ hx).2
 · intro t t' b o o' hx hy
   have h1:=hg _ _ hx;have h2:=hg _ _ hy
   have:=hh.mem.one _ _ b _ _ h1.2 h2.2;omega
 · intro t b o hx;exact hh.mem.off _ b o (hg _ _ hx).2
 intro t b o hx;exact hh.mine _ b o (hg _ _ hx).2
theorem HA {H L:Hp} (h:H.sub L):∀ t x,L.get t=some x→H.get t=some x:=kN h
abbrev pF:=@HA
theorem Lg {fn:Func} {G0:Imm} {Hi Ho:Hp} {w0:World} {post:Value→Imm→Hp→Prop} {n k:Nat} {x:Exit} (hx:x=.normal∨x=.ret) (hres:fn.results=#[]) (ht:H.tl k Ho) (hp:post (.tuple #[]) G Ho) :
 Ar (Ua P fn G0 Hi w0 post) x ⟨n,w0,Hi.has,G0⟩ ⟨e,[],H,G⟩:=by
 intro a w hh
 have key:a.defers=[]∧∃ v,(results fn a.tmps).run P w=.ok v w∧tM G0 Hi w0 post (.returned v) w:=by
  have hg:∀ t x,Ho.get t=some x→H.get (k+t)=some x:=fun t x hx=>ht _ _ (by rw [iS,aT (by omega),iJ];exact hx)
  refine ⟨hh.defers,.tuple #[],by simp [vW,hres],.tuple #[],G,Ho,rfl,⟨?_,?_,hh.mem.imm,?_⟩,hh.le,hh.upd,hh.new,?_,hp⟩
  · intro t b o h;exact hh.mem.own _ b o (hg _ _ h)
  · intro t t' b o o' h h';have:=hh.mem.one _ _ b _ _ (hg _ _ h) (hg _ _ h');omega
  · intro t b o h;exact hh.mem.off _ b o (hg _ _ h)
  intro t b o h;exact hh.mine _ b o (hg _ _ h)
 rcases hx with rfl | rfl <;> exact key
def DN (P:Program) (fn:Func) (G:Imm) (Hi:Hp) (w:World) (post:Value→Imm→Hp→Prop):Exit→Act→World→Prop:=bodyPostM (FF none) 0 P fn (tM G Hi w post)
theorem Nh {f:FuncId} {fn:Func} {c:Code} {n:Nat} {args:List Value} {Hi:Hp} {post:Value→Imm→Hp→Prop} (hf:P.funcs[f]?=some fn) (hb:fn.body=some c) (hn:fn.ntmps=n)
 (hl:Nat.ble args.length n=true) (h:∀ w,Wc none P c ⟨n,w,Hi.has,G⟩ ⟨sU 0 args,[],Hi,G⟩ (DN P fn G Hi w post)):Does P f args G Hi post:=by
 intro w hw
 have hl':=aU hl
 refine uT.1 (callsIn_of_wp_marks (F:=FF none) (n:=0) hf hb trivial (h w _ w ?_))
 refine ⟨?_,rfl,?_,hw,jF _ _,fun t b o hx=>.inr ⟨t,o,hx⟩,cC _,fun b h1 h2=>(h1 h2).elim⟩
 · simp [hn];omega
 intro i v hi
 obtain ⟨_,h2⟩:=pI args 0 i v hi
 have h2':args[i]?=some v:=by simpa using h2
 have hlt:i<args.length:=(aJ.1 h2').1
 show (args.toArray++Array.replicate (fn.ntmps - args.toArray.size) undef)[i]?=some v
 rw [nI (by simpa using hlt)]
 simpa using h2'
abbrev pJ:=@Nh
def mark (b:Nat):Deferred:={ target:=.collected b,args:=#[] }
theorem tB (w:World) (b:Nat) (o:Obj):Upd (·=b) w (w.putObj b o):=⟨rfl,rfl,rfl,by simp,fun k _ hk=>World.putObj_heap_other hk⟩
section out
variable {fn:Func} {G0:Imm} {Hi:Hp} {w0:World} {post:Value→Imm→Hp→Prop} {x:Exit}
theorem Qa (hx:x=.normal∨x=.ret) (t:Nat) {b:Nat} (ht:H.get t=some (some b,.deferred (some []))) (h:Ar (DN P fn G0 Hi w0 post) .ret B ⟨e,D,(t,some b,.deferred none) :: H,G⟩) :
 Ar (DN P fn G0 Hi w0 post) x B ⟨e,mark b :: D,H,G⟩:=by
 intro a w hh
 have hb:w.heap[b]?=some (.deferred (some [])):=hh.mem.own t b _ ht
 have hlt:=(bM.1 hb).1
 have hh1:Hold B ⟨e,D,H,G⟩ { a with defers:=D } w:=⟨hh.size,rfl,hh.env,hh.mem,hh.upd,hh.mine,hh.le,hh.new⟩
 have h1:=h _ _ (hh1.set ht (tB w b (.deferred none)) (eP hlt))
 have key:LeavesInM (FF none) 0 P fn a.tmps (tM G0 Hi w0 post) a.defers .returning w:=by
  rw [hh.defers]
  exact ⟨by simp,.inl ⟨b,_,rfl,run_takeDeferred hb,h1⟩⟩
 rcases hx with rfl | rfl <;> exact key
abbrev lY:=@Qa
theorem Xu (hx:x=.normal∨x=.ret) (h:Ar (Ua P fn G0 Hi w0 post) .ret B ⟨e,[],H,G⟩):Ar (DN P fn G0 Hi w0 post) x B ⟨e,[],H,G⟩:=by
 intro a w hh
 obtain ⟨hd,v,hr,hR⟩:=h a w hh
 have key:LeavesInM (FF none) 0 P fn a.tmps (tM G0 Hi w0 post) a.defers .returning w:=by
  rw [hd];exact ⟨v,hr,hR⟩
 rcases hx with rfl | rfl <;> exact key
abbrev jR:=@Xu
end out
def Env.ps:List Nat→List Value→Env→Env
 | t :: ts,v :: vs,e=>Env.ps ts vs ((t,v) :: e)
 | _,_,e=>e
def Qb (P:Program) (l:Nat) (body:Code) (R:Ending→World→Prop):Exit→Act→World→Prop:=
 Exit.then (fun a₁ w₁=>∃ w₂,(Instr.beginRound l).run P w₁=.ok () w₂∧body.wpIn (FF (some l)) 0 P (roundPost P l R) a₁ w₂) (fun _ _ _=>False)
theorem Fa {l:Nat} {body:Code} {R:Ending→World→Prop} {q:Loop} {p:Option Code} (t:Nat) (ht:H.get t=some (some l,lrec q .ready p))
 (h:Wc (some l) P body B ⟨e,D,(t,some l,lrec q .busy p) :: H,G⟩ (roundPost P l R)):Ar (Qb P l body R) .normal B ⟨e,D,H,G⟩:=by
 intro a w hh
 have hb:=hh.mem.own t l _ ht
 have hlt:=(bM.1 hb).1
 refine ⟨_,run_beginRound hb rfl,?_⟩
 exact h _ _ (hh.set ht (tB w l _) (eP hlt))
section round
variable {ι:Type} {x:Exit} {l n:Nat} {w0:World} {Hi:Hp} {G0:Imm} {post:Value→Imm→Hp→Prop} {q:Loop} {p:Option Code}
theorem Ni (c:Option Code) (hx:(x=.normal∧c=none)∨(x=.ret∧c=some .ret)∨∃ id,x=.exit id∧c=some (.exit id)) (t:Nat) (ht:H.get t=some (some l,lrec q .busy p)) {Ho:Hp}
 (hp:post (.bool c.isNone) G Ho) (hHo:∀ i y,Ho.get i=some y→Hp.get ((t,some l,lrec q (if c.isNone then .ready else .done) c) :: H) i=some y) :
 Ar (roundPost P l (tM G0 Hi w0 post)) x ⟨n,w0,Hi.has,G0⟩ ⟨e,D,H,G⟩:=by
 intro a w hh
 have hb:=hh.mem.own t l _ ht
 have hlt:=(bM.1 hb).1
 have h2:=hh.set ht (o':=lrec q (if c.isNone then .ready else .done) c) (tB w l _) (eP hlt)
 have h3:=h2.weaken (e':=e) (H':=Ho) (fun _ _ h=>h) hHo
 have key:∃ v w',(Instr.endRound l c).run P w=.ok v w'∧tM G0 Hi w0 post (.returned v) w':=
  ⟨_,_,run_endRound c hb,.bool c.isNone,G,Ho,rfl,h3.mem,h3.le,h3.upd,h3.new,h3.mine,hp⟩
 rcases hx with ⟨rfl,rfl⟩ | ⟨rfl,rfl⟩ | ⟨id,rfl,rfl⟩ <;> exact key
abbrev pK:=@Ni
end round
theorem Da {n:Nat}:∀ (ts:List Nat) (vs:List Value) (e:Env) (tmps:Array Value),tmps.size=n→(∀ i v,e.get i=some v→tmps[i]?=some v)→ts.all (fun t=>Nat.ble (t+1) n)=true→
 ((ts.zip vs).foldl (fun t (p:Nat×Value)=>t.setIfInBounds p.1 p.2) tmps).size=n∧∀ i v,(Env.ps ts vs e).get i=some v→((ts.zip vs).foldl (fun t (p:Nat×Value)=>t.setIfInBounds p.1 p.2) tmps)[i]?=some v
 | [],vs,e,tmps,hs,he,_=>by
   have:Env.ps [] vs e=e:=by cases vs <;> rfl
   rw [this];simpa using ⟨hs,he⟩
 | t :: ts,[],e,tmps,hs,he,_=>by simpa [Env.ps] using ⟨hs,he⟩
 | t :: ts,v :: vs,e,tmps,hs,he,hb=>by
   simp only [jA,aA] at hb
   have ht:=aU hb.1
   refine Da ts vs ((t,v) :: e) (tmps.setIfInBounds t v) (by simpa using hs) (fun i u hu=>?_) hb.2
   rw [fV] at hu
   rw [Array.getElem?_setIfInBounds]
   by_cases hi:t=i
   · rw [aT hi] at hu ⊢;rw [aT (by omega)];exact hu
   rw [aF hi] at hu ⊢;exact he i u hu
section stmt
variable {β ι:Type} {Q:Exit→Act→World→Prop} {f:FuncId} {fst caps:List Value} {enc:β→List Value} {xs:List β} {ps:List Nat} {assign body:Code} {g:Operand}
def CM:Option Code→LoopState | none=>.ready | some _=>.done
abbrev RJ (tl td:Nat) (q:Loop) (l dd:Nat) (A:Hp) (p:Option Code):Hp:=(tl,some l,lrec q (CM p) p) :: (td,some dd,.deferred (some [])) :: A
theorem Wc.rangeFunc (tl td:Nat) (I:ι→Hp) (inv:Nat→ι→Prop) (stop:Code→ι→Prop) (i0:ι) (hg:e.ev g=some (.func (.func f) #[] caps.toArray)) (hf:uE P f)
 (hps:∀ x,(enc x).length=ps.length) (hpb:ps.all (fun t=>Nat.ble (t+1) B.n)=true) (hit:Ey P f caps G enc xs) (h0:inv 0 i0) (hH:∀ t x,(I i0).get t=some x→H.get t=some x)
 (htl:Nat.beq tl td=false∧∀ i,(I i).get tl=none)
 (hround:∀ k x i l dd q w0,xs[k]?=some x→inv k i→Wc (some l) P assign ⟨B.n,w0,(RJ tl td q l dd (I i) none).has,G⟩ ⟨Env.ps ps (enc x) e,[],RJ tl td q l dd (I i) none,G⟩
  (Qb P l body (tM G (RJ tl td q l dd (I i) none) w0 (fun v G' Ho=>G'=G∧∃ j:ι×Option Code,Ho=RJ tl td q l dd (I j.1) j.2∧((v=.bool true∧j.2=none∧inv (k+1) j.1)∨(v=.bool false∧∃ c,j.2=some c∧stop c j.1))))))
 (hdone:∀ j dd,inv xs.length j→Ar Q .normal B ⟨e,mark dd :: D,(td,some dd,.deferred (some [])) :: I j,G⟩)
 (hstop:∀ j dd c,stop c j→Wc none P c B ⟨e,mark dd :: D,(td,some dd,.deferred (some [])) :: I j,G⟩ Q) :
 Wc none P (.rangeFunc g ps.toArray assign body) B ⟨e,D,H,G⟩ Q:=by
 intro a w hh
 refine wpIn_rangeFunc fun fn _=>?_
 obtain ⟨q,hq⟩:∃ q:Loop,q={ state:=.ready,pending:=none,fn,tmps:=a.tmps,params:=ps.toArray,assign,body,defers:=w.heap.size }:=⟨_,rfl⟩
 obtain ⟨fnn,hf1,hf2,hf3⟩:=hf
 obtain ⟨ht3,htI⟩:=htl
 have hne:tl≠td:=fun h=>by subst h;simp at ht3
 have hA:=hh.alloc td (.deferred (some []))
 have hB:=hA.alloc tl (lrec q .ready none)
 rw [World.size_alloc] at hB
 refine ⟨w.heap.size+1,[mark w.heap.size],(w.alloc (.deferred (some []))).alloc (lrec q .ready none),{ target:=.fn (.func f) caps.toArray,args:=#[.func (.yield (w.heap.size+1)) #[] #[]] },(w.alloc (.deferred (some []))).alloc (lrec q .ready none),f,
  (.func (.yield (w.heap.size+1)) #[] #[] :: caps).toArray,(w.alloc (.deferred (some []))).alloc (lrec q .ready none),?_,?_,?_,?_,fun h=>by simp [FF] at h,?_⟩
 · have:=run_enterLoop_outer (P:=P) (w:=w) fn a.tmps ps.toArray assign body
   rw [hq];exact this
 · have hev:Act.eval a g=.func (.func f) #[] caps.toArray:=hh.eval hg
   simp only [resolve,hev]
   simp [go_sem]
 · intro f' hf';trivial
 · simp [invoke,vP _ _ hf1 hf2 hf3]
 have hB':Hold B ⟨e,D,RJ tl td q (w.heap.size+1) w.heap.size (I i0) none,G⟩ a ((w.alloc (.deferred (some []))).alloc (lrec q .ready none)):=by
  refine hB.weaken (fun _ _ h=>h) fun t x hx=>?_
  rw [bF] at hx ⊢
  split at hx <;> rename_i h1
  · rw [aT h1];exact hx
  rw [aF h1]
  rw [bF] at hx ⊢
  split at hx <;> rename_i h2
  · rw [aT h2];exact hx
  rw [aF h2];exact hH t x hx
 have hC:=hit (ι×Option Code) (fun s=>RJ tl td q (w.heap.size+1) w.heap.size (I s.1) s.2) (fun k j=>j.2=none∧inv k j.1) (fun j=>∃ c,j.2=some c∧stop c j.1) (w.heap.size+1) (i0,none) ⟨rfl,h0⟩ (fun k x i hx hi=>?_)
 · refine uT.2 ((hC _ hB'.mem).mono fun ex w' ⟨v,G',Ho,h1,h2,h3,h4,h5,h6,h7,j,h8,h9⟩=>?_)
   subst h1 h7
   have hcl:=hB'.called 0 (Hi:=RJ tl td q (w.heap.size+1) w.heap.size (I i0) none) (fun t x hx=>by rw [bO];exact hx) h2 h3 h4 h5 h6
   have hD:Hold B ⟨e,D,Ho,G'⟩ a w':=hcl.weaken (fun _ _ h=>h) (fun t x hx=>by
    rw [fU,iS,aT (aZ _),mS,hx];rfl)
   rw [h8] at hD
   obtain ⟨ji,jp⟩:=j
   have hget:Hp.get (RJ tl td q (w.heap.size+1) w.heap.size (I ji) jp) tl=some (some (w.heap.size+1),lrec q (CM jp) jp):=by
    rw [bF,aT rfl]
   have hbk:=hD.mem.own tl _ _ hget
   have hlt:=(bM.1 hbk).1
   have hE:=hD.set hget (o':=lrec q .exhausted jp) (tB w' _ _) (eP hlt)
   have hF:Hold B ⟨e,D,(td,some w.heap.size,.deferred (some [])) :: I ji,G'⟩ a (w'.putObj (w.heap.size+1) (lrec q .exhausted jp)):=by
    refine hE.weaken (fun _ _ h=>h) fun t x hx=>?_
    rw [bF] at hx ⊢
    have htn:tl≠t:=fun h=>by
     subst h
     rw [aF (oI hne)] at hx
     have:=htI ji
     rw [hx] at this;cases this
    rw [aF htn]
    rw [bF,aF htn,bF]
    exact hx
   have hG:Hold B ⟨e,mark w.heap.size :: D,(td,some w.heap.size,.deferred (some [])) :: I ji,G'⟩ { a with defers:=[mark w.heap.size]++a.defers } (w'.putObj (w.heap.size+1) (lrec q .exhausted jp)):=
    ⟨hF.size,by show [mark w.heap.size]++a.defers=_;rw [hF.defers];rfl,hF.env,hF.mem,hF.upd,hF.mine,hF.le,hF.new⟩
   have hend:(Instr.endLoop (w.heap.size+1)).run P w'=.ok jp (w'.putObj (w.heap.size+1) (lrec q .exhausted jp)):=run_endLoop hbk (by cases jp <;> simp [CM])
   refine ⟨jp,_,hend,?_⟩
   rcases h9 with ⟨hj,hi⟩ | ⟨c,hj,hs⟩
   · have hj':jp=none:=hj
     subst hj'
     exact hdone ji _ hi _ _ hG
   have hj':jp=some c:=hj
   subst hj'
   exact hstop ji _ c hs _ _ hG
 obtain ⟨i,ip⟩:=i
 obtain ⟨hip,hi⟩:=hi
 have hip':ip=none:=hip
 subst hip'
 intro w2 hw2
 have hl2:w2.heap[w.heap.size+1]?=some (lrec q .ready none):=hw2.own tl _ _ (by rw [bF,aT rfl];rfl)
 have hq2:q.params=ps.toArray∧q.tmps=a.tmps∧q.assign=assign∧q.body=body:=by rw [hq];exact ⟨rfl,rfl,rfl,rfl⟩
 have hy:=run_yield (P:=P) (args:=(enc x).toArray) hl2 (by show _=q.params.size;rw [hq2.1];simp [hps x])
 refine ⟨_,_,_,_,hy,roundIn_of_wpIn (F:=Fence.wide) (n:=0) trivial ?_⟩
 have hz:=Da ps (enc x) e a.tmps hh.size hh.env hpb
 have hr:=hround k x i (w.heap.size+1) w.heap.size q w2 hx hi
 have hhold:Hold ⟨B.n,w2,(RJ tl td q (w.heap.size+1) w.heap.size (I i) none).has,G⟩ ⟨Env.ps ps (enc x) e,[],RJ tl td q (w.heap.size+1) w.heap.size (I i) none,G⟩
  { tmps:=(q.params.zip (enc x).toArray).foldl (fun tmps (t,a)=>tmps.setIfInBounds t a) q.tmps,defers:=[] } w2:=by
  refine ⟨?_,rfl,?_,hw2,jF _ _,fun t b o hx=>.inr ⟨t,o,hx⟩,cC _,fun b h1 h2=>(h1 h2).elim⟩
  · show ((q.params.zip (enc x).toArray).foldl _ q.tmps).size=B.n
    rw [hq2.1,hq2.2.1]
    have:=hz.1
    simpa using this
  intro i v hv
  show ((q.params.zip (enc x).toArray).foldl _ q.tmps)[i]?=some v
  rw [hq2.1,hq2.2.1]
  have:=hz.2 i v hv
  simpa using this
 have h:=hr _ w2 hhold
 show q.assign.wpIn (FF (some (w.heap.size+1))) 0 P (Qb P (w.heap.size+1) q.body _) _ _
 rw [hq2.2.2.1,hq2.2.2.2]
 exact h
abbrev mM:=@Wc.rangeFunc
end stmt
end
section
variable {P:Program} {e:Env} {H:Hp} {G:Imm} {ty:TypeId}
def Ae (P:Program) (t:TypeId):Bool:=match P.underlying t with | some (.func _ _ _)=>true | _=>false
theorem vM {t:TypeId} {f:Fn} {fs cs:Array Value} (ht:Ae P t=true) (d:Nat) (w:World):(Op.equalIn (d+1) t (.func f fs cs) .nilFunc).run P w=.ok false w:=by
 unfold Ae at ht
 split at ht
 · rename_i a1 a2 a3 hu
   simp [Op.equalIn,aO hu]
 cases ht
theorem In {t t':TypeId} {x y:Operand} {f:Fn} {fs cs:Array Value} (ht:Ae P t=true) (hx:e.ev x=some (.func f fs cs)) (hy:e.ev y=some .nilFunc):Qy P (.binOp .eql t x y t') ty e H G (.bool false):=fun a w _ _ _ _ hh=>by
 have:=vM (P:=P) (f:=f) (fs:=fs) (cs:=cs) ht 9999 w
 simp [execOp,hh.eval hx,hh.eval hy,binOp,eqGuard,Op.equal,Op.maxDepth,this]
theorem Io {t t':TypeId} {x y:Operand} {f:Fn} {fs cs:Array Value} (ht:Ae P t=true) (hx:e.ev x=some (.func f fs cs)) (hy:e.ev y=some .nilFunc):Qy P (.binOp .neq t x y t') ty e H G (.bool true):=fun a w _ _ _ _ hh=>by
 have:=vM (P:=P) (f:=f) (fs:=fs) (cs:=cs) ht 9999 w
 simp [execOp,hh.eval hx,hh.eval hy,binOp,eqGuard,Op.equal,Op.maxDepth,this]
theorem vG {t E:TypeId} {a:Option Addr} {n c:Nat} (ht:P.underlying t=some (.slice E)) (d:Nat) (w:World):(Op.equalIn (d+1) t (.slice a n c) (.slice none 0 0)).run P w=.ok a.isNone w:=by
 cases a <;> simp [Op.equalIn,aO ht]
theorem Fb {t t':TypeId} {x y:Operand} {a:Option Addr} {n c E sz:Nat} (ht:rH P t E sz) (hx:e.ev x=some (.slice a n c)) (hy:e.ev y=some (.slice none 0 0)):Qy P (.binOp .eql t x y t') ty e H G (.bool (decide (a=none))):=fun w0 w _ _ _ _ hh=>by
 have:=vG (P:=P) (a:=a) (n:=n) (c:=c) ht.1 9999 w
 simp [execOp,hh.eval hx,hh.eval hy,binOp,eqGuard,Op.equal,Op.maxDepth,this]
 cases a <;> rfl
abbrev fA:=@Fb
theorem xZ {t t':TypeId} {x y:Operand} {a:Option Addr} {n c E sz:Nat} (ht:rH P t E sz) (hx:e.ev x=some (.slice a n c)) (hy:e.ev y=some (.slice none 0 0)):Qy P (.binOp .neq t x y t') ty e H G (.bool (decide (a≠none))):=fun w0 w _ _ _ _ hh=>by
 have:=vG (P:=P) (a:=a) (n:=n) (c:=c) ht.1 9999 w
 simp [execOp,hh.eval hx,hh.eval hy,binOp,eqGuard,Op.equal,Op.maxDepth,this]
 cases a <;> rfl
theorem Ip {T:TypeId} {x i:Operand} {b o n sz:Nat} {zs:List Value} {k:IntKind} {m:Int} (j:Nat) (hT:ArrayOf P T n sz zs) (hx:e.ev x=some (.pointer (some ⟨b,o,none⟩))) (hi:e.ev i=some (.int k m))
 (hb:decide (0≤m∧m<n)=true) (hj:Nat.beq (m.toNat*sz) j=true):Qy P (.indexAddr T x i) ty e H G (.pointer (some ⟨b,o+j,none⟩)):=fun a w _ _ _ _ hh=>by
 obtain ⟨z,E,hu,_,_,hs⟩:=hT
 have hb':=qC hb
 have hj':=aB hj
 simp [execOp,Instr.indexAt,Instr.sureAddr,hh.eval hx,hh.eval hi,asIntOf,aO hu,hb',run_sizeOf w hs,add_lit,hj']
abbrev gN:=@Ip
end
section
variable {P:Program} {B:Bs} {e:Env} {D:List Deferred} {H:Hp} {G:Imm}
theorem Hold.base {a:Act} {w:World} (hh:Hold B ⟨e,D,H,G⟩ a w):Hold B ⟨e,D,H,B.G0⟩ a w:=by
 refine ⟨hh.size,hh.defers,hh.env,⟨hh.mem.own,hh.mem.one,fun b o h=>hh.mem.imm b o (hh.le b o h),fun t b o h=>?_⟩,hh.upd,hh.mine,cC _,fun b h h0=>(h h0).elim⟩
 have h1:G b=none:=hh.mem.off t b o h
 show B.G0 b=none
 cases hg:B.G0 b with
 | none=>rfl
 | some x=>have h2:G b=some x:=hh.le b x hg;rw [h1] at h2;cases h2
theorem Ar.base {Q:Exit→Act→World→Prop} {x:Exit} (h:Ar Q x B ⟨e,D,H,B.G0⟩):Ar Q x B ⟨e,D,H,G⟩:=fun a w hh=>h a w hh.base
end
def Bw (r:Option Nat) (P:Program) (c:Code) (Q:Exit→Act→World→Prop) (a:Act) (w:World):Prop:=
 ∀ (b:Frame) (k:List Item) (cs:List Frame),b.roundOf=(FF r).round→(FF r).fn b.fn→(FF r).room (cs.length+1+0)→
  ∃ e a' w',Q e a' w'∧ArrivesIn (Machine.fenced P (FF r)) P (lone (b.atR a (.code c :: .inLoop c :: k)) cs w) b k cs e a' w'
def La (r:Option Nat) (P:Program) (c:Code) (B:Bs) (S:St) (Q:Exit→Act→World→Prop):Prop:=∀ a w,Hold B S a w→Bw r P c Q a w
section
variable {r:Option Nat} {P:Program} {B:Bs} {S:St} {Q:Exit→Act→World→Prop} {c:Code}
theorem Fc (h:La r P c B S Q):Wc r P (.loop c) B S Q:=by
 intro a w hh b k cs hro hb' hr
 obtain ⟨e,a',w',hq,harr⟩:=h a w hh b k cs hro hb' hr
 exact ⟨e,a',w',hq,.of_steps (.one (kQ hb' hr rfl) stepR_loop) harr⟩
theorem La.round (h:Wc r P c B S (Exit.then (Bw r P c Q) Q)):La r P c B S Q:=by
 intro a w hh b k cs hro hb' hr
 obtain ⟨x,a₁,w₁,hq,harr⟩:=h a w hh b (.inLoop c :: k) cs hro hb' hr
 cases x with
 | normal =>
   obtain ⟨e₂,a₂,w₂,hq₂,harr₂⟩:=hq b k cs hro hb' hr
   exact ⟨e₂,a₂,w₂,hq₂,.of_steps (pV harr (.one (kQ hb' hr rfl) stepR_inLoop)) harr₂⟩
 | exit id=>exact ⟨_,a₁,w₁,hq,.pass (x:=.inLoop c) rfl (fun _ _=>.inl rV) harr⟩
 | goto l=>exact ⟨_,a₁,w₁,hq,.pass (x:=.inLoop c) rfl (fun _ _=>.inl rV) harr⟩
 | ret=>exact ⟨_,a₁,w₁,hq,.pass (x:=.inLoop c) rfl (fun _ _=>.inl rV) harr⟩
 | panic ch=>exact ⟨_,a₁,w₁,hq,.pass (x:=.inLoop c) rfl (fun _ _=>.inl rV) harr⟩
 | outgrown=>exact ⟨_,a₁,w₁,hq,.pass (x:=.inLoop c) rfl (fun _ _=>.inl rV) harr⟩
abbrev lA:=@La.round
theorem DP (h:La r P c B S Q):Ar (Exit.then (Bw r P c Q) Q) .normal B S:=h
abbrev pR:=@DP
end
def Xv (P:Program):List (Nat×Nat×Nat)→Prop
 | []=>True
 | x :: l=>Dq P x.1 x.2.1 x.2.2∧Xv P l
def AllSl (P:Program):List Nat→Prop
 | []=>True
 | x :: l=>(∃ E sz,rH P x E sz)∧AllSl P l
def AllOne (P:Program):List Nat→Prop
 | []=>True
 | x :: l=>sY P x=true∧AllOne P l
def AllAgg (P:Program):List (Nat×Nat)→Prop
 | []=>True
 | x :: l=>(tX P x.1 x.2=true∧(P.info? x.1).map (·.size)=some x.2)∧AllAgg P l
def AllFn (P:Program):List Nat→Prop
 | []=>True
 | x :: l=>uE P x∧AllFn P l
class Tab (P:Program) where
 fn:List Nat
 fnP:AllFn P fn
 one:List Nat
 agg:List (Nat×Nat)
 sl:List Nat
 fa:List (Nat×Nat×Nat)
 oneP:AllOne P one
 aggP:AllAgg P agg
 slP:AllSl P sl
 faP:Xv P fa
def Lh:List Nat→Nat→Bool
 | [],_=>false
 | x :: l,t=>bif Nat.beq x t then true else Lh l t
def lookN:List (Nat×Nat)→Nat→Option Nat
 | [],_=>none
 | (x,y) :: l,t=>bif Nat.beq x t then some y else lookN l t
def Xw:List (Nat×Nat×Nat)→Nat→Nat→Option Nat
 | [],_,_=>none
 | (x,y,z) :: l,s,f=>bif Nat.beq x s && Nat.beq y f then some z else Xw l s f
theorem rA {α:Type} {b:Bool} {x y z:α} (h:(bif b then x else y)=z):(b=true∧x=z)∨(b=false∧y=z):=by cases b <;> simp_all
theorem Fe {P:Program}:∀ {l:List Nat} {t:Nat},AllOne P l→Lh l t=true→sY P t=true
 | [],t,_,h=>vU
 | x :: l,t,ha,h=>by
   rcases rA h with ⟨h1,_⟩ | ⟨_,h2⟩
   · have:=aB h1;subst this;exact ha.1
   exact Fe ha.2 h2
theorem Li {P:Program}:∀ {l:List Nat} {t:Nat},AllFn P l→Lh l t=true→uE P t
 | [],t,_,h=>vU
 | x :: l,t,ha,h=>by
   rcases rA h with ⟨h1,_⟩ | ⟨_,h2⟩
   · have:=aB h1;subst this;exact ha.1
   exact Li ha.2 h2
theorem Sj {P:Program}:∀ {l:List Nat} {t:Nat},AllSl P l→Lh l t=true→∃ E sz,rH P t E sz
 | [],t,_,h=>vU
 | x :: l,t,ha,h=>by
   rcases rA h with ⟨h1,_⟩ | ⟨_,h2⟩
   · have:=aB h1;subst this;exact ha.1
   exact Sj ha.2 h2
theorem Bx {P:Program}:∀ {l:List (Nat×Nat)} {t k:Nat},AllAgg P l→lookN l t=some k→tX P t k=true∧(P.info? t).map (·.size)=some k
 | [],t,k,_,h=>vU
 | (x,y) :: l,t,k,ha,h=>by
   rcases rA h with ⟨h1,h2⟩ | ⟨_,h2⟩
   · have:=aB h1;subst this;cases h2;exact ha.1
   exact Bx ha.2 h2
theorem Nj {P:Program}:∀ {l:List (Nat×Nat×Nat)} {s f k:Nat},Xv P l→Xw l s f=some k→Dq P s f k
 | [],s,f,k,_,h=>vU
 | (x,y,z) :: l,s,f,k,ha,h=>by
   rcases rA h with ⟨h1,h2⟩ | ⟨_,h2⟩
   · simp only [aA] at h1
     have h3:=aB h1.1
     have h4:=aB h1.2
     subst h3;subst h4;cases h2;exact ha.1
   exact Nj ha.2 h2
def Xb:IntKind→IntKind→Bool
 | .i8,.i8 | .i16,.i16 | .i32,.i32 | .i64,.i64 | .u8,.u8 | .u16,.u16 | .u32,.u32 | .u64,.u64=>true
 | _,_=>false
theorem By {a b:IntKind} (h:Xb a b=true):a=b:=by cases a <;> cases b <;> first | rfl | cases h
def zT {α:Type}:List α→Nat→Option α
 | [],_=>none
 | x :: l,n=>bif Nat.beq n 0 then some x else zT l (Nat.pred n)
theorem uJ {α:Type}:∀ (l:List α) (n:Nat),zT l n=l[n]?
 | [],n=>by simp [zT]
 | x :: l,n=>by
   unfold zT
   cases n with
   | zero=>rfl
   | succ n=>simp only [Nat.beq,kL,Nat.pred_succ,uJ l n,gB]
abbrev Rz:=Value×List Nat×Prop
inductive IOp | eql | neq | lss | leq | gtr | geq | add | sub
def iop:BinOp→Option IOp
 | .eql=>some .eql | .neq=>some .neq | .lss=>some .lss | .leq=>some .leq | .gtr=>some .gtr | .geq=>some .geq | .add=>some .add | .sub=>some .sub
 | _=>none
def OE (o:IOp) (k:IntKind) (m n:Int) (hs:List Nat):Option Rz:=
 match o with
 | .eql=>some (.bool (decide (m=n)),hs,True)
 | .neq=>some (.bool (decide (m≠n)),hs,True)
 | .lss=>some (.bool (decide (m<n)),hs,True)
 | .leq=>some (.bool (decide (m≤n)),hs,True)
 | .gtr=>some (.bool (decide (n<m)),hs,True)
 | .geq=>some (.bool (decide (n≤m)),hs,True)
 | .add=>bif Xb k .i64 then some (.int .i64 (m+n),hs,-9223372036854775808≤m+n∧m+n≤9223372036854775807) else none
 | .sub=>bif Xb k .i64 then some (.int .i64 (m - n),hs,-9223372036854775808≤m - n∧m - n≤9223372036854775807) else none
def JN (P:Program) [Tab P] (e:Env) (H:Hp) (hs:List Nat):Op→Option Rz
 | .move x=>match e.ev x with | some v=>some (v,hs,True) | none=>none
 | .assign x=>match e.ev x with | some v=>some (v,hs,True) | none=>none
 | .pick c x y=>match e.ev c with
   | some (.bool b)=>match e.ev (bif b then x else y) with | some v=>some (v,hs,True) | none=>none
   | _=>none
 | .unOp .not _ x=>match e.ev x with | some (.bool b)=>some (.bool (!b),hs,True) | _=>none
 | .binOp o _ x y _=>match iop o with
   | some o=>match e.ev x with
     | some (.int k m)=>match e.ev y with
       | some (.int k' n)=>bif Xb k k' then OE o k m n hs else none
       | _=>none
     | _=>none
   | none=>none
 | .extract x i=>match e.ev x with
   | some (.tuple ⟨vs⟩)=>match zT vs i with | some v=>some (v,hs,True) | none=>none
   | _=>none
 | .nilCheck x=>match e.ev x with
   | some (.pointer (some ad))=>some (.pointer (some ad),hs,True)
   | _=>none
 | .fieldAddr s x f=>match Xw (Tab.fa P) s f with
   | some k=>match e.ev x with
     | some (.pointer (some ⟨b,o,none⟩))=>some (.pointer (some ⟨b,o+k,none⟩),hs,True)
     | _=>none
   | none=>none
 | .load T x=>match hs with
   | t :: hs=>match e.ev x with
     | some (.pointer (some ⟨b,off,none⟩))=>match H.get t with
       | some (some b',.cells ⟨cs⟩ _ _)=>match Lh (Tab.one P) T with
         | true=>match zT cs off with | some v=>some (v,hs,b=b') | none=>none
         | false=>match lookN (Tab.agg P) T with
           | some k=>bif Nat.beq off 0 && Nat.beq cs.length k then some (.agg cs.toArray,hs,b=b') else none
           | none=>none
       | _=>none
     | _=>none
   | []=>none
 | .call ⟨.builtin .len,⟨[x]⟩,⟨[T]⟩⟩=>match Lh (Tab.sl P) T with
   | true=>match e.ev x with | some (.slice _ n _)=>some (.int .i64 n,hs,True) | _=>none
   | false=>none
 | _=>none
theorem HB {P:Program} {e:Env} {H:Hp} {G:Imm} {ty t t':TypeId} {hs hs':List Nat} {bo:BinOp} {o:IOp} {x y:Operand} {k:IntKind} {m n:Int} {v:Value} {ob:Prop} (ho:iop bo=some o) (hx:e.ev x=some (.int k m)) (hy:e.ev y=some (.int k n))
 (h:OE o k m n hs=some (v,hs',ob)) (hob:ob):Qy P (.binOp bo t x y t') ty e H G v:=by
 cases bo <;> first | (cases ho;done) | skip
 all_goals
  cases ho
  unfold OE at h
  first
   | (cases h;first | exact Qy.eql hx hy | exact Qy.neq hx hy | exact Qy.lss hx hy | exact Qy.leq hx hy | exact Qy.gtr hx hy | exact Qy.geq hx hy)
   | (rcases rA h with ⟨hk,h⟩ | ⟨_,h⟩
      · have:=By hk
        subst this
        cases h
        first | exact Qy.add hx hy hob | exact Qy.sub hx hy hob
      cases h)
theorem Lj {P:Program} [T:Tab P] {e:Env} {H:Hp} {G:Imm} {ty:TypeId} {hs hs':List Nat} {o:Op} {v:Value} {ob:Prop} (h:JN P e H hs o=some (v,hs',ob)) (hob:ob):Qy P o ty e H G v:=by
 unfold JN at h
 split at h
 · split at h
   · rename_i hx;cases h;exact mO hx
   cases h
 · split at h
   · rename_i hx;cases h;exact Qy.assign hx
   cases h
 · split at h
   · rename_i hc
     split at h
     · rename_i hv;cases h;exact Qy.pick hc hv
     cases h
   cases h
 · split at h
   · rename_i hx;cases h;exact Qy.not hx
   cases h
 · split at h
   · rename_i o' ho
     split at h
     · rename_i k m hx
       split at h
       · rename_i k' n hy
         rcases rA h with ⟨hk,h9⟩ | ⟨_,h9⟩
         · have h8:=By hk
           subst h8
           exact HB ho hx hy h9 hob
         cases h9
       cases h
     cases h
   cases h
 · split at h
   · rename_i hx
     split at h
     · rename_i hv;cases h;rw [uJ] at hv;exact Qy.extract hx hv
     cases h
   cases h
 · split at h
   · rename_i hx;cases h;exact Qy.nilCheck hx
   cases h
 · split at h
   · rename_i k hk
     split at h
     · rename_i hx;cases h;exact Qy.fieldAddr (Nj T.faP hk) hx
     cases h
   cases h
 · split at h
   · split at h
     · rename_i hx
       split at h
       · rename_i hH
         split at h
         · rename_i h1
           split at h
           · rename_i hv
             cases h
             subst hob
             rw [uJ] at hv
             exact Qy.load _ (Fe T.oneP h1) hx hH hv
           cases h
         split at h
         · rename_i k hk
           rcases rA h with ⟨hc,h⟩ | ⟨_,h⟩
           · cases h
             subst hob
             simp only [aA] at hc
             have h0:=aB hc.1
             subst h0
             exact zE _ (Bx T.aggP hk).1 hx hH (aB hc.2)
           cases h
         cases h
       cases h
     cases h
   cases h
 · split at h
   · rename_i h1
     split at h
     · rename_i hx
       cases h
       obtain ⟨E,sz,hT⟩:=Sj T.slP h1
       exact Qy.len hT hx
     cases h
   cases h
 cases h
inductive Fr where
 | seq (y:Code)
 | thn (K:Act→World→Prop)
 | blk (id:Nat)
def Dr (P:Program) (r:Option Nat) (Q0:Exit→Act→World→Prop):List Fr→Exit→Act→World→Prop
 | []=>Q0
 | .seq y :: k=>Exit.then (y.wpIn (FF r) 0 P (Dr P r Q0 k)) (Dr P r Q0 k)
 | .thn K :: k=>Exit.then K (Dr P r Q0 k)
 | .blk id :: k=>Exit.inBlock id (Dr P r Q0 k)
def Reify (P:Program) (r:Option Nat) (Q:Exit→Act→World→Prop) (k:List Fr) (Q0:Exit→Act→World→Prop):Prop:=Q=Dr P r Q0 k
theorem Reify.seq {P:Program} {r:Option Nat} {Q Q0:Exit→Act→World→Prop} {k:List Fr} {y:Code} (h:Reify P r Q k Q0):Reify P r (Exit.then (y.wpIn (FF r) 0 P Q) Q) (.seq y :: k) Q0:=by
 unfold Reify at *;subst h;rfl
abbrev jW:=@Reify.seq
theorem Reify.thn {P:Program} {r:Option Nat} {Q Q0:Exit→Act→World→Prop} {k:List Fr} {K:Act→World→Prop} (h:Reify P r Q k Q0):Reify P r (Exit.then K Q) (.thn K :: k) Q0:=by
 unfold Reify at *;subst h;rfl
abbrev jV:=@Reify.thn
theorem Reify.blk {P:Program} {r:Option Nat} {Q Q0:Exit→Act→World→Prop} {k:List Fr} {id:Nat} (h:Reify P r Q k Q0):Reify P r (Exit.inBlock id Q) (.blk id :: k) Q0:=by
 unfold Reify at *;subst h;rfl
abbrev jX:=@Reify.blk
theorem Qc {P:Program} {r r':Option Nat} {Q0 Q1:Exit→Act→World→Prop} {k:List Fr} (h:Reify P r Q0 k Q1):Reify P r (Dr P r' Q0 []) k Q1:=h
abbrev jJ:=@Qc
theorem Qd {P:Program} {r:Option Nat} {Q0 Q1:Exit→Act→World→Prop} {k k':List Fr} {y:Code} (h:Reify P r (Dr P r Q0 k) k' Q1):Reify P r (Dr P r Q0 (.seq y :: k)) (.seq y :: k') Q1:=jW h
abbrev jI:=@Qd
theorem Qe {P:Program} {r:Option Nat} {Q0 Q1:Exit→Act→World→Prop} {k k':List Fr} {K:Act→World→Prop} (h:Reify P r (Dr P r Q0 k) k' Q1):Reify P r (Dr P r Q0 (.thn K :: k)) (.thn K :: k') Q1:=jV h
abbrev jH:=@Qe
theorem Qf {P:Program} {r:Option Nat} {Q0 Q1:Exit→Act→World→Prop} {k k':List Fr} {id:Nat} (h:Reify P r (Dr P r Q0 k) k' Q1):Reify P r (Dr P r Q0 (.blk id :: k)) (.blk id :: k') Q1:=jX h
abbrev jK:=@Qf
theorem Reify.none {P:Program} {Q:Exit→Act→World→Prop}:Reify P .none Q [] Q:=rfl
abbrev jG:=@Reify.none
theorem Reify.any {P:Program} {r:Option Nat} {Q:Exit→Act→World→Prop}:Reify P r Q [] Q:=rfl
abbrev kT:=@Reify.any
inductive Fo where
 | c (c:Code)
 | l (ops:Array Oper) (l:List Oper)
 | a (x:Exit)
def wS:List Oper→Nat→Option Nat
 | [],_=>none
 | x :: l,n=>bif Nat.beq n 0 then x.dst else wS l (Nat.pred n)
theorem xJ:∀ (l:List Oper) (n:Nat),wS l n=(l[n]?).bind (·.dst)
 | [],n=>by simp [wS]
 | x :: l,n=>by
   unfold wS
   cases n with
   | zero=>rfl
   | succ n=>simp only [Nat.beq,kL,Nat.pred_succ,xJ l n,gB]
abbrev Cf:=Fo×List Fr×Env×Hp×List Nat
def Xx (P:Program) [Tab P] (n:Nat) (ops:Array Oper) (k:List Fr) (e:Env) (H:Hp) (hs:List Nat) (rest:List Oper):Oper→Option (Cf×Prop)
 | ⟨some d,o,_,_,_,none⟩=>match Nat.ble (d+1) n with
   | true=>match JN P e H hs o with
     | some (v,hs,ob)=>some ((.l ops rest,k,(d,v) :: e,H,hs),ob)
     | none=>none
   | false=>none
 | ⟨none,.store T x y,_,_,_,none⟩=>match hs with
   | t :: hs=>match e.ev x with
     | some (.pointer (some ⟨b,off,none⟩))=>match H.get t with
       | some (some b',.cells ⟨cs⟩ bt (0,0))=>match e.ev y with
         | some v=>match Lh (Tab.one P) T with
           | true=>bif v.oneCell' && Nat.ble (off+1) cs.length then some ((.l ops rest,k,e,(t,some b',.cells (cs.set off v).toArray bt (0,0)) :: H,hs),b=b') else none
           | false=>match lookN (Tab.agg P) T with
             | some m=>match v with
               | .agg ⟨vs⟩=>bif Nat.beq off 0 && (Nat.beq vs.length m && (Nat.beq vs.length cs.length && vs.all (·.oneCell'))) then some ((.l ops rest,k,e,(t,some b',.cells vs.toArray bt (0,0)) :: H,hs),b=b') else none
               | _=>none
             | none=>none
         | none=>none
       | _=>none
     | _=>none
   | []=>none
 | ⟨dst,o,ty,pos,after,some (j,w)⟩=>match wS ops.toList j with
   | some t=>match e.get t with
     | some (.bool b)=>bif (match b,w with | true,true=>true | false,false=>true | _,_=>false) then some ((.l ops (⟨dst,o,ty,pos,after,none⟩ :: rest),k,e,H,hs),True)
       else match dst with
        | some d=>bif Nat.ble (d+1) n then some ((.l ops rest,k,(d,undef) :: e,H,hs),True) else none
        | none=>none
     | _=>none
   | none=>none
 | _=>none
def OF (P:Program) [Tab P] (n:Nat):Fo→List Fr→Env→Hp→List Nat→Option (Cf×Prop)
 | .c (.seq x y),k,e,H,hs=>some ((.c x,.seq y :: k,e,H,hs),True)
 | .c .skip,k,e,H,hs=>some ((.a .normal,k,e,H,hs),True)
 | .c (.label _),k,e,H,hs=>some ((.a .normal,k,e,H,hs),True)
 | .c (.exit id),k,e,H,hs=>some ((.a (.exit id),k,e,H,hs),True)
 | .c .ret,k,e,H,hs=>some ((.a .ret,k,e,H,hs),True)
 | .c (.block id c),k,e,H,hs=>some ((.c c,.blk id :: k,e,H,hs),True)
 | .c (.region _ ⟨l⟩ false),k,e,H,hs=>bif l.all sA then some ((.l l.toArray l,k,e,H,hs),True) else none
 | .c (.cond c x y),k,e,H,h :: hs=>match e.ev c with
   | some (.bool b)=>bif Nat.beq h 1 then some ((.c x,k,e,H,hs),b=true) else some ((.c y,k,e,H,hs),b=false)
   | _=>none
 | .a .normal,.seq y :: k,e,H,hs=>some ((.c y,k,e,H,hs),True)
 | .a .normal,.blk _ :: k,e,H,hs=>some ((.a .normal,k,e,H,hs),True)
 | .a (.exit id),.blk j :: k,e,H,hs=>bif Nat.beq id j then some ((.a .normal,k,e,H,hs),True) else some ((.a (.exit id),k,e,H,hs),True)
 | .a (.exit id),_ :: k,e,H,hs=>some ((.a (.exit id),k,e,H,hs),True)
 | .a .ret,_ :: k,e,H,hs=>some ((.a .ret,k,e,H,hs),True)
 | .l _ [],k,e,H,hs=>some ((.a .normal,k,e,H,hs),True)
 | .l ops (o :: rest),k,e,H,hs=>Xx P n ops k e H hs rest o
 | _,_,_,_,_=>none
def run (P:Program) [Tab P] (n:Nat):Nat→Fo→List Fr→Env→Hp→List Nat→Option (Cf×Prop)
 | 0,f,k,e,H,hs=>some ((f,k,e,H,hs),True)
 | m+1,f,k,e,H,hs=>match OF P n f k e H hs with
   | some ((f,k,e,H,hs),ob)=>match run P n m f k e H hs with
     | some (c,obs)=>some (c,ob∧obs)
     | none=>none
   | none=>none
section
variable {P:Program} {r:Option Nat} {B:Bs} {D:List Deferred} {G:Imm} {Q0:Exit→Act→World→Prop}
def yO (P:Program) (r:Option Nat) (B:Bs) (D:List Deferred) (G:Imm) (Q0:Exit→Act→World→Prop):Cf→Prop
 | (.c c,k,e,H,_)=>Wc r P c B ⟨e,D,H,G⟩ (Dr P r Q0 k)
 | (.l ops l,k,e,H,_)=>Wl P ops l B ⟨e,D,H,G⟩ (Dr P r Q0 k .normal)
 | (.a x,k,e,H,_)=>Ar (Dr P r Q0 k) x B ⟨e,D,H,G⟩
theorem Xy [T:Tab P] {ops:Array Oper} {k:List Fr} {e:Env} {H:Hp} {hs:List Nat} {rest:List Oper} {o:Oper} {c:Cf} {ob:Prop} (h:Xx P B.n ops k e H hs rest o=some (c,ob)) (hob:ob) (hg:yO P r B D G Q0 c) :
 yO P r B D G Q0 (.l ops (o :: rest),k,e,H,hs):=by
 unfold Xx at h
 split at h
 · split at h
   · rename_i hn
     split at h
     · rename_i hq;cases h;exact dS hn (Lj hq hob) hg
     cases h
   cases h
 · split at h
   · split at h
     · rename_i hx
       split at h
       · rename_i hH
         split at h
         · rename_i v hy
           split at h
           · rename_i h1
             rcases rA h with ⟨hc,h⟩ | ⟨_,h⟩
             · cases h
               subst hob
               simp only [aA] at hc
               exact Wl.store _ (Fe T.oneP h1) hx hy hc.1 hH hc.2 hg
             cases h
           split at h
           · rename_i m hm
             split at h
             · rename_i vs
               rcases rA h with ⟨hc,h⟩ | ⟨_,h⟩
               · cases h
                 subst hob
                 simp only [aA] at hc
                 have h0:=aB hc.1
                 subst h0
                 exact Nb _ (Bx T.aggP hm).2 hx hy (aB hc.2.1) hc.2.2.2 hH hc.2.2.1 hg
               cases h
             cases h
           cases h
         cases h
       cases h
     cases h
   cases h
 · split at h
   · rename_i t ht
     rw [xJ] at ht
     split at h
     · rename_i b hb
       rcases rA h with ⟨hw,h⟩ | ⟨hw,h⟩
       · cases h
         refine Wl.want (t:=t) (by simpa using ht) (hb.trans ?_) hg
         split at hw <;> first | rfl | cases hw
       split at h
       · rcases rA h with ⟨hn,h⟩ | ⟨_,h⟩
         · cases h
           refine Wl.pass (t:=t) (by simpa using ht) (hb.trans ?_) hn hg
           rename_i w _ _ _ _ _
           cases b <;> cases w <;> first | rfl | cases hw
         cases h
       cases h
     cases h
   cases h
 cases h
theorem HC [T:Tab P] {f:Fo} {k:List Fr} {e:Env} {H:Hp} {hs:List Nat} {c:Cf} {ob:Prop} (h:OF P B.n f k e H hs=some (c,ob)) (hob:ob) (hg:yO P r B D G Q0 c) :
 yO P r B D G Q0 (f,k,e,H,hs):=by
 unfold OF at h
 split at h
 · cases h;exact cO hg
 · cases h;exact kF hg
 · cases h;exact Wc.label hg
 · cases h;exact Wc.exit hg
 · cases h;exact lM hg
 · cases h;exact Wc.block hg
 · rcases rA h with ⟨hd,h⟩ | ⟨_,h⟩
   · cases h;exact bX hd hg
   cases h
 · split at h
   · rename_i b hb
     rcases rA h with ⟨_,h⟩ | ⟨_,h⟩
     · cases h;subst hob;exact Xg hb hg
     cases h;subst hob;exact Xh hb hg
   cases h
 · cases h;exact bW hg
 · cases h;exact qN hg
 · rcases rA h with ⟨hd,h9⟩ | ⟨hd,h9⟩
   · have h8:=aB hd
     subst h8
     cases h9;exact Ar.here hg
   cases h9;exact Pt hd hg
 · rename_i id fr k hne
   cases h
   cases fr with
   | seq y=>exact pL hg
   | thn K=>exact pL hg
   | blk j=>exact (hne j rfl).elim
 · rename_i fr k
   cases h
   cases fr with
   | seq y=>exact oN hg
   | thn K=>exact oN hg
   | blk j=>exact Bp hg
 · cases h;exact cY hg
 · exact Xy h hob hg
 cases h
theorem run_ok [T:Tab P]:∀ {m:Nat} {f:Fo} {k:List Fr} {e:Env} {H:Hp} {hs:List Nat} {c:Cf} {ob:Prop},run P B.n m f k e H hs=some (c,ob)→ob→yO P r B D G Q0 c→yO P r B D G Q0 (f,k,e,H,hs)
 | 0,f,k,e,H,hs,c,ob,h,hob,hg=>by cases h;exact hg
 | m+1,f,k,e,H,hs,c,ob,h,hob,hg=>by
   unfold run at h
   split at h
   · rename_i h1
     split at h
     · rename_i h2
       cases h
       exact HC h1 hob.1 (run_ok h2 hob.2 hg)
     cases h
   cases h
end
section
variable {P:Program} [Tab P] {r:Option Nat} {B:Bs} {D:List Deferred} {G:Imm} {Q Q0:Exit→Act→World→Prop} {k k':List Fr} {e e':Env} {H H':Hp} {hs':List Nat} {ob:Prop} {c c':Code} {l l':List Oper} {ops ops':Array Oper} {x x':Exit}
theorem Wc.gc (n:Nat) (hs:List Nat) (hg:Wc r P c' B ⟨e',D,H',G⟩ (Dr P r Q0 k')) (hr:Reify P r Q k Q0:=by (repeat with_reducible (first | apply jJ | apply jI | apply jK | apply jH | apply jW | apply jX | apply jV));first | exact jG | exact kT) (h:run P B.n n (.c c) k e H hs=some ((.c c',k',e',H',hs'),ob):=by exact rfl) (hob:ob:=by (repeat refine And.intro Ie ?_);exact trivial):Wc r P c B ⟨e,D,H,G⟩ Q:=by
 unfold Reify at hr;subst hr
 exact run_ok h hob hg
abbrev cZ:=@Wc.gc
theorem Wc.gl (n:Nat) (hs:List Nat) (hg:Wl P ops' l' B ⟨e',D,H',G⟩ (Dr P r Q0 k' .normal)) (hr:Reify P r Q k Q0:=by (repeat with_reducible (first | apply jJ | apply jI | apply jK | apply jH | apply jW | apply jX | apply jV));first | exact jG | exact kT) (h:run P B.n n (.c c) k e H hs=some ((.l ops' l',k',e',H',hs'),ob):=by exact rfl) (hob:ob:=by (repeat refine And.intro Ie ?_);exact trivial):Wc r P c B ⟨e,D,H,G⟩ Q:=by
 unfold Reify at hr;subst hr
 exact run_ok h hob hg
abbrev aM:=@Wc.gl
theorem Wc.ga (n:Nat) (hs:List Nat) (hg:Ar (Dr P r Q0 k') x' B ⟨e',D,H',G⟩) (hr:Reify P r Q k Q0:=by (repeat with_reducible (first | apply jJ | apply jI | apply jK | apply jH | apply jW | apply jX | apply jV));first | exact jG | exact kT) (h:run P B.n n (.c c) k e H hs=some ((.a x',k',e',H',hs'),ob):=by exact rfl) (hob:ob:=by (repeat refine And.intro Ie ?_);exact trivial):Wc r P c B ⟨e,D,H,G⟩ Q:=by
 unfold Reify at hr;subst hr
 exact run_ok h hob hg
abbrev bQ:=@Wc.ga
theorem Wl.gc (n:Nat) (hs:List Nat) (hg:Wc r P c' B ⟨e',D,H',G⟩ (Dr P r Q0 k')) (hr:Reify P r Q k Q0:=by (repeat with_reducible (first | apply jJ | apply jI | apply jK | apply jH | apply jW | apply jX | apply jV));first | exact jG | exact kT) (h:run P B.n n (.l ops l) k e H hs=some ((.c c',k',e',H',hs'),ob):=by exact rfl) (hob:ob:=by (repeat refine And.intro Ie ?_);exact trivial):Wl P ops l B ⟨e,D,H,G⟩ (Q .normal):=by
 unfold Reify at hr;subst hr
 exact run_ok h hob hg
abbrev bP:=@Wl.gc
theorem Wl.gl (n:Nat) (hs:List Nat) (hg:Wl P ops' l' B ⟨e',D,H',G⟩ (Dr P r Q0 k' .normal)) (hr:Reify P r Q k Q0:=by (repeat with_reducible (first | apply jJ | apply jI | apply jK | apply jH | apply jW | apply jX | apply jV));first | exact jG | exact kT) (h:run P B.n n (.l ops l) k e H hs=some ((.l ops' l',k',e',H',hs'),ob):=by exact rfl) (hob:ob:=by (repeat refine And.intro Ie ?_);exact trivial):Wl P ops l B ⟨e,D,H,G⟩ (Q .normal):=by
 unfold Reify at hr;subst hr
 exact run_ok h hob hg
abbrev aL:=@Wl.gl
theorem Wl.ga (n:Nat) (hs:List Nat) (hg:Ar (Dr P r Q0 k') x' B ⟨e',D,H',G⟩) (hr:Reify P r Q k Q0:=by (repeat with_reducible (first | apply jJ | apply jI | apply jK | apply jH | apply jW | apply jX | apply jV));first | exact jG | exact kT) (h:run P B.n n (.l ops l) k e H hs=some ((.a x',k',e',H',hs'),ob):=by exact rfl) (hob:ob:=by (repeat refine And.intro Ie ?_);exact trivial):Wl P ops l B ⟨e,D,H,G⟩ (Q .normal):=by
 unfold Reify at hr;subst hr
 exact run_ok h hob hg
abbrev bA:=@Wl.ga
theorem Ar.gc (n:Nat) (hs:List Nat) (hg:Wc r P c' B ⟨e',D,H',G⟩ (Dr P r Q0 k')) (hr:Reify P r Q k Q0:=by (repeat with_reducible (first | apply jJ | apply jI | apply jK | apply jH | apply jW | apply jX | apply jV));first | exact jG | exact kT) (h:run P B.n n (.a x) k e H hs=some ((.c c',k',e',H',hs'),ob):=by exact rfl) (hob:ob:=by (repeat refine And.intro Ie ?_);exact trivial):Ar Q x B ⟨e,D,H,G⟩:=by
 unfold Reify at hr;subst hr
 exact run_ok h hob hg
abbrev oS:=@Ar.gc
theorem Ar.gl (n:Nat) (hs:List Nat) (hg:Wl P ops' l' B ⟨e',D,H',G⟩ (Dr P r Q0 k' .normal)) (hr:Reify P r Q k Q0:=by (repeat with_reducible (first | apply jJ | apply jI | apply jK | apply jH | apply jW | apply jX | apply jV));first | exact jG | exact kT) (h:run P B.n n (.a x) k e H hs=some ((.l ops' l',k',e',H',hs'),ob):=by exact rfl) (hob:ob:=by (repeat refine And.intro Ie ?_);exact trivial):Ar Q x B ⟨e,D,H,G⟩:=by
 unfold Reify at hr;subst hr
 exact run_ok h hob hg
abbrev pX:=@Ar.gl
theorem Ar.ga (n:Nat) (hs:List Nat) (hg:Ar (Dr P r Q0 k') x' B ⟨e',D,H',G⟩) (hr:Reify P r Q k Q0:=by (repeat with_reducible (first | apply jJ | apply jI | apply jK | apply jH | apply jW | apply jX | apply jV));first | exact jG | exact kT) (h:run P B.n n (.a x) k e H hs=some ((.a x',k',e',H',hs'),ob):=by exact rfl) (hob:ob:=by (repeat refine And.intro Ie ?_);exact trivial):Ar Q x B ⟨e,D,H,G⟩:=by
 unfold Reify at hr;subst hr
 exact run_ok h hob hg
abbrev iN:=@Ar.ga
theorem HD {K:Act→World→Prop} (n:Nat) (hs:List Nat) (hg:Wl P ops' l' B ⟨e',D,H',G⟩ K) (h:run P B.n n (.l ops l) [] e H hs=some ((.l ops' l',[],e',H',hs'),ob):=by exact rfl) (hob:ob:=by (repeat refine And.intro Ie ?_);exact trivial):Wl P ops l B ⟨e,D,H,G⟩ K:=
 run_ok (r:=none) (Q0:=fun _=>K) h hob hg
abbrev aC:=@HD
end
section
variable {P:Program} {B:Bs} {e:Env} {D:List Deferred} {H H0:Hp} {G G0:Imm} {K:Act→World→Prop} {ops:Array Oper} {l rest:List Oper} {f:Nat} {listed:Array Bool} {wr:List (Nat×Nat)} {ty:TypeId} {pos:String} {after:Array Edge} {d:Nat}
theorem Gm.o1 {o:Oper} (i:Nat) (h:Wl P l.toArray [o] B ⟨e,D,H,G⟩ (xT P l.toArray f (listed.setIfInBounds i true) wr H0 G0 K)) (hH:H.sub (H0.live wr listed):=by repeat (first | exact trivial | refine ⟨rfl,?_⟩)) (hG:G0.le G:=by first | exact cC _ | repeat (first | assumption | refine bI ?_ qY)) (hr:Region.ready .any l.toArray listed=[i]:=by kernel_rfl) (ho:l[i]?=some o:=by exact rfl) :
 Gm P l.toArray (f+1) listed wr H0 G0 B ⟨e,D,H,G⟩ K:=Gm.one i hH hG hr ho h
abbrev gC:=@Gm.o1
theorem Gm.o2 {o1 o2:Oper} (i j:Nat) (g1:Wl P l.toArray [o1] B ⟨e,D,H,G⟩ (xT P l.toArray f (listed.setIfInBounds i true) wr H0 G0 K)) (g2:Wl P l.toArray [o2] B ⟨e,D,H,G⟩ (xT P l.toArray f (listed.setIfInBounds j true) wr H0 G0 K))
 (hH:H.sub (H0.live wr listed):=by repeat (first | exact trivial | refine ⟨rfl,?_⟩)) (hG:G0.le G:=by first | exact cC _ | repeat (first | assumption | refine bI ?_ qY)) (hr:Region.ready .any l.toArray listed=[i,j]:=by kernel_rfl) (h1:l[i]?=some o1:=by exact rfl) (h2:l[j]?=some o2:=by exact rfl) :
 Gm P l.toArray (f+1) listed wr H0 G0 B ⟨e,D,H,G⟩ K:=GY i j hH hG hr h1 h2 g1 g2
theorem Gm.o3 {o1 o2 o3:Oper} (i j k:Nat) (g1:Wl P l.toArray [o1] B ⟨e,D,H,G⟩ (xT P l.toArray f (listed.setIfInBounds i true) wr H0 G0 K)) (g2:Wl P l.toArray [o2] B ⟨e,D,H,G⟩ (xT P l.toArray f (listed.setIfInBounds j true) wr H0 G0 K)) (g3:Wl P l.toArray [o3] B ⟨e,D,H,G⟩ (xT P l.toArray f (listed.setIfInBounds k true) wr H0 G0 K))
 (hH:H.sub (H0.live wr listed):=by repeat (first | exact trivial | refine ⟨rfl,?_⟩)) (hG:G0.le G:=by first | exact cC _ | repeat (first | assumption | refine bI ?_ qY)) (hr:Region.ready .any l.toArray listed=[i,j,k]:=by kernel_rfl) (h1:l[i]?=some o1:=by exact rfl) (h2:l[j]?=some o2:=by exact rfl) (h3:l[k]?=some o3:=by exact rfl) :
 Gm P l.toArray (f+1) listed wr H0 G0 B ⟨e,D,H,G⟩ K:=Xn i j k hH hG hr h1 h2 h3 g1 g2 g3
theorem Gm.fin {Q:Exit→Act→World→Prop} {x:Exit} (h:Ar Q x B ⟨e,D,H,G⟩) (hr:Region.ready .any ops listed=[]:=by kernel_rfl) (hH:H.sub (H0.live wr listed):=by repeat (first | exact trivial | refine ⟨rfl,?_⟩)) (hG:G0.le G:=by first | exact cC _ | repeat (first | assumption | refine bI ?_ qY)):Gm P ops 0 listed wr H0 G0 B ⟨e,D,H,G⟩ (Q x):=
 pH hr hH hG h
abbrev eI:=@Gm.fin
theorem Gm.c [T:Tab P] {o:Op} {v:Value} {hs':List Nat} {ob:Prop} (i:Nat) (ts hs:List Nat) (h:Gm P l.toArray f (listed.setIfInBounds i true) wr H0 G0 B ⟨(d,v) :: e,D,H,G⟩ K) (ho:l[i]?=some ⟨some d,o,ty,pos,after,none⟩:=by exact rfl) (hv:JN P e (H0.only ts) hs o=some (v,hs',ob):=by exact rfl)
 (hob:ob:=by first | exact trivial | with_reducible rfl | assumption | omega | rfl) (hn:Nat.ble (d+1) B.n=true:=by exact rfl) (hB:uI l.toArray listed wr i ts=true:=by kernel_rfl):Gm P l.toArray (f+1) listed wr H0 G0 B ⟨e,D,H,G⟩ K:=
 Gm.q i ts hB ho hn (Lj hv hob) h
abbrev eF:=@Gm.c
theorem Gm.u {o:Op} {v:Value} (i:Nat) (ts:List Nat) (ho:l[i]?=some ⟨some d,o,ty,pos,after,none⟩) (hq:Qy P o ty e (H0.only ts) G0 v) (h:Gm P l.toArray f (listed.setIfInBounds i true) wr H0 G0 B ⟨(d,v) :: e,D,H,G⟩ K)
 (hn:Nat.ble (d+1) B.n=true:=by exact rfl) (hB:uI l.toArray listed wr i ts=true:=by kernel_rfl):Gm P l.toArray (f+1) listed wr H0 G0 B ⟨e,D,H,G⟩ K:=
 Gm.q i ts hB ho hn hq h
abbrev gQ:=@Gm.u
theorem Wl.k [T:Tab P] {f:FuncId} {xs:Array Operand} {ats:Array TypeId} {vs:List Value} {Hi:Hp} {post:Value→Imm→Hp→Prop} (k:Nat) (hx:e.evs xs.toList=some vs) (hF:Does P f vs G Hi post) (h:∀ v G' Ho,G.le G'→post v G' Ho→Wl P ops rest B ⟨(d,v) :: e,D,Ho.shift k++(Hi.kill k++H),G'⟩ K)
 (hn:Nat.ble (d+1) B.n=true:=by exact rfl) (hf:Lh (Tab.fn P) f=true:=by exact rfl) (hHi:∀ t x,Hi.get t=some x→H.get (k+t)=some x:=by first | exact sE trivial | exact sE ⟨rfl,trivial⟩ | exact sE ⟨rfl,rfl,trivial⟩ | exact sE ⟨rfl,rfl,rfl,trivial⟩) :
 Wl P ops (⟨some d,.call { callee:=.value (.func f),args:=xs,argTypes:=ats },ty,pos,after,none⟩ :: rest) B ⟨e,D,H,G⟩ K:=Wl.call k hn (Li T.fnP hf) hx hF hHi h
abbrev cX:=@Wl.k
theorem Wl.k0 [T:Tab P] {f:FuncId} {xs:Array Operand} {ats:Array TypeId} {vs:List Value} {r:Value} (hx:e.evs xs.toList=some vs) (hF:Does P f vs G [] (fun v G' Ho=>v=r∧G'=G∧Ho=[])) (h:Wl P ops rest B ⟨(d,r) :: e,D,H,G⟩ K)
 (hn:Nat.ble (d+1) B.n=true:=by exact rfl) (hf:Lh (Tab.fn P) f=true:=by exact rfl) :
 Wl P ops (⟨some d,.call { callee:=.value (.func f),args:=xs,argTypes:=ats },ty,pos,after,none⟩ :: rest) B ⟨e,D,H,G⟩ K:=Xm hn (Li T.fnP hf) hx hF h
abbrev bS:=@Wl.k0
end
section
variable {P:Program} {fn:Func} {G0:Imm} {Hi:Hp} {w0:World} {post:Value→Imm→Hp→Prop} {n:Nat} {e:Env} {H:Hp} {G:Imm} {x:Exit} {t1 t2 t3:Nat} {v1 v2 v3:Value}
theorem Ar.e1 (hp:post v1 G (H.only [])) (hx:x=.normal∨x=.ret:=by exact .inr rfl) (hres:fn.results=#[.tmp t1]:=by exact rfl) (h1:e.get t1=some v1:=by exact rfl):Ar (Ua P fn G0 Hi w0 post) x ⟨n,w0,Hi.has,G0⟩ ⟨e,[],H,G⟩:=
 eH hx hres (.tmp h1) (bN _ _) hp
abbrev cI:=@Ar.e1
theorem Ar.e2 (hp:post (.tuple #[v1,v2]) G (H.only [])) (hx:x=.normal∨x=.ret:=by exact .inr rfl) (hres:fn.results=#[.tmp t1,.tmp t2]:=by exact rfl) (h1:e.get t1=some v1:=by exact rfl) (h2:e.get t2=some v2:=by exact rfl):Ar (Ua P fn G0 Hi w0 post) x ⟨n,w0,Hi.has,G0⟩ ⟨e,[],H,G⟩:=
 oO hx hres (.tmp h1) (.tmp h2) (bN _ _) hp
abbrev eJ:=@Ar.e2
theorem Ar.e3 (hp:post (.tuple #[v1,v2,v3]) G (H.only [])) (hx:x=.normal∨x=.ret:=by exact .inr rfl) (hres:fn.results=#[.tmp t1,.tmp t2,.tmp t3]:=by exact rfl) (h1:e.get t1=some v1:=by exact rfl) (h2:e.get t2=some v2:=by exact rfl) (h3:e.get t3=some v3:=by exact rfl) :
 Ar (Ua P fn G0 Hi w0 post) x ⟨n,w0,Hi.has,G0⟩ ⟨e,[],H,G⟩:=zW hx hres (.tmp h1) (.tmp h2) (.tmp h3) (bN _ _) hp
end
section
variable {P:Program} {B:Bs} {e:Env} {D:List Deferred} {H:Hp} {G:Imm}
end
section
variable {P:Program} {e:Env} {H:Hp} {G:Imm} {ty:TypeId} {t t':TypeId} {x y:Operand} {m n:Int}
theorem Um (hx:e.ev x=some (.int .u64 m)) (hy:e.ev y=some (.int .u64 n)) (hb:0≤m+n∧m+n≤18446744073709551615):Qy P (.binOp .add t x y t') ty e H G (.int .u64 (m+n)):=by
 have:=Ks (P:=P) (H:=H) (G:=G) (ty:=ty) (t:=t) (t':=t') hx hy;rwa [gS _ hb] at this
abbrev gA:=@Um
theorem Un (hx:e.ev x=some (.int .u64 m)) (hy:e.ev y=some (.int .u64 n)) (hb:0≤m - n∧m - n≤18446744073709551615):Qy P (.binOp .sub t x y t') ty e H G (.int .u64 (m - n)):=by
 have:=Do (P:=P) (H:=H) (G:=G) (ty:=ty) (t:=t) (t':=t') hx hy;rwa [gS _ hb] at this
abbrev gY:=@Un
theorem Uo (hx:e.ev x=some (.int .u64 m)) (hy:e.ev y=some (.int .u64 n)) (hb:0≤m*n∧m*n≤18446744073709551615):Qy P (.binOp .mul t x y t') ty e H G (.int .u64 (m*n)):=by
 have:=kG (P:=P) (H:=H) (G:=G) (ty:=ty) (t:=t) (t':=t') hx hy;rwa [gS _ hb] at this
abbrev nZ:=@Uo
theorem Nk {m n:Int} (h:0≤m):m.tdiv n=m / n:=Int.tdiv_eq_ediv_of_nonneg h
theorem Xz {m n:Int} (h:0≤m):m.tmod n=m % n:=Int.tmod_eq_emod_of_nonneg h
theorem Ya {m n:Int} (h:0≤m) (hn:0<n):0≤m / n∧m / n≤m:=⟨mK h (cB hn),Int.ediv_le_self _ h⟩
theorem Jk (hx:e.ev x=some (.int .u64 m)) (hy:e.ev y=some (.int .u64 n)) (hb:0≤m∧m≤18446744073709551615∧0<n):Qy P (.binOp .quo t x y t') ty e H G (.int .u64 (m / n)):=by
 have:=Ku (P:=P) (H:=H) (G:=G) (ty:=ty) (t:=t) (t':=t') hx hy qX
 have h1:=Ya hb.1 hb.2.2
 rwa [Nk hb.1,gS _ ⟨h1.1,Int.le_trans h1.2 hb.2.1⟩] at this
theorem DQ (hx:e.ev x=some (.int .i64 m)) (hy:e.ev y=some (.int .i64 n)) (hb:0≤m∧m≤9223372036854775807∧0<n):Qy P (.binOp .quo t x y t') ty e H G (.int .i64 (m / n)):=by
 have h1:=Ya hb.1 hb.2.2
 have h2:m.tdiv n=m / n:=Nk hb.1
 have:=Qy.quo (P:=P) (H:=H) (G:=G) (ty:=ty) (t:=t) (t':=t') hx hy qX (by rw [h2];exact ⟨by omega,by omega⟩)
 rwa [h2] at this
abbrev oH:=@DQ
theorem Ds {k:IntKind} (hx:e.ev x=some (.int k m)) (hy:e.ev y=some (.int k n)) (hb:0≤m∧0<n):Qy P (.binOp .rem t x y t') ty e H G (.int k (m % n)):=by
 have:=Qy.rem (P:=P) (H:=H) (G:=G) (ty:=ty) (t:=t) (t':=t') hx hy qX
 rwa [Xz hb.1] at this
theorem Up {s:TypeId} {k:IntKind} (hs:(P.underlying s).isSome=true) (ht:P.underlying t=some (.int .u32)) (hx:e.ev x=some (.int k m)) (hb:0≤m∧m≤4294967295):Qy P (.convert s t x) ty e H G (.int .u32 m):=by
 have:=jY (P:=P) (H:=H) (G:=G) (ty:=ty) hs ht hx
 rwa [IntWalk.u32_in _ hb] at this
abbrev iF:=@Up
theorem Uq {s:TypeId} {k:IntKind} (hs:(P.underlying s).isSome=true) (ht:P.underlying t=some (.int .u64)) (hx:e.ev x=some (.int k m)) (hb:0≤m∧m≤18446744073709551615):Qy P (.convert s t x) ty e H G (.int .u64 m):=by
 have:=jY (P:=P) (H:=H) (G:=G) (ty:=ty) hs ht hx
 rwa [gS _ hb] at this
abbrev bV:=@Uq
end
theorem Dl (a b:Nat) (ha:a<4294967296) (hb:b<4294967296):bits .or .u32 (a:Int) (b:Int)=((a ||| b:Nat):Int):=by
 have hx:a ||| b<2 ^ 32:=Nat.or_lt_two_pow qX qX
 have h1:(BitVec.ofInt 32 (a:Int)).toNat=a:=by
  rw [iA,iT];exact gP qX
 have h2:(BitVec.ofInt 32 (b:Int)).toNat=b:=by
  rw [iA,iT];exact gP qX
 show IntKind.u32.wrap ((BitVec.ofInt 32 (a:Int) ||| BitVec.ofInt 32 (b:Int)).toNat:Int)=_
 rw [BitVec.toNat_or,h1,h2,qV]
 omega
structure IV where
 neg:Bool
 a:Option Addr
 n:Nat
 c:Nat
instance:Inhabited IV:=⟨⟨false,none,0,0⟩⟩
instance:Cells IV:=⟨2,fun x=>[.bool x.neg,.slice x.a x.n x.c],fun _=>rfl,fun _=>rfl⟩
structure SV where
 a:Option Addr
 n:Nat
 c:Nat
instance:Inhabited SV:=⟨⟨none,0,0⟩⟩
instance:Cells SV:=⟨1,fun x=>[.slice x.a x.n x.c],fun _=>rfl,fun _=>rfl⟩
def OG (l:List U32):Prop:=∀ d∈l,0≤d.v∧d.v<65536
def Iq:List U32→Int
 | []=>0
 | d :: l=>d.v+65536*Iq l
def pw (n:Nat):Int:=((65536 ^ n:Nat):Int)
theorem HE (n:Nat):0<pw n:=by unfold pw;exact Int.ofNat_lt.2 (mF rI)
theorem JO {m n:Nat} (h:m≤n):pw m≤pw n:=by unfold pw;exact mW.2 (dZ rI h)
theorem rQ {α:Type} {l:List α} {k:Nat} (h:l.length≤k):l.take k=l:=gK h
def Top (l:List U32):Prop:=l=[]∨(l[l.length - 1]?.getD default).v≠0
theorem Top.nil:Top []:=.inl rfl
structure IsInt (neg:Bool) (l:List U32) (z:Int):Prop where
 digs:OG l
 top:Top l
 sign:l=[]→neg=false
 val:z=if neg=true then -Iq l else Iq l
section
variable {P:Program} {B:Bs} {D:List Deferred}
theorem Yb {ι:Type} {r:Option Nat} {c:Code} {Q:Exit→Act→World→Prop} {e:Env} {H:Hp} {G:Imm} (I:ι→Env×Hp) (g:ι→Imm) (φ:ι→Prop) (μ:ι→Nat) (i0:ι) (h0:φ i0) (hg:G=g i0)
 (he:e.sub (I i0).1) (hH:H.sub (I i0).2)
 (hb:∀ i,φ i→Wc r P c B ⟨(I i).1,D,(I i).2,g i⟩ (Exit.then (zV B (fun i=>⟨(I i).1,D,(I i).2,g i⟩) φ μ (μ i)) Q)):Wc r P (.loop c) B ⟨e,D,H,G⟩ Q:=
 Ek (fun i=>⟨(I i).1,D,(I i).2,g i⟩) φ μ i0 h0 (fun _ _ h=>by rw [hg] at h;exact h.sub he hH) hb
abbrev nB:=@Yb
end
def Below (m:Nat) (zs:List Int):Prop:=∀ z∈zs,(z.natAbs:Int)<pw m
theorem Below.at {m:Nat} {zs:List Int} (h:Below m zs) (i:Nat):((zs[i]?.getD 0).natAbs:Int)<pw m:=by
 cases hx:zs[i]? with
 | none=>exact HE m
 | some z=>exact h z (List.mem_of_getElem? hx)
theorem Below.mono {m k:Nat} {zs:List Int} (h:Below m zs) (hk:m≤k):Below k zs:=fun z hz=>nH (h z hz) (JO hk)
def fnB (P : Program) (f : Nat) : Bool := match P.funcs[f]? with | some fn => fn.body.isSome && !(fn.name == "runtime.NumGoroutine") | none => false
theorem AllFn.of {P:Program}:∀ {l:List Nat},l.all (fnB P)=true→AllFn P l
 | [],_=>trivial
 | f :: l,h=>by
   rw [jA,aA] at h
   refine ⟨?_,AllFn.of h.2⟩
   have h1:=h.1
   unfold fnB at h1
   split at h1
   · rename_i fn hf
     rw [aA] at h1
     exact ⟨fn,hf,h1.1,by simpa using h1.2⟩
   cases h1
theorem AllOne.of {P:Program}:∀ {l:List Nat},l.all (sY P)=true→AllOne P l
 | [],_=>trivial
 | f :: l,h=>by
   rw [jA,aA] at h
   exact ⟨h.1,AllOne.of h.2⟩
def agB (P:Program) (x:Nat×Nat):Bool:=tX P x.1 x.2 && (match P.info? x.1 with | some i=>Nat.beq i.size x.2 | none=>false)
theorem AllAgg.of {P:Program}:∀ {l:List (Nat×Nat)},l.all (agB P)=true→AllAgg P l
 | [],_=>trivial
 | x :: l,h=>by
   rw [jA,aA] at h
   have h1:=h.1
   unfold agB at h1
   rw [aA] at h1
   refine ⟨⟨h1.1,?_⟩,AllAgg.of h.2⟩
   have h2:=h1.2
   split at h2
   · rename_i i hi
     rw [hi,←aB h2];rfl
   cases h2
def slB (P:Program) (t:Nat):Bool:=match P.underlying t with | some (.slice E)=>(P.info? E).isSome | _=>false
theorem AllSl.of {P:Program}:∀ {l:List Nat},l.all (slB P)=true→AllSl P l
 | [],_=>trivial
 | t :: l,h=>by
   rw [jA,aA] at h
   refine ⟨?_,AllSl.of h.2⟩
   have h1:=h.1
   unfold slB at h1
   split at h1
   · rename_i E hE
     cases hi:P.info? E with
     | none=>rw [hi] at h1;cases h1
     | some i=>exact ⟨E,i.size,hE,by rw [hi];rfl⟩
   cases h1
def DR:List (List Nat)→Nat→Nat
 | [],f=>f
 | _ :: s,f=>DR s f+1
def Nl:List (List Nat)→Array Bool→Array Bool
 | [],L=>L
 | [] :: s,L=>Nl s L
 | (i :: _) :: s,L=>Nl s (L.setIfInBounds i true)
def Af (ops:Array Oper) (wr:List (Nat×Nat)):List (List Nat)→Array Bool→Bool
 | [],_=>true
 | [] :: _,_=>false
 | (i :: ts) :: s,L=>uI ops L wr i ts && Af ops wr s (L.setIfInBounds i true)
def eqb (b w:Bool):Bool:=bif b then w else !w
def gmg (l:List Oper) (e:Env):Option (Nat×Bool)→Option Bool
 | none=>some true
 | some (j,w)=>match wS l j with
   | some t=>match e.get t with
     | some (.bool b)=>some (eqb b w)
     | _=>none
   | none=>none
def JH (P:Program) [Tab P] (n:Nat) (l:List Oper) (H0:Hp):List (List Nat)→Env→Option (Env×Prop)
 | [],e=>some (e,True)
 | [] :: _,_=>none
 | (i :: ts) :: s,e=>match zT l i with
   | some ⟨some d,o,_,_,_,g⟩=>match Nat.ble (d+1) n with
     | true=>match gmg l e g with
       | some true=>match JN P e (H0.only ts) ts o with
         | some (v,_,ob)=>match JH P n l H0 s ((d,v) :: e) with
           | some (e',obs)=>some (e',ob∧obs)
           | none=>none
         | none=>none
       | some false=>match ts with
         | []=>JH P n l H0 s ((d,undef) :: e)
         | _ :: _=>none
       | none=>none
     | false=>none
   | _=>none
theorem Nm {l:List Oper} {e:Env} {j:Nat} {w x:Bool} (h:gmg l e (some (j,w))=some x):∃ t,(l[j]?).bind (·.dst)=some t∧e.get t=some (.bool (bif x then w else !w)):=by
 replace h:(match wS l j with
  | some t=>match e.get t with
    | some (.bool b)=>some (eqb b w)
    | _=>none
  | none=>none)=some x:=h
 split at h
 · rename_i t ht
   rw [xJ] at ht
   split at h
   · rename_i b hb
     refine ⟨t,ht,hb.trans ?_⟩
     cases b <;> cases w <;> cases h <;> rfl
   cases h
 cases h
theorem Lk {P:Program} [T:Tab P] {B:Bs} {D:List Deferred} {H H0:Hp} {G G0:Imm} {K:Act→World→Prop} {l:List Oper} {f:Nat} {wr:List (Nat×Nat)} {e':Env}:∀ {steps:List (List Nat)} {listed:Array Bool} {e:Env} {ob:Prop},JH P B.n l H0 steps e=some (e',ob)→ob→Af l.toArray wr steps listed=true→Gm P l.toArray f (Nl steps listed) wr H0 G0 B ⟨e',D,H,G⟩ K→Gm P l.toArray (DR steps f) listed wr H0 G0 B ⟨e,D,H,G⟩ K
 | [],listed,e,ob,h,_,_,hg=>by cases h;exact hg
 | [] :: s,listed,e,ob,h,_,_,_=>vU
 | (i :: ts) :: s,listed,e,ob,h,hob,hB,hg=>by
   unfold Af at hB
   rw [aA] at hB
   unfold JH at h
   split at h
   · rename_i d o ty pos after g hi
     rw [uJ] at hi
     split at h
     · rename_i hn
       split at h
       · rename_i hgm
         split at h
         · rename_i v hs' ob1 hq
           split at h
           · rename_i e1 obs h2
             cases h
             have hr:=Lk h2 hob.2 hB.2 hg
             cases g with
             | none=>exact Gm.q i ts hB.1 hi hn (Lj hq hob.1) hr
             | some jw =>
               obtain ⟨j,w⟩:=jw
               obtain ⟨t,ht,he⟩:=Nm hgm
               exact mY (t:=t) i ts hB.1 hi ht he hn (Lj hq hob.1) hr
           cases h
         cases h
       · rename_i hgm
         split at h
         · have hr:=Lk h hob hB.2 hg
           cases g with
           | none=>cases hgm
           | some jw =>
             obtain ⟨j,w⟩:=jw
             obtain ⟨t,ht,he⟩:=Nm hgm
             exact Lc (t:=t) i hB.1 hi ht he hn hr
         cases h
       cases h
     cases h
   cases h
section
variable {P:Program} {B:Bs} {e e':Env} {D:List Deferred} {H H0:Hp} {G G0:Imm} {K:Act→World→Prop} {ops:Array Oper} {l rest:List Oper} {f:Nat} {listed:Array Bool} {wr:List (Nat×Nat)} {ty:TypeId} {pos:String} {after:Array Edge} {d:Nat} {ob:Prop}
theorem Gm.r [T:Tab P] (steps:List (List Nat)) (h:Gm P l.toArray f (Nl steps listed) wr H0 G0 B ⟨e',D,H,G⟩ K) (hr:JH P B.n l H0 steps e=some (e',ob):=by exact rfl) (hob:ob:=by (repeat refine And.intro GF ?_);exact trivial) (hB:Af l.toArray wr steps listed=true:=by kernel_rfl) :
 Gm P l.toArray (DR steps f) listed wr H0 G0 B ⟨e,D,H,G⟩ K:=Lk hr hob hB h
abbrev fE:=@Gm.r
theorem Gm.y {o:Op} {v:Value} {j:Nat} {want:Bool} {t:Nat} (i:Nat) (ts:List Nat) (ho:l[i]?=some ⟨some d,o,ty,pos,after,some (j,want)⟩) (hq:Qy P o ty e (H0.only ts) G0 v) (h:Gm P l.toArray f (listed.setIfInBounds i true) wr H0 G0 B ⟨(d,v) :: e,D,H,G⟩ K)
 (hj:(l[j]?).bind (·.dst)=some t:=by exact rfl) (he:e.get t=some (.bool want):=by exact rfl) (hn:Nat.ble (d+1) B.n=true:=by exact rfl) (hB:uI l.toArray listed wr i ts=true:=by kernel_rfl):Gm P l.toArray (f+1) listed wr H0 G0 B ⟨e,D,H,G⟩ K:=
 mY i ts hB ho hj he hn hq h
abbrev pG:=@Gm.y
theorem Wl.p {o:Op} {v:Value} (hq:Qy P o ty e H G v) (h:Wl P ops rest B ⟨(d,v) :: e,D,H,G⟩ K) (hn:Nat.ble (d+1) B.n=true:=by exact rfl):Wl P ops (⟨some d,o,ty,pos,after,none⟩ :: rest) B ⟨e,D,H,G⟩ K:=dS hn hq h
abbrev aP:=@Wl.p
theorem Wl.b {e0:Env} {H0:Hp} {v:Value} (n m:Nat) (he:e.drop n=e0:=by exact rfl) (hf:e0.fresh (e.take n)=true:=by exact rfl) (hH:H.drop m=H0:=by exact rfl) (hg:H0.fresh (H.take m)=true:=by exact rfl) (hv:e.get d=some v:=by exact rfl) :
 Wl P ops [] B ⟨e,D,H,G⟩ (Hold B ⟨(d,v) :: e0,D,H0,G⟩):=eV n m he hf hH hg hv
abbrev eL:=@Wl.b
theorem Wl.x {T:TypeId} {x:Operand} {v:Value} {cs:List Value} (t:Nat) (h:∀ b,Wl P ops rest B ⟨(d,.pointer (some ⟨b,0,none⟩)) :: e,D,(t,some b,.cells cs.toArray T (0,0)) :: H,G⟩ K) (hn:Nat.ble (d+1) B.n=true:=by exact rfl) (hx:e.ev x=some v:=by exact rfl) (hv:v.cells=cs.toArray:=by exact rfl) :
 Wl P ops (⟨some d,.box T x,ty,pos,after,none⟩ :: rest) B ⟨e,D,H,G⟩ K:=lK t hn hx hv h
abbrev dY:=@Wl.x
variable {α:Type} [Cells α]
theorem Wl.at {T:TypeId} {x i:Operand} {c:Nat} {k:IntKind} {m:Int} {E:Nat} {a:Option Addr} {xs:List α} (hT:rH P T E (Cells.sz α)) (h:Wl P ops rest B ⟨(d,.pointer (some ⟨ab a,ao a+m.toNat*Cells.sz α,none⟩)) :: e,D,H,G⟩ K)
 (hx:e.ev x=some (.slice a xs.length c):=by exact rfl) (hi:e.ev i=some (.int k m):=by exact rfl) (hs:Arr G a xs:=by assumption) (hb:0≤m∧m<xs.length:=by omega) (hn:Nat.ble (d+1) B.n=true:=by exact rfl):Wl P ops (⟨some d,.indexAddr T x i,ty,pos,after,none⟩ :: rest) B ⟨e,D,H,G⟩ K:=
 dS hn (Qy.at hT hx hi hs hb) h
abbrev eO:=@Wl.at
theorem JP {T:TypeId} {x i:Operand} {c:Nat} {k:IntKind} {m:Int} {E:Nat} {a:Option Addr} {xs:List α} {junk:List Value} (hT:rH P T E (Cells.sz α)) (h:Wl P ops rest B ⟨(d,.pointer (some ⟨ab a,0+m.toNat*Cells.sz α,none⟩)) :: e,D,H,G⟩ K)
 (hx:e.ev x=some (.slice a xs.length c):=by exact rfl) (hi:e.ev i=some (.int k m):=by exact rfl) (hs:OwnA a c xs junk:=by assumption) (hb:0≤m∧m<xs.length:=by omega) (hn:Nat.ble (d+1) B.n=true:=by exact rfl):Wl P ops (⟨some d,.indexAddr T x i,ty,pos,after,none⟩ :: rest) B ⟨e,D,H,G⟩ K:=
 dS hn (nV hT hx hi hs hb) h
abbrev jE:=@JP
theorem JQ [Inhabited α] {T:TypeId} {x:Operand} {a:Option Addr} {xs:List α} {m:Int} {v:Value} (k:Nat) (h1:sY P T=true) (h:Wl P ops rest B ⟨(d,v) :: e,D,H,G⟩ K) (hx:e.ev x=some (.pointer (some ⟨ab a,ao a+m.toNat*Cells.sz α+k,none⟩)):=by exact rfl)
 (hs:Arr G a xs:=by assumption) (hm:0≤m∧m<xs.length:=by omega) (hk:Nat.ble (k+1) (Cells.sz α)=true:=by exact rfl) (hv:(Cells.enc (xs[m.toNat]?.getD default))[k]?=some v:=by exact rfl) (hn:Nat.ble (d+1) B.n=true:=by exact rfl):Wl P ops (⟨some d,.load T x,ty,pos,after,none⟩ :: rest) B ⟨e,D,H,G⟩ K:=
 dS hn (dH h1 hx (hs.cell hm k hk hv)) h
abbrev iD:=@JQ
theorem Wl.le [Inhabited α] {T k:TypeId} {x:Operand} {a:Option Addr} {xs:List α} {m:Int} (h1:tX P T k=true) (h:Wl P ops rest B ⟨(d,.agg (Cells.enc (xs[m.toNat]?.getD default)).toArray) :: e,D,H,G⟩ K) (hx:e.ev x=some (.pointer (some ⟨ab a,ao a+m.toNat*Cells.sz α,none⟩)):=by exact rfl)
 (hs:Arr G a xs:=by assumption) (hm:0≤m∧m<xs.length:=by omega) (hl:(Cells.enc (xs[m.toNat]?.getD default)).length=k:=by exact rfl) (hn:Nat.ble (d+1) B.n=true:=by exact rfl):Wl P ops (⟨some d,.load T x,ty,pos,after,none⟩ :: rest) B ⟨e,D,H,G⟩ K:=
 dS hn (pN h1 hx (hs.elem hm) hl) h
abbrev nA:=@Wl.le
theorem Wl.lo [Inhabited α] {T:TypeId} {x:Operand} {E:TypeId} {a:Option Addr} {c:Nat} {xs:List α} {junk:List Value} {m:Int} {v:Value} (t k:Nat) (h1:sY P T=true) (h:Wl P ops rest B ⟨(d,v) :: e,D,H,G⟩ K) (hx:e.ev x=some (.pointer (some ⟨ab a,0+m.toNat*Cells.sz α+k,none⟩)):=by exact rfl)
 (ht:H.get t=some (a.map (·.block),rP E xs junk):=by exact rfl) (ho:OwnA a c xs junk:=by assumption) (hm:0≤m∧m<xs.length:=by omega) (hk:Nat.ble (k+1) (Cells.sz α)=true:=by exact rfl) (hv:(Cells.enc (xs[m.toNat]?.getD default))[k]?=some v:=by exact rfl) (hn:Nat.ble (d+1) B.n=true:=by exact rfl) :
 Wl P ops (⟨some d,.load T x,ty,pos,after,none⟩ :: rest) B ⟨e,D,H,G⟩ K:=dS hn (Ac t k h1 hx ht ho hm hk hv) h
theorem Gm.at {T:TypeId} {x i:Operand} {c:Nat} {k:IntKind} {m:Int} {E:Nat} {a:Option Addr} {xs:List α} (q:Nat) (hT:rH P T E (Cells.sz α)) (h:Gm P l.toArray f (listed.setIfInBounds q true) wr H0 G0 B ⟨(d,.pointer (some ⟨ab a,ao a+m.toNat*Cells.sz α,none⟩)) :: e,D,H,G⟩ K)
 (ho:l[q]?=some ⟨some d,.indexAddr T x i,ty,pos,after,none⟩:=by exact rfl) (hx:e.ev x=some (.slice a xs.length c):=by exact rfl) (hi:e.ev i=some (.int k m):=by exact rfl) (hs:Arr G0 a xs:=by assumption) (hb:0≤m∧m<xs.length:=by omega) (hn:Nat.ble (d+1) B.n=true:=by exact rfl) (hB:uI l.toArray listed wr q []=true:=by kernel_rfl) :
 Gm P l.toArray (f+1) listed wr H0 G0 B ⟨e,D,H,G⟩ K:=gQ q [] ho (Qy.at hT hx hi hs hb) h hn hB
abbrev qL:=@Gm.at
theorem JR {T:TypeId} {x i:Operand} {c:Nat} {k:IntKind} {m:Int} {E:Nat} {a:Option Addr} {xs:List α} {junk:List Value} (q:Nat) (hT:rH P T E (Cells.sz α)) (h:Gm P l.toArray f (listed.setIfInBounds q true) wr H0 G0 B ⟨(d,.pointer (some ⟨ab a,0+m.toNat*Cells.sz α,none⟩)) :: e,D,H,G⟩ K)
 (ho:l[q]?=some ⟨some d,.indexAddr T x i,ty,pos,after,none⟩:=by exact rfl) (hx:e.ev x=some (.slice a xs.length c):=by exact rfl) (hi:e.ev i=some (.int k m):=by exact rfl) (hs:OwnA a c xs junk:=by assumption) (hb:0≤m∧m<xs.length:=by omega) (hn:Nat.ble (d+1) B.n=true:=by exact rfl) (hB:uI l.toArray listed wr q []=true:=by kernel_rfl) :
 Gm P l.toArray (f+1) listed wr H0 G0 B ⟨e,D,H,G⟩ K:=gQ q [] ho (nV hT hx hi hs hb) h hn hB
abbrev kC:=@JR
theorem Ff [Inhabited α] {T:TypeId} {x:Operand} {a:Option Addr} {xs:List α} {m:Int} {v:Value} (q:Nat) (ts:List Nat) (k:Nat) (h1:sY P T=true) (h:Gm P l.toArray f (listed.setIfInBounds q true) wr H0 G0 B ⟨(d,v) :: e,D,H,G⟩ K) (ho:l[q]?=some ⟨some d,.load T x,ty,pos,after,none⟩:=by exact rfl)
 (hx:e.ev x=some (.pointer (some ⟨ab a,ao a+m.toNat*Cells.sz α+k,none⟩)):=by exact rfl) (hs:Arr G0 a xs:=by assumption) (hm:0≤m∧m<xs.length:=by omega) (hk:Nat.ble (k+1) (Cells.sz α)=true:=by exact rfl) (hv:(Cells.enc (xs[m.toNat]?.getD default))[k]?=some v:=by exact rfl) (hn:Nat.ble (d+1) B.n=true:=by exact rfl) (hB:uI l.toArray listed wr q ts=true:=by kernel_rfl) :
 Gm P l.toArray (f+1) listed wr H0 G0 B ⟨e,D,H,G⟩ K:=gQ q ts ho (dH h1 hx (hs.cell hm k hk hv)) h hn hB
theorem Gm.le [Inhabited α] {T k:TypeId} {x:Operand} {a:Option Addr} {xs:List α} {m:Int} (q:Nat) (h1:tX P T k=true) (h:Gm P l.toArray f (listed.setIfInBounds q true) wr H0 G0 B ⟨(d,.agg (Cells.enc (xs[m.toNat]?.getD default)).toArray) :: e,D,H,G⟩ K) (ho:l[q]?=some ⟨some d,.load T x,ty,pos,after,none⟩:=by exact rfl)
 (hx:e.ev x=some (.pointer (some ⟨ab a,ao a+m.toNat*Cells.sz α,none⟩)):=by exact rfl) (hs:Arr G0 a xs:=by assumption) (hm:0≤m∧m<xs.length:=by omega) (hl:(Cells.enc (xs[m.toNat]?.getD default)).length=k:=by exact rfl) (hn:Nat.ble (d+1) B.n=true:=by exact rfl) (hB:uI l.toArray listed wr q []=true:=by kernel_rfl) :
 Gm P l.toArray (f+1) listed wr H0 G0 B ⟨e,D,H,G⟩ K:=gQ q [] ho (pN h1 hx (hs.elem hm) hl) h hn hB
theorem Gm.lo [Inhabited α] {T:TypeId} {x:Operand} {E:TypeId} {a:Option Addr} {c:Nat} {xs:List α} {junk:List Value} {m:Int} {v:Value} (q t k:Nat) (h1:sY P T=true) (h:Gm P l.toArray f (listed.setIfInBounds q true) wr H0 G0 B ⟨(d,v) :: e,D,H,G⟩ K) (ho:l[q]?=some ⟨some d,.load T x,ty,pos,after,none⟩:=by exact rfl)
 (hx:e.ev x=some (.pointer (some ⟨ab a,0+m.toNat*Cells.sz α+k,none⟩)):=by exact rfl) (ht:(H0.only [t]).get t=some (a.map (·.block),rP E xs junk):=by exact rfl) (hw:OwnA a c xs junk:=by assumption) (hm:0≤m∧m<xs.length:=by omega) (hk:Nat.ble (k+1) (Cells.sz α)=true:=by exact rfl)
 (hv:(Cells.enc (xs[m.toNat]?.getD default))[k]?=some v:=by exact rfl) (hn:Nat.ble (d+1) B.n=true:=by exact rfl) (hB:uI l.toArray listed wr q [t]=true:=by kernel_rfl):Gm P l.toArray (f+1) listed wr H0 G0 B ⟨e,D,H,G⟩ K:=gQ q [t] ho (Ac t k h1 hx ht hw hm hk hv) h hn hB
abbrev lD:=@Gm.lo
theorem Wl.ap {s x:Operand} {T E bytes:Nat} {zs:List Value} {a ad:Option Addr} {c c2:Nat} {xs ys:List α} {junk:List Value} (t:Nat) (hT:rH P T E (Cells.sz α)) (hE:ElemOf P E (Cells.sz α) bytes zs) (hsrc:Src H G ad ys)
 (h:∀ a' c' junk',OwnA a' c' (xs++ys) junk'→Wl P ops rest B ⟨(d,.slice a' (xs++ys).length c') :: e,D,(t,a'.map (·.block),rP E (xs++ys) junk') :: H,G⟩ K) (hs:e.ev s=some (.slice a xs.length c):=by exact rfl) (hx:e.ev x=some (.slice ad ys.length c2):=by exact rfl)
 (ht:H.get t=some (a.map (·.block),rP E xs junk):=by exact rfl) (ho:OwnA a c xs junk:=by first | assumption | exact gF | exact iG rV) (hb:(xs.length+ys.length)*bytes≤140737488355328:=by first | omega | (simp only [aQ,bH,cE,maxLen];omega)) (hl:xs.length+ys.length≤maxLen:=by first | omega | (simp only [aQ,bH,cE,maxLen];omega)) (hn:Nat.ble (d+1) B.n=true:=by exact rfl) :
 Wl P ops (⟨some d,.call { callee:=.builtin .append,args:=#[s,x],argTypes:=#[T,T] },ty,pos,after,none⟩ :: rest) B ⟨e,D,H,G⟩ K:=lL t hn hT hE hs hx ht ho hsrc hb hl h
end
section
variable {P:Program} {B:Bs} {e:Env} {D:List Deferred} {H H0:Hp} {G G0:Imm} {K:Act→World→Prop} {l:List Oper} {f:Nat} {listed:Array Bool} {wr:List (Nat×Nat)} {Q:Exit→Act→World→Prop} {ops:Array Oper} {p:Prop} [Decidable p]
theorem JS {ι:Type} {I:ι→St} {φ:ι→Prop} {μ:ι→Nat} {m:Nat} (j:ι) (hφ:φ j) (hμ:μ j<m) (hI:I j=⟨(I j).e,D,(I j).H,G⟩:=by exact rfl) (he:e.sub (I j).e:=by repeat (first | exact trivial | refine ⟨rfl,?_⟩)) (hH:H.sub (I j).H:=by repeat (first | exact trivial | refine ⟨rfl,?_⟩)):Ar (Exit.then (zV B I φ μ m) Q) .normal B ⟨e,D,H,G⟩:=Ar.again j hφ hμ hI he hH
abbrev dX:=@JS
theorem Ar.mt {ι:Type} {I:ι→St} {φ:ι→Prop} (j:ι) (hφ:φ j) (hI:I j=⟨(I j).e,D,(I j).H,G⟩:=by exact rfl) (he:e.sub (I j).e:=by repeat (first | exact trivial | refine ⟨rfl,?_⟩)) (hH:H.sub (I j).H:=by repeat (first | exact trivial | refine ⟨rfl,?_⟩)):Ar (Exit.then (DK B I φ) Q) .normal B ⟨e,D,H,G⟩:=Ab j hφ hI he hH
theorem Wc.lp {ι:Type} {r:Option Nat} {c:Code} (I:ι→Env×Hp) (φ:ι→Prop) (μ:ι→Nat) (i0:ι) (h0:φ i0) (hb:∀ i,φ i→Wc r P c B ⟨(I i).1,D,(I i).2,G⟩ (Exit.then (zV B (fun i=>⟨(I i).1,D,(I i).2,G⟩) φ μ (μ i)) Q)) (he:e.sub (I i0).1:=by repeat (first | exact trivial | refine ⟨rfl,?_⟩)) (hH:H.sub (I i0).2:=by repeat (first | exact trivial | refine ⟨rfl,?_⟩)) :
 Wc r P (.loop c) B ⟨e,D,H,G⟩ Q:=Wc.loop I φ μ i0 h0 he hH hb
abbrev iE:=@Wc.lp
theorem Wc.lg {ι:Type} {r:Option Nat} {c:Code} (I:ι→Env×Hp) (g:ι→Imm) (φ:ι→Prop) (μ:ι→Nat) (i0:ι) (h0:φ i0) (hb:∀ i,φ i→Wc r P c B ⟨(I i).1,D,(I i).2,g i⟩ (Exit.then (zV B (fun i=>⟨(I i).1,D,(I i).2,g i⟩) φ μ (μ i)) Q)) (hg:G=g i0:=by exact rfl) (he:e.sub (I i0).1:=by repeat (first | exact trivial | refine ⟨rfl,?_⟩)) (hH:H.sub (I i0).2:=by repeat (first | exact trivial | refine ⟨rfl,?_⟩)) :
 Wc r P (.loop c) B ⟨e,D,H,G⟩ Q:=nB I g φ μ i0 h0 hg he hH hb
theorem JT (t:Nat) (h:Wl P ops l B ⟨(t,.bool true) :: e,D,H,G⟩ K) (he:e.get t=some (.bool (decide p)):=by exact rfl) (hp:p:=by first | assumption | omega):Wl P ops l B ⟨e,D,H,G⟩ K:=Pu t he hp h
theorem Wl.ne (t:Nat) (h:Wl P ops l B ⟨(t,.bool false) :: e,D,H,G⟩ K) (he:e.get t=some (.bool (decide p)):=by exact rfl) (hp:¬p:=by first | assumption | omega):Wl P ops l B ⟨e,D,H,G⟩ K:=qE t he hp h
abbrev qF:=@Wl.ne
theorem Wl.o1 {o:Oper} (i:Nat) (h:Wl P l.toArray [o] B ⟨e,D,H,G⟩ (xT P l.toArray f (listed.setIfInBounds i true) wr H0 G0 K)) (hH:H.sub (H0.live wr listed):=by repeat (first | exact trivial | refine ⟨rfl,?_⟩)) (hG:G0.le G:=by first | exact cC _ | repeat (first | assumption | refine bI ?_ qY)) (hr:Region.ready .any l.toArray listed=[i]:=by kernel_rfl) (ho:l[i]?=some o:=by exact rfl) :
 Wl P l.toArray [] B ⟨e,D,H,G⟩ (xT P l.toArray (f+1) listed wr H0 G0 K):=eU (gC i h hH hG hr ho)
abbrev cT:=@Wl.o1
theorem JU {x:Exit} (h:Ar Q x B ⟨e,D,H,G⟩) (hr:Region.ready .any ops listed=[]:=by kernel_rfl) (hH:H.sub (H0.live wr listed):=by repeat (first | exact trivial | refine ⟨rfl,?_⟩)) (hG:G0.le G:=by first | exact cC _ | repeat (first | assumption | refine bI ?_ qY)):Wl P ops [] B ⟨e,D,H,G⟩ (xT P ops 0 listed wr H0 G0 (Q x)):=eU (eI h hr hH hG)
abbrev jC:=@JU
theorem JV [Tab P] {r:Option Nat} {id:Nat} {e':Env} {ob:Prop} (ts:List Nat) (wr:List (Nat×Nat)) (hm:P.follows .mixedOrders=true) (steps:List (List Nat)) {f:Nat} (h:Gm P l.toArray f (Nl steps (Array.replicate l.length false)) wr (H.only ts) G B ⟨e',D,H,G⟩ (Q .normal)) (hf:l.length=DR steps f:=by exact rfl)
 (hr:JH P B.n l (H.only ts) steps e=some (e',ob):=by exact rfl) (hob:ob:=by (repeat refine And.intro GF ?_);exact trivial) (hB:Af l.toArray wr steps (Array.replicate l.length false)=true:=by kernel_rfl) (hd:l.all sA=true:=by exact rfl) :
 Wc r P (.region id l.toArray true) B ⟨e,D,H,G⟩ Q:=mN ts wr hm hd (by have:=Lk hr hob hB h;rw [←hf] at this;exact this)
abbrev eZ:=@JV
end
theorem D0 {P:Program} {G:Imm} {f:FuncId} {fn:Func} {c:Code} {n:Nat} {args:List Value} {Hi:Hp} {post:Value→Imm→Hp→Prop} (hf:P.funcs[f]?=some fn) (hn:fn.ntmps=n) (h:∀ w,Wc none P c ⟨n,w,Hi.has,G⟩ ⟨sU 0 args,[],Hi,G⟩ (Ua P fn G Hi w post)) (hb:fn.body=some c:=by exact rfl)
 (hl:Nat.ble args.length n=true:=by exact rfl):Does P f args G Hi post:=fG hf hb hn hl h
section
variable {P:Program} {fn:Func} {G0:Imm} {Hi:Hp} {w0:World} {post:Value→Imm→Hp→Prop} {n:Nat} {e:Env} {H:Hp} {G:Imm} {x:Exit} {t1 t2:Nat} {v1 v2:Value}
theorem Ar.p1 (L:List Nat) (hp:post v1 G (H.only L)) (hx:x=.normal∨x=.ret:=by exact .inr rfl) (hres:fn.results=#[.tmp t1]:=by exact rfl) (h1:e.get t1=some v1:=by exact rfl):Ar (Ua P fn G0 Hi w0 post) x ⟨n,w0,Hi.has,G0⟩ ⟨e,[],H,G⟩:=
 eH hx hres (.tmp h1) (bN _ _) hp
abbrev pW:=@Ar.p1
theorem Ar.p2 (L:List Nat) (hp:post (.tuple #[v1,v2]) G (H.only L)) (hx:x=.normal∨x=.ret:=by exact .inr rfl) (hres:fn.results=#[.tmp t1,.tmp t2]:=by exact rfl) (h1:e.get t1=some v1:=by exact rfl) (h2:e.get t2=some v2:=by exact rfl):Ar (Ua P fn G0 Hi w0 post) x ⟨n,w0,Hi.has,G0⟩ ⟨e,[],H,G⟩:=
 oO hx hres (.tmp h1) (.tmp h2) (bN _ _) hp
abbrev qM:=@Ar.p2
end
theorem Wc.i {P:Program} {r:Option Nat} {B:Bs} {S:St} {Q:Exit→Act→World→Prop} {c:Operand} {x y:Code} {p:Prop} [Decidable p] (ht:p→Wc r P x B S Q) (hf:¬p→Wc r P y B S Q) (hc:S.e.ev c=some (.bool (decide p)):=by exact rfl):Wc r P (.cond c x y) B S Q:=lZ hc ht hf
abbrev eX:=@Wc.i
end Go.Sl
namespace Go.Proofs.YtngphgeghfdjbaaGreatDoor.T
open Go Go.Sl
theorem u2:Tryz.prog.underlying 2=some (.int .i64):=rD
theorem one3:sY Tryz.prog 3=true:=rD
theorem zero3:ZeroOf Tryz.prog 3 [.int .i64 0]:=jS rD
theorem el3:ElemOf Tryz.prog 3 1 8 [.int .i64 0]:=lW rD rfl
theorem u3:Tryz.prog.underlying 3=some (.int .i64):=rD
theorem u4:Tryz.prog.underlying 4=some .bool:=rD
theorem one5:sY Tryz.prog 5=true:=rD
theorem one22:sY Tryz.prog 22=true:=rD
theorem sl22:rH Tryz.prog 22 51 2:=⟨by kernel_rfl,by kernel_rfl⟩
theorem one23:sY Tryz.prog 23=true:=rD
theorem sl23:rH Tryz.prog 23 211 5:=⟨by kernel_rfl,by kernel_rfl⟩
theorem one24:sY Tryz.prog 24=true:=rD
theorem zero24:ZeroOf Tryz.prog 24 [.slice none 0 0]:=jS rD
theorem sl24:rH Tryz.prog 24 3 1:=⟨by kernel_rfl,by kernel_rfl⟩
theorem agg26:tX Tryz.prog 26 4=true:=rD
theorem size26:(Tryz.prog.info? 26).map (·.size)=some 4:=rD
theorem zero26:ZeroOf Tryz.prog 26 [.int .i64 0,.int .i64 0,.slice none 0 0,.slice none 0 0]:=jS rD
theorem el26:ElemOf Tryz.prog 26 4 64 [.int .i64 0,.int .i64 0,.slice none 0 0,.slice none 0 0]:=lW rD rfl
theorem agg28:tX Tryz.prog 28 15=true:=rD
theorem zero28:ZeroOf Tryz.prog 28 [.int .i64 0,.int .i64 0,.slice none 0 0,.int .i64 0,.int .i64 0,.slice none 0 0,.slice none 0 0,.int .i64 0,.int .i64 0,.slice none 0 0,.slice none 0 0,.int .i64 0,.int .i64 0,.slice none 0 0,.slice none 0 0]:=jS rD
theorem one32:sY Tryz.prog 32=true:=rD
theorem agg37:tX Tryz.prog 37 4=true:=rD
theorem zero37:ZeroOf Tryz.prog 37 [.int .i64 0,.int .i64 0,.int .i64 0,.int .i64 0]:=jS rD
theorem st37:StructOf Tryz.prog 37 [(0,1),(1,1),(2,1),(3,1)] [.int .i64 0,.int .i64 0,.int .i64 0,.int .i64 0]:=kS (Tryz.prog.fieldsOf 37) rD rD rD
theorem ai37:xW Tryz.prog 37 4:=⟨by kernel_rfl,by kernel_rfl,by kernel_rfl,by kernel_rfl⟩
theorem one39:sY Tryz.prog 39=true:=rD
theorem size39:(Tryz.prog.info? 39).map (·.size)=some 1:=rD
theorem sl39:rH Tryz.prog 39 89 2:=⟨by kernel_rfl,by kernel_rfl⟩
theorem el39:ElemOf Tryz.prog 39 1 24 [.slice none 0 0]:=lW rD rfl
theorem agg51:tX Tryz.prog 51 2=true:=rD
theorem zero51:ZeroOf Tryz.prog 51 [.int .i64 0,.int .i64 0]:=jS rD
theorem el51:ElemOf Tryz.prog 51 2 16 [.int .i64 0,.int .i64 0]:=lW rD rfl
theorem st51:StructOf Tryz.prog 51 [(0,1),(1,1)] [.int .i64 0,.int .i64 0]:=kS (Tryz.prog.fieldsOf 51) rD rD rD
theorem ai51:xW Tryz.prog 51 2:=⟨by kernel_rfl,by kernel_rfl,by kernel_rfl,by kernel_rfl⟩
theorem sl86:rH Tryz.prog 86 39 1:=⟨by kernel_rfl,by kernel_rfl⟩
theorem sl87:rH Tryz.prog 87 166 1:=⟨by kernel_rfl,by kernel_rfl⟩
theorem agg89:tX Tryz.prog 89 2=true:=rD
theorem size89:(Tryz.prog.info? 89).map (·.size)=some 2:=rD
theorem zero89:ZeroOf Tryz.prog 89 [.bool false,.slice none 0 0]:=jS rD
theorem el89:ElemOf Tryz.prog 89 2 32 [.bool false,.slice none 0 0]:=lW rD rfl
theorem st89:StructOf Tryz.prog 89 [(0,1),(1,1)] [.bool false,.slice none 0 0]:=kS (Tryz.prog.fieldsOf 89) rD rD rD
theorem sl122:rH Tryz.prog 122 26 4:=⟨by kernel_rfl,by kernel_rfl⟩
theorem st127:StructOf Tryz.prog 127 [(0,15)] [.int .i64 0,.int .i64 0,.slice none 0 0,.int .i64 0,.int .i64 0,.slice none 0 0,.slice none 0 0,.int .i64 0,.int .i64 0,.slice none 0 0,.slice none 0 0,.int .i64 0,.int .i64 0,.slice none 0 0,.slice none 0 0]:=kS (Tryz.prog.fieldsOf 127) rD rD rD
theorem u165:Tryz.prog.underlying 165=some (.int .u64):=rD
theorem one166:sY Tryz.prog 166=true:=rD
theorem size166:(Tryz.prog.info? 166).map (·.size)=some 1:=rD
theorem el166:ElemOf Tryz.prog 166 1 4 [.int .u32 0]:=lW rD rfl
theorem u166:Tryz.prog.underlying 166=some (.int .u32):=rD
theorem sl199:rH Tryz.prog 199 203 5:=⟨by kernel_rfl,by kernel_rfl⟩
theorem agg203:tX Tryz.prog 203 5=true:=rD
theorem zero203:ZeroOf Tryz.prog 203 [.int .i64 0,.int .i64 0,.slice none 0 0,.slice none 0 0,.nilFunc]:=jS rD
theorem el203:ElemOf Tryz.prog 203 5 72 [.int .i64 0,.int .i64 0,.slice none 0 0,.slice none 0 0,.nilFunc]:=lW rD rfl
theorem st203:StructOf Tryz.prog 203 [(0,4),(4,1)] [.int .i64 0,.int .i64 0,.slice none 0 0,.slice none 0 0,.nilFunc]:=kS (Tryz.prog.fieldsOf 203) rD rD rD
theorem ar205:ArrayOf Tryz.prog 205 3 1 [.pointer none,.pointer none,.pointer none]:=ArrayOf.of 150 rD rD rD
theorem agg211:tX Tryz.prog 211 5=true:=rD
theorem zero211:ZeroOf Tryz.prog 211 [.int .i64 0,.int .i64 0,.int .i64 0,.int .i64 0,.int .i64 0]:=jS rD
theorem el211:ElemOf Tryz.prog 211 5 40 [.int .i64 0,.int .i64 0,.int .i64 0,.int .i64 0,.int .i64 0]:=lW rD rfl
theorem st251:StructOf Tryz.prog 251 [(0,1),(1,1),(2,1)] [.int .i64 0,.int .i64 0,.slice none 0 0]:=kS (Tryz.prog.fieldsOf 251) rD rD rD
theorem ar279:ArrayOf Tryz.prog 279 2 1 [.int .i64 0,.int .i64 0]:=ArrayOf.of 3 rD rD rD
theorem agg352:tX Tryz.prog 352 5=true:=rD
theorem zero352:ZeroOf Tryz.prog 352 [.nilFunc,.nilFunc,.nilFunc,.nilFunc,.nilFunc]:=jS rD
theorem st352:StructOf Tryz.prog 352 [(0,1),(1,1),(2,1),(3,1),(4,1)] [.nilFunc,.nilFunc,.nilFunc,.nilFunc,.nilFunc]:=kS (Tryz.prog.fieldsOf 352) rD rD rD
theorem one361:sY Tryz.prog 361=true:=rD
theorem fn42:uE Tryz.prog 42:=⟨Tryz.f42,Tryz.func42,rfl,by kernel_rfl⟩
theorem fn55:uE Tryz.prog 55:=⟨Tryz.f55,Tryz.func55,rfl,by kernel_rfl⟩
theorem fn65:uE Tryz.prog 65:=⟨Tryz.f65,Tryz.func65,rfl,by kernel_rfl⟩
theorem fn85:uE Tryz.prog 85:=⟨Tryz.f85,Tryz.func85,rfl,by kernel_rfl⟩
theorem fn159:uE Tryz.prog 159:=⟨Tryz.f159,Tryz.func159,rfl,by kernel_rfl⟩
theorem fn166:uE Tryz.prog 166:=⟨Tryz.f166,Tryz.func166,rfl,by kernel_rfl⟩
theorem fn168:uE Tryz.prog 168:=⟨Tryz.f168,Tryz.func168,rfl,by kernel_rfl⟩
theorem fn170:uE Tryz.prog 170:=⟨Tryz.f170,Tryz.func170,rfl,by kernel_rfl⟩
theorem fn171:uE Tryz.prog 171:=⟨Tryz.f171,Tryz.func171,rfl,by kernel_rfl⟩
theorem fn252:uE Tryz.prog 252:=⟨Tryz.f252,Tryz.func252,rfl,by kernel_rfl⟩
theorem fn269:uE Tryz.prog 269:=⟨Tryz.f269,Tryz.func269,rfl,by kernel_rfl⟩
theorem fn293:uE Tryz.prog 293:=⟨Tryz.f293,Tryz.func293,rfl,by kernel_rfl⟩
theorem fn294:uE Tryz.prog 294:=⟨Tryz.f294,Tryz.func294,rfl,by kernel_rfl⟩
theorem fn296:uE Tryz.prog 296:=⟨Tryz.f296,Tryz.func296,rfl,by kernel_rfl⟩
theorem fn298:uE Tryz.prog 298:=⟨Tryz.f298,Tryz.func298,rfl,by kernel_rfl⟩
theorem fn299:uE Tryz.prog 299:=⟨Tryz.f299,Tryz.func299,rfl,by kernel_rfl⟩
theorem fn318:uE Tryz.prog 318:=⟨Tryz.f318,Tryz.func318,rfl,by kernel_rfl⟩
theorem fn335:uE Tryz.prog 335:=⟨Tryz.f335,Tryz.func335,rfl,by kernel_rfl⟩
theorem mixed:Tryz.prog.follows .mixedOrders=true:=rD
end Go.Proofs.YtngphgeghfdjbaaGreatDoor.T
namespace Go.Proofs.YtngphgeghfdjbaaGreatDoor
open Go Go.Sl
instance:Tab Tryz.prog where
 fn:=[16,17,18,19,25,30,32,33,34,35,40,42,43,48,55,56,57,58,65,69,70,80,84,86,92,96,97,98,99,100,109,110,120,122,123,124,125,146,147,150,151,158,159,163,164,165,166,167,169,172,173,174,175,184,198,202,203,204,205,206,207,208,209,210,211,212,213,214,215,216,222,226,247,248,249,250,251,253,254,255,290,291,292,295,297,300,316,317,318,319]
 fnP:=.of rD
 one:=[3,4,22,23,24,32,39,87,201,306,348,349,350]
 agg:=[(26,4),(28,15),(37,4),(51,2),(89,2),(203,5),(211,5),(352,5)]
 sl:=[22,23,24,39,86,87,122,199]
 fa:=[(26,0,0),(26,1,1),(26,2,2),(26,3,3),(28,0,0),(28,1,1),(28,2,2),(28,3,3),(28,4,7),(28,5,11),(37,0,0),(37,1,1),(37,2,2),(37,3,3),(51,0,0),(51,1,1),(89,0,0),(89,1,1),(127,0,0),(203,0,0),(203,1,4),(211,0,0),(211,1,1),(211,2,2),(211,3,3),(211,4,4),(352,0,0),(352,1,1),(352,2,2),(352,3,3),(352,4,4)]
 oneP:=.of rD
 aggP:=.of rD
 slP:=.of rD
 faP:=⟨fun _ _ _=>by kernel_rfl,fun _ _ _=>by kernel_rfl,fun _ _ _=>by kernel_rfl,fun _ _ _=>by kernel_rfl,fun _ _ _=>by kernel_rfl,fun _ _ _=>by kernel_rfl,fun _ _ _=>by kernel_rfl,fun _ _ _=>by kernel_rfl,fun _ _ _=>by kernel_rfl,fun _ _ _=>by kernel_rfl,fun _ _ _=>by kernel_rfl,fun _ _ _=>by kernel_rfl,fun _ _ _=>by kernel_rfl,fun _ _ _=>by kernel_rfl,fun _ _ _=>by kernel_rfl,fun _ _ _=>by kernel_rfl,fun _ _ _=>by kernel_rfl,fun _ _ _=>by kernel_rfl,fun _ _ _=>by kernel_rfl,fun _ _ _=>by kernel_rfl,fun _ _ _=>by kernel_rfl,fun _ _ _=>by kernel_rfl,fun _ _ _=>by kernel_rfl,fun _ _ _=>by kernel_rfl,fun _ _ _=>by kernel_rfl,fun _ _ _=>by kernel_rfl,fun _ _ _=>by kernel_rfl,fun _ _ _=>by kernel_rfl,fun _ _ _=>by kernel_rfl,fun _ _ _=>by kernel_rfl,fun _ _ _=>by kernel_rfl,trivial⟩
end Go.Proofs.YtngphgeghfdjbaaGreatDoor
namespace Go.Proofs.YtngphgeghfdjbaaGreatDoor.T
open Go Go.Sl
theorem ar395:ArrayOf Tryz.prog 395 64 1 (List.replicate 64 (.int .u8 0)):=ArrayOf.of 5 rD rD rD
end Go.Proofs.YtngphgeghfdjbaaGreatDoor.T
namespace Go.Proofs.YtngphgeghfdjbaaGreatDoor
open Go Go.Sl
def Ur (c:Int):Int:=if c=2 then 1 else if c=4 then 2 else if c=8 then 3 else if c=16 then 4 else if c=32 then 5 else if c=64 then 6 else if c=128 then 7 else if c=256 then 8 else if c=512 then 9 else 0
def Sk:List Value:=[0,1,56,2,57,49,28,3,61,58,42,50,38,29,17,4,62,47,59,36,45,43,51,22,53,39,33,30,24,18,12,5,63,55,48,27,60,41,37,16,46,35,44,21,52,32,23,11,54,26,40,15,34,20,31,10,25,14,19,9,13,8,7,6].map fun n=>.int .u8 n
def TabOk (G:Imm):Prop:=∀ k v,Sk[k]?=some v→G.cell 1 k=some v
theorem TabOk.cell {G:Imm} (h:TabOk G) (k:Nat) (v:Value) (hv:Sk[k]?=some v):G.cell 1 k=some v:=h k v hv
theorem Us {c:Int} (h:Ur c≠0):c=2∨c=4∨c=8∨c=16∨c=32∨c=64∨c=128∨c=256∨c=512:=by
 unfold Ur at h
 repeat' split at h
 all_goals omega
theorem OH (G:Imm) (hT:TabOk G) (c:Int) (h:Ur c≠0):Does Tryz.prog 269 [.int .u64 c] G [] (fun v G' Ho=>v=.int .i64 (Ur c)∧G'=G∧Ho=[]):=by
 refine D0 Tryz.func269 Tryz.ntmps269 fun w=>?_
 rcases Us h with rfl | rfl | rfl | rfl | rfl | rfl | rfl | rfl | rfl
 · have hcell:=hT.cell 1 (.int .u8 1) rfl
   refine cO ?_
   refine bX rfl ?_
   refine aC 1 [] ?_
   refine cY ?_
   refine bW ?_
   refine cO ?_
   refine cO ?_
   refine bX rfl ?_
   refine aC 2 [] ?_
   refine cY ?_
   refine bW ?_
   refine mD rfl sW ?_
   refine kF ?_
   refine bW ?_
   refine cO ?_
   refine bX rfl ?_
   refine aC 2 [] ?_
   refine aP (mA rfl) ?_
   refine aP (kW rfl rfl) ?_
   refine aP (kG rfl rfl) ?_
   refine aP (nC rfl rfl qX) ?_
   refine kA 10 rfl (show _=Value.int .u64 1 by kernel_rfl) ?_
   refine aP (gN 1 T.ar395 rfl rfl rfl rfl) ?_
   refine aP (dH T.one5 rfl qY) ?_
   refine aP (jY rfl T.u3 rfl) ?_
   refine aC 1 [] ?_
   refine cY ?_
   refine bW ?_
   refine lM ?_
   refine cI ?_
   exact ⟨rfl,rfl,rfl⟩
 · have hcell:=hT.cell 3 (.int .u8 2) rfl
   refine cO ?_
   refine bX rfl ?_
   refine aC 1 [] ?_
   refine cY ?_
   refine bW ?_
   refine cO ?_
   refine cO ?_
   refine bX rfl ?_
   refine aC 2 [] ?_
   refine cY ?_
   refine bW ?_
   refine mD rfl sW ?_
   refine kF ?_
   refine bW ?_
   refine cO ?_
   refine bX rfl ?_
   refine aC 2 [] ?_
   refine aP (mA rfl) ?_
   refine aP (kW rfl rfl) ?_
   refine aP (kG rfl rfl) ?_
   refine aP (nC rfl rfl qX) ?_
   refine kA 10 rfl (show _=Value.int .u64 3 by kernel_rfl) ?_
   refine aP (gN 3 T.ar395 rfl rfl rfl rfl) ?_
   refine aP (dH T.one5 rfl qY) ?_
   refine aP (jY rfl T.u3 rfl) ?_
   refine aC 1 [] ?_
   refine cY ?_
   refine bW ?_
   refine lM ?_
   refine cI ?_
   exact ⟨rfl,rfl,rfl⟩
 · have hcell:=hT.cell 7 (.int .u8 3) rfl
   refine cO ?_
   refine bX rfl ?_
   refine aC 1 [] ?_
   refine cY ?_
   refine bW ?_
   refine cO ?_
   refine cO ?_
   refine bX rfl ?_
   refine aC 2 [] ?_
   refine cY ?_
   refine bW ?_
   refine mD rfl sW ?_
   refine kF ?_
   refine bW ?_
   refine cO ?_
   refine bX rfl ?_
   refine aC 2 [] ?_
   refine aP (mA rfl) ?_
   refine aP (kW rfl rfl) ?_
   refine aP (kG rfl rfl) ?_
   refine aP (nC rfl rfl qX) ?_
   refine kA 10 rfl (show _=Value.int .u64 7 by kernel_rfl) ?_
   refine aP (gN 7 T.ar395 rfl rfl rfl rfl) ?_
   refine aP (dH T.one5 rfl qY) ?_
   refine aP (jY rfl T.u3 rfl) ?_
   refine aC 1 [] ?_
   refine cY ?_
   refine bW ?_
   refine lM ?_
   refine cI ?_
   exact ⟨rfl,rfl,rfl⟩
 · have hcell:=hT.cell 15 (.int .u8 4) rfl
   refine cO ?_
   refine bX rfl ?_
   refine aC 1 [] ?_
   refine cY ?_
   refine bW ?_
   refine cO ?_
   refine cO ?_
   refine bX rfl ?_
   refine aC 2 [] ?_
   refine cY ?_
   refine bW ?_
   refine mD rfl sW ?_
   refine kF ?_
   refine bW ?_
   refine cO ?_
   refine bX rfl ?_
   refine aC 2 [] ?_
   refine aP (mA rfl) ?_
   refine aP (kW rfl rfl) ?_
   refine aP (kG rfl rfl) ?_
   refine aP (nC rfl rfl qX) ?_
   refine kA 10 rfl (show _=Value.int .u64 15 by kernel_rfl) ?_
   refine aP (gN 15 T.ar395 rfl rfl rfl rfl) ?_
   refine aP (dH T.one5 rfl qY) ?_
   refine aP (jY rfl T.u3 rfl) ?_
   refine aC 1 [] ?_
   refine cY ?_
   refine bW ?_
   refine lM ?_
   refine cI ?_
   exact ⟨rfl,rfl,rfl⟩
 · have hcell:=hT.cell 31 (.int .u8 5) rfl
   refine cO ?_
   refine bX rfl ?_
   refine aC 1 [] ?_
   refine cY ?_
   refine bW ?_
   refine cO ?_
   refine cO ?_
   refine bX rfl ?_
   refine aC 2 [] ?_
   refine cY ?_
   refine bW ?_
   refine mD rfl sW ?_
   refine kF ?_
   refine bW ?_
   refine cO ?_
   refine bX rfl ?_
   refine aC 2 [] ?_
   refine aP (mA rfl) ?_
   refine aP (kW rfl rfl) ?_
   refine aP (kG rfl rfl) ?_
   refine aP (nC rfl rfl qX) ?_
   refine kA 10 rfl (show _=Value.int .u64 31 by kernel_rfl) ?_
   refine aP (gN 31 T.ar395 rfl rfl rfl rfl) ?_
   refine aP (dH T.one5 rfl qY) ?_
   refine aP (jY rfl T.u3 rfl) ?_
   refine aC 1 [] ?_
   refine cY ?_
   refine bW ?_
   refine lM ?_
   refine cI ?_
   exact ⟨rfl,rfl,rfl⟩
 · have hcell:=hT.cell 63 (.int .u8 6) rfl
   refine cO ?_
   refine bX rfl ?_
   refine aC 1 [] ?_
   refine cY ?_
   refine bW ?_
   refine cO ?_
   refine cO ?_
   refine bX rfl ?_
   refine aC 2 [] ?_
   refine cY ?_
   refine bW ?_
   refine mD rfl sW ?_
   refine kF ?_
   refine bW ?_
   refine cO ?_
   refine bX rfl ?_
   refine aC 2 [] ?_
   refine aP (mA rfl) ?_
   refine aP (kW rfl rfl) ?_
   refine aP (kG rfl rfl) ?_
   refine aP (nC rfl rfl qX) ?_
   refine kA 10 rfl (show _=Value.int .u64 63 by kernel_rfl) ?_
   refine aP (gN 63 T.ar395 rfl rfl rfl rfl) ?_
   refine aP (dH T.one5 rfl qY) ?_
   refine aP (jY rfl T.u3 rfl) ?_
   refine aC 1 [] ?_
   refine cY ?_
   refine bW ?_
   refine lM ?_
   refine cI ?_
   exact ⟨rfl,rfl,rfl⟩
 · have hcell:=hT.cell 62 (.int .u8 7) rfl
   refine cO ?_
   refine bX rfl ?_
   refine aC 1 [] ?_
   refine cY ?_
   refine bW ?_
   refine cO ?_
   refine cO ?_
   refine bX rfl ?_
   refine aC 2 [] ?_
   refine cY ?_
   refine bW ?_
   refine mD rfl sW ?_
   refine kF ?_
   refine bW ?_
   refine cO ?_
   refine bX rfl ?_
   refine aC 2 [] ?_
   refine aP (mA rfl) ?_
   refine aP (kW rfl rfl) ?_
   refine aP (kG rfl rfl) ?_
   refine aP (nC rfl rfl qX) ?_
   refine kA 10 rfl (show _=Value.int .u64 62 by kernel_rfl) ?_
   refine aP (gN 62 T.ar395 rfl rfl rfl rfl) ?_
   refine aP (dH T.one5 rfl qY) ?_
   refine aP (jY rfl T.u3 rfl) ?_
   refine aC 1 [] ?_
   refine cY ?_
   refine bW ?_
   refine lM ?_
   refine cI ?_
   exact ⟨rfl,rfl,rfl⟩
 · have hcell:=hT.cell 61 (.int .u8 8) rfl
   refine cO ?_
   refine bX rfl ?_
   refine aC 1 [] ?_
   refine cY ?_
   refine bW ?_
   refine cO ?_
   refine cO ?_
   refine bX rfl ?_
   refine aC 2 [] ?_
   refine cY ?_
   refine bW ?_
   refine mD rfl sW ?_
   refine kF ?_
   refine bW ?_
   refine cO ?_
   refine bX rfl ?_
   refine aC 2 [] ?_
   refine aP (mA rfl) ?_
   refine aP (kW rfl rfl) ?_
   refine aP (kG rfl rfl) ?_
   refine aP (nC rfl rfl qX) ?_
   refine kA 10 rfl (show _=Value.int .u64 61 by kernel_rfl) ?_
   refine aP (gN 61 T.ar395 rfl rfl rfl rfl) ?_
   refine aP (dH T.one5 rfl qY) ?_
   refine aP (jY rfl T.u3 rfl) ?_
   refine aC 1 [] ?_
   refine cY ?_
   refine bW ?_
   refine lM ?_
   refine cI ?_
   exact ⟨rfl,rfl,rfl⟩
 have hcell:=hT.cell 59 (.int .u8 9) rfl
 refine cO ?_
 refine bX rfl ?_
 refine aC 1 [] ?_
 refine cY ?_
 refine bW ?_
 refine cO ?_
 refine cO ?_
 refine bX rfl ?_
 refine aC 2 [] ?_
 refine cY ?_
 refine bW ?_
 refine mD rfl sW ?_
 refine kF ?_
 refine bW ?_
 refine cO ?_
 refine bX rfl ?_
 refine aC 2 [] ?_
 refine aP (mA rfl) ?_
 refine aP (kW rfl rfl) ?_
 refine aP (kG rfl rfl) ?_
 refine aP (nC rfl rfl qX) ?_
 refine kA 10 rfl (show _=Value.int .u64 59 by kernel_rfl) ?_
 refine aP (gN 59 T.ar395 rfl rfl rfl rfl) ?_
 refine aP (dH T.one5 rfl qY) ?_
 refine aP (jY rfl T.u3 rfl) ?_
 refine aC 1 [] ?_
 refine cY ?_
 refine bW ?_
 refine lM ?_
 refine cI ?_
 exact ⟨rfl,rfl,rfl⟩
end Go.Proofs.YtngphgeghfdjbaaGreatDoor
namespace Go.Sl
open Go Go.ChangeShapes Go.WideShapes Go.RowKit
def uQ (W:World):Imm:=fun b=>W.heap[b]?
theorem JW (W:World):HoldH [] (uQ W) W:=
 ⟨fun t b o h=>by simp [Hp.get] at h,fun t t' b o o' h=>by simp [Hp.get] at h,fun b o h=>h,fun t b o h=>by simp [Hp.get] at h⟩
theorem Ut {W W':World} (h:Upd (Hp.has []) W W'):Go.RowKit.Below W.heap.size W W':=
 ⟨h.os,h.tape,h.output,h.size,fun k hk=>h.same k hk (fun ⟨t,o,hx⟩=>by simp [Hp.get] at hx)⟩
section
variable {H:Type} {enc:TypeId×Value→H} {P:Program}
theorem yY (hl:laidOutB P=true) {W W':World} {sp':Nat→Bool}:∀ {ts:List TypeId} {vs:List Value} {ds:List (DataW H)} {ps:List MemPlace},(ts.all fun t=>P.readableRec t && decide (t<P.types.size))=true→
 DataW.TrodAll enc P W 0 (fun _=>true) true ts vs ds ps→(∀ p∈ps,W.sameAt W' p)→(∀ p∈ps,sp' p.block=true)→DataW.TrodAll enc P W' 0 sp' true ts vs ds ps
 | [],_,_,_,_,h,_,_=>by
   obtain ⟨rfl,rfl,rfl⟩:=trodAll_nil h
   exact trodAll_mk0
 | t :: ts,_,_,_,hr,h,hs,hp=>by
   obtain ⟨v,vs,d,ds,p,q,rfl,rfl,rfl,h1,h2⟩:=trodAll_cons h
   simp only [jA,aA,aS] at hr
   exact ⟨p,q,WideElems.Trod_stays hl hr.1.1 hr.1.2 h1 (fun x hx=>hs x (by simp [hx])) (fun x hx=>hp x (by simp [hx])),
    yY hl hr.2 h2 (fun x hx=>hs x (by simp [hx])) (fun x hx=>hp x (by simp [hx])),rfl⟩
theorem Db {w:World} {base:Nat} {sp:Nat→Bool} {hd:Bool}:∀ {ts:List TypeId} {vs:List Value} {ds:List (DataW H)} {ps:List MemPlace},DataW.TrodAll enc P w base sp hd ts vs ds ps→ds.length=ts.length
 | [],_,_,_,h=>by obtain ⟨rfl,rfl,rfl⟩:=trodAll_nil h;rfl
 | t :: ts,_,_,_,h=>by
   obtain ⟨v,vs,d,ds,p,q,rfl,rfl,rfl,h1,h2⟩:=trodAll_cons h
   simp [Db h2]
theorem Uu {f:Func} {n:FuncId} {s:ChangeSpec} {tb:TypeId} {apart fresh handsOn again:Bool} (hl:laidOutB P=true) (hr:(f.params.toList.all fun t=>P.readableRec t && decide (t<P.types.size))=true) (hres:f.resultTypes=#[tb]) (hb:P.underlying tb=some .bool)
 (hv:s.vars=[]) (hs:∀ ds:List (DataW H),ds.length=f.params.toList.length→s.fn H ds={ results:=[.lit (.bool true)],args:=ds }) {W:World} {args:Array Value} {ds gs:List (DataW H)} {before:List MemPlace}
 (hW:DataW.Whole enc P f.params.toList s.vars apart W args.toList ds gs before) (hd:Does P n args.toList (uQ W) [] (fun v _ _=>v=.bool true)) :
 Calls P n args W fun e W'=>∃ v,e=.returned v∧s.post enc P f apart fresh handsOn again W args v W':=by
 refine (hd W (JW W)).mono fun e W' ⟨v,G',Ho,he,q1,q2,q3,q4,q5,hvv⟩=>⟨v,he,?_⟩
 subst hvv
 have hbel:=Ut q3
 have hW':=hW
 have hlt:=hW.lt
 obtain ⟨p,q,hA,hV,rfl,hz,hn⟩:=hW
 rw [hv] at hV
 obtain ⟨rfl,rfl⟩:=trodVars_none hV
 simp only [eN] at hW' hlt hz hn
 have hlen:=Db hA
 have hspec:=hs ds hlen
 have hres':∀ (b:Nat) (sp:Nat→Bool) (hd:Bool),DataW.TrodAll enc P W' b sp hd f.resultTypes.toList ((Value.bool true).resultList f.resultTypes.size) (s.fn H (ds++[])).results []:=fun b sp hd=>by
  rw [eN,hspec,hres]
  exact ⟨[],[],shut_bool hb _,trodAll_mk0,rfl⟩
 have hargs:∀ sp:Nat→Bool,(∀ x∈p,sp x.block=true)→DataW.TrodAll enc P W' 0 sp true f.params.toList args.toList (s.fn H (ds++[])).args p:=fun sp hsp=>by
  rw [eN,hspec]
  exact yY hl hr hA (fun x hx=>hbel.same (hlt x hx)) hsp
 have hvars:∀ sp:Nat→Bool,DataW.TrodVars enc P W' sp s.vars (s.fn H (ds++[])).vars []:=fun sp=>by
  rw [eN,hspec,hv];exact rfl
 have hold:∀ x∈p,(fun b=>decide (b<W.heap.size)) x.block=true:=fun x hx=>by simpa using hlt x hx
 refine ⟨ds,[],p,[],p,[],by simpa using hW',hres' _ _ _,hargs _ hold,hvars _,World.keptBut_mono (fun x hx=>⟨hx,.inr (by simpa using hx)⟩) (hbel.frame _),fun _=>?_⟩
 refine ⟨ok_one hres rfl (okWide_bool_mk hb _),_,_,([]++p)++[],⟨[]++p,[],trodAll_append (hargs _ (fun _ _=>rfl)) (hres' _ _ _),hvars _,rfl,?_,?_⟩,?_⟩
 · intro b off hp
   have hp':MemPlace.cell b off∈p:=by simpa using hp
   rw [hbel.frozen (by exact hlt _ hp')]
   exact hz b off hp'
 · intro ha
   simpa using hn ha
 intro x hx _
 simpa using hx
end
theorem Fg {W:World} {b o:Nat} {v:Value} (h:W.cell? ⟨b,o,none⟩=some v):(uQ W).cell b o=some v:=by
 unfold World.cell? at h
 unfold Imm.cell uQ
 split at h
 · rename_i c t fz hb
   rw [show W.heap[b]?=some (.cells c t fz) from hb]
   exact h
 cases h
theorem Jl {W:World} {a:Addr} {v:Value} (h:W.cell? a=some v):a.spot=none:=by
 unfold World.cell? at h
 split at h
 · cases hs:a.spot with
   | none=>rfl
   | some x=>simp [hs] at h
 cases h
theorem Yc {a:Addr} {i:Nat} (h:(a.add i).spot=none) (ha:i=0∨True):a.add i=⟨a.block,a.off+i,none⟩:=by
 unfold Addr.add at h ⊢
 split
 · rename_i h0
   subst h0
   rw [aT rfl] at h
   cases a
   simp_all
 rfl
section
variable {H:Type} {enc:TypeId×Value→H} {P:Program} {α:Type} [Cells α] [Inhabited α]
def NP (enc:TypeId×Value→H) (P:Program) (W:World) (E:TypeId) (Good:α→DataW H→Prop):Prop:=
 ∀ (n:Nat) (cs:List Value) (x:DataW H×List MemPlace),DataW.trod enc P W 0 (fun _=>true) true n E cs=some x→∃ y:α,cs=Cells.enc y∧Good y x.1
theorem Ll {W:World} {b o:Nat} {xs:List α} (h:∀ i,i<xs.length→∀ j,j<Cells.sz α→W.cell? ⟨b,o+(i*Cells.sz α+j),none⟩=(Cells.enc (xs[i]?.getD default))[j]?) (h0:0<Cells.sz α):(uQ W).row b o (rO xs):=by
 intro q v hq
 have hlt:q<(rO xs).length:=(aJ.1 hq).1
 rw [rK] at hlt
 have h1:q=(q / Cells.sz α)*Cells.sz α+q % Cells.sz α:=by rw [gZ];exact (kH q _).symm
 have h2:q % Cells.sz α<Cells.sz α:=lN _ h0
 have h3:q / Cells.sz α<xs.length:=(oT h0).2 hlt
 have h4:=xU xs _ _ h3 h2
 rw [←h1,hq] at h4
 have h5:=h _ h3 _ h2
 rw [←h1,←h4] at h5
 exact Fg h5
theorem Fh {W:World} {T E:TypeId} {Good:α→DataW H→Prop} {fuel:Nat} {cs:List Value} {x:DataW H×List MemPlace} (ht:P.underlying T=some (.slice E)) (hsz:P.cellsOf E=Cells.sz α) (h0:0<Cells.sz α)
 (dec:NP (α:=α) enc P W E Good) (h:DataW.trod enc P W 0 (fun _=>true) true fuel T cs=some x) :
 ∃ (a:Option Addr) (cap:Nat) (xs:List α),cs=[.slice a xs.length cap]∧Arr (uQ W) a xs∧xs.length≤cap∧
  ((x.1=.nil∧xs=[])∨∃ l r,x.1=.slice l r∧l.length=xs.length∧∀ i,i<xs.length→∃ d,l[i]?=some d∧Good (xs[i]?.getD default) d):=by
 rcases Deep.open_slice ht h with ⟨rfl,rfl⟩ | ⟨a,len,cap,m,n,D,Pl,rfl,hb,hlc,hm,hmm,rfl,hx⟩
 · exact ⟨none,0,[],rfl,pQ _,aE _,.inl ⟨rfl,rfl⟩⟩
 have hml:m=cap:=by rw [hmm];simp
 have hel:∀ i,i<len→∃ y:α,W.cells? 0 (a.add (i*Cells.sz α)) (Cells.sz α)=some (Cells.enc y)∧Good y (D i):=fun i hi=>by
  obtain ⟨cs',h1,h2⟩:=hx i qX
  obtain ⟨y,rfl,hg⟩:=dec _ _ _ h2
  rw [hsz] at h1
  exact ⟨y,h1,hg⟩
 obtain ⟨Y,hY⟩:=Deep.choose_lt hel
 have hlen:((List.range len).map Y).length=len:=rV
 have hget:∀ i,i<len→((List.range len).map Y)[i]?.getD default=Y i:=fun i hi=>by simp [hi]
 refine ⟨some a,cap,(List.range len).map Y,by rw [hlen],⟨rK _,?_⟩,by rw [hlen];exact hlc,.inr ⟨_,_,rfl,by simp,fun i hi=>?_⟩⟩
 · rw [hlen]
   rcases iO len with h00 | hpos
   · exact .inl h00
   refine .inr ⟨a.block,a.off,?_,?_⟩
   · have h1:=(World.cells?_some (hY 0 hpos).1).2.2 0 h0
     rw [mQ] at h1
     have h2:∃ v,(Cells.enc (Y 0))[0]?=some v:=⟨_,aD (by rw [Cells.len];exact h0)⟩
     obtain ⟨v,hv⟩:=h2
     rw [hv] at h1
     have h3:=Jl h1
     cases a
     simp only [Addr.add] at h3
     simp_all
   refine Ll (fun i hi j hj=>?_) h0
   rw [hlen] at hi
   rw [hget i hi]
   have h1:=(World.cells?_some (hY i hi).1).2.2 j hj
   have h2:∃ v,(Cells.enc (Y i))[j]?=some v:=⟨_,aD (by rw [Cells.len];exact hj)⟩
   obtain ⟨v,hv⟩:=h2
   rw [hv] at h1 ⊢
   rw [Deep.add_add] at h1
   have h3:=Jl h1
   rw [Yc h3 (.inr trivial)] at h1
   exact h1
 rw [hlen] at hi
 rw [hget i hi]
 exact ⟨D i,by simp [hi],(hY i hi).2⟩
theorem DS {W:World} {E:TypeId} (he:P.underlying E=some (.int .i64)):NP (α:=Int) enc P W E (fun y d=>d=.lit (.int .i64 y)∧(Lit.int .i64 y).wf=true):=fun n cs x h=>by
 obtain ⟨k,rfl,rfl,hw⟩:=fB he h
 exact ⟨k,rfl,rfl,hw⟩
theorem Uv {W:World} {E Ti:TypeId} {f0 f1 f2 f3 f4:Field} (hi:P.underlying Ti=some (.int .i64)) (hs:P.underlying E=some (.struct #[f0,f1,f2,f3,f4]))
 (h0:f0.type=Ti∧f0.offset=0) (h1:f1.type=Ti∧f1.offset=1) (h2:f2.type=Ti∧f2.offset=2) (h3:f3.type=Ti∧f3.offset=3) (h4:f4.type=Ti∧f4.offset=4) (hc:P.cellsOf Ti=1) (hcE:P.cellsOf E=5) :
 NP (α:=Instr) enc P W E (fun _ _=>True):=fun n cs x h=>by
 obtain ⟨xs,m,_,_,hl,hxl,hf⟩:=nS hs h
 rw [hcE] at hl
 match cs,hl with
 | [v0,v1,v2,v3,v4],_ =>
   have hxl':xs.length=5:=hxl
   match xs,hxl' with
   | [y0,y1,y2,y3,y4],_ =>
     have k0:=hf 0 f0 rfl;have k1:=hf 1 f1 rfl;have k2:=hf 2 f2 rfl;have k3:=hf 3 f3 rfl;have k4:=hf 4 f4 rfl
     rw [h0.1,h0.2,hc] at k0;rw [h1.1,h1.2,hc] at k1;rw [h2.1,h2.2,hc] at k2;rw [h3.1,h3.2,hc] at k3;rw [h4.1,h4.2,hc] at k4
     obtain ⟨a0,e0,_,_⟩:=fB hi k0
     obtain ⟨a1,e1,_,_⟩:=fB hi k1
     obtain ⟨a2,e2,_,_⟩:=fB hi k2
     obtain ⟨a3,e3,_,_⟩:=fB hi k3
     obtain ⟨a4,e4,_,_⟩:=fB hi k4
     simp at e0 e1 e2 e3 e4
     exact ⟨⟨a0,a1,a2,a3,a4⟩,by rw [e0,e1,e2,e3,e4];rfl,trivial⟩
end
end Go.Sl
namespace Go.Proofs.YtngphgeghfdjbaaGreatDoor
open Go Go.Sl Go.ChangeShapes Go.WideShapes Go.RowKit Go.Joins
abbrev GG : List (String × DataW Unit) := [("math/bits.deBruijn32tab", Rows.laid_math_bits_deBruijn32tab), ("math/bits.deBruijn64tab", Rows.laid_math_bits_deBruijn64tab), ("unicode/utf8.acceptRanges", Rows.laid_unicode_utf8_acceptRanges), ("unicode/utf8.first", Rows.laid_unicode_utf8_first)]
def Ye:List Int:=[0,1,56,2,57,49,28,3,61,58,42,50,38,29,17,4,62,47,59,36,45,43,51,22,53,39,33,30,24,18,12,5,63,55,48,27,60,41,37,16,46,35,44,21,52,32,23,11,54,26,40,15,34,20,31,10,25,14,19,9,13,8,7,6]
theorem OI:Tryz.prog.underlying 4=some .bool:=rD
theorem Sm:laidOutB Tryz.prog=true:=rD
theorem own:ownKnob Tryz.prog.godebug=none:=rD
theorem JX : Tryz.prog.globalNamed "math/bits.deBruijn64tab" = some 1 := by kernel_rfl
theorem Yf:(Tryz.prog.globals[1]?).map (·.type)=some 395:=rD
theorem HF:Tryz.prog.underlying 395=some (.array 64 5):=rD
theorem OJ:Tryz.prog.underlying 5=some (.int .u8):=rD
theorem Yg:Tryz.prog.cellsOf 395=64:=rD
theorem HG:Tryz.prog.cellsOf 5=1:=rD
theorem JY {W : World} (h : laidMetH Tryz.prog GG W) : Lib.TabIs Tryz.prog W "math/bits.deBruijn64tab" .u8 Ye := by
 have h1 := h.filter (fun x => x.1 == "math/bits.deBruijn64tab")
 have e : GG.filter (fun x => x.1 == "math/bits.deBruijn64tab") = [("math/bits.deBruijn64tab", Rows.laid_math_bits_deBruijn64tab)] := by kernel_rfl
 rw [e] at h1
 exact Lib.tabIs_of_head (rest:=[]) JX Yf HF OJ HG Yg h1
theorem HH {W:World} (h:laidMetH Tryz.prog GG W):TabOk (uQ W):=fun k v hv=>by
 have hk:k<Ye.length:=by
  have:=(aJ.1 hv).1
  simpa [Sk,Ye] using this
 have h1:=(JY h).cell JX k hk
 have h2:=Fg h1
 rw [h2]
 have e:Sk=Ye.map fun n=>.int .u8 n:=rfl
 rw [e,cG,aD hk] at hv
 rw [←hv,List.getD_eq_getElem?_getD,aD hk];rfl
def Ln (cs:Array Value):Obj→Obj
 | .cells _ t frozen=>.cells cs t frozen
 | o=>o
def Bz (os:Os):World:=
 { World.holding Tryz.prog os ⟨#[],#[],[]⟩ with heap:=((((World.holding Tryz.prog os ⟨#[],#[],[]⟩).heap.modify 0 (Ln #[.int .u8 0,.int .u8 1,.int .u8 28,.int .u8 2,.int .u8 29,.int .u8 14,.int .u8 24,.int .u8 3,.int .u8 30,.int .u8 22,.int .u8 20,.int .u8 15,.int .u8 25,.int .u8 17,.int .u8 4,.int .u8 8,.int .u8 31,.int .u8 27,.int .u8 13,.int .u8 23,.int .u8 21,.int .u8 19,.int .u8 16,.int .u8 7,.int .u8 26,.int .u8 12,.int .u8 18,.int .u8 6,.int .u8 11,.int .u8 5,.int .u8 10,.int .u8 9])).modify 1 (Ln Sk.toArray)).modify 2 (Ln (Go.Pinned.utf8FirstZ.map fun (n:Nat)=>Value.int .u8 (n:Int)).toArray)).modify 3 (Ln #[.int .u8 128,.int .u8 191,.int .u8 160,.int .u8 191,.int .u8 128,.int .u8 159,.int .u8 144,.int .u8 191,.int .u8 128,.int .u8 143,.int .u8 0,.int .u8 0,.int .u8 0,.int .u8 0,.int .u8 0,.int .u8 0,.int .u8 0,.int .u8 0,.int .u8 0,.int .u8 0,.int .u8 0,.int .u8 0,.int .u8 0,.int .u8 0,.int .u8 0,.int .u8 0,.int .u8 0,.int .u8 0,.int .u8 0,.int .u8 0,.int .u8 0,.int .u8 0]) }
end Go.Proofs.YtngphgeghfdjbaaGreatDoor
namespace Go.Sl
open Go
def Lims (l:List U32):Prop:=∀ d∈l,0≤d.v∧d.v<4294967296
def qZ:List U32→Int
 | []=>0
 | d :: l=>d.v+4294967296*qZ l
def pb (n:Nat):Int:=((4294967296 ^ n:Nat):Int)
theorem Dt:pb 0=1:=rfl
theorem tZ (n:Nat):pb (n+1)=4294967296*pb n:=by unfold pb;rw [kX,gZ,cF];rfl
theorem uK (n:Nat):0<pb n:=by unfold pb;exact Int.ofNat_lt.2 (mF rI)
theorem Qg (m n:Nat):pb (m+n)=pb m*pb n:=by unfold pb;rw [nO,cF]
theorem Jm {m n:Nat} (h:m≤n):pb m≤pb n:=by unfold pb;exact mW.2 (dZ rI h)
theorem rW:qZ []=0:=rfl
theorem sK (d:U32) (l:List U32):qZ (d :: l)=d.v+4294967296*qZ l:=rfl
theorem Lims.nil:Lims []:=fun d h=>by simp at h
theorem Lims.tail {d:U32} {l:List U32} (h:Lims (d :: l)):Lims l:=fun x hx=>h x (aV _ hx)
theorem Lims.head {d:U32} {l:List U32} (h:Lims (d :: l)):0≤d.v∧d.v<4294967296:=h d bC
theorem Lims.append {l m:List U32} (h:Lims l) (h':Lims m):Lims (l++m):=fun x hx=>by
 rcases eD.1 hx with h1 | h1
 · exact h x h1
 exact h' x h1
theorem Lims.one {d:Int} (h:0≤d∧d<4294967296):Lims [⟨d⟩]:=fun x hx=>by
 have:x=⟨d⟩:=by simpa using hx
 subst this;exact h
theorem Lims.take {l:List U32} (h:Lims l) (n:Nat):Lims (l.take n):=fun x hx=>h x (List.mem_of_mem_take hx)
theorem Lims.at {l:List U32} (h:Lims l) {m:Int} (hm:0≤m∧m<l.length):0≤(l[m.toNat]?.getD default).v∧(l[m.toNat]?.getD default).v<4294967296:=by
 have hl:m.toNat<l.length:=qX
 rw [aD hl];exact h _ (eR hl)
theorem rR:∀ {l:List U32},Lims l→0≤qZ l
 | [],_=>Int.le_refl 0
 | d :: l,h=>by
   have h1:=rR h.tail
   have h2:=h.head
   rw [sK];omega
theorem tC:∀ {l:List U32},Lims l→qZ l<pb l.length
 | [],_=>rI
 | d :: l,h=>by
   have h1:=tC h.tail
   have h2:=h.head
   rw [sK,bH,tZ];omega
theorem sI:∀ (l m:List U32),qZ (l++m)=qZ l+pb l.length*qZ m
 | [],m=>by rw [fD,rW,cE,Dt];omega
 | d :: l,m=>by
   rw [List.cons_append,sK,sK,sI l m,bH,tZ,bT,←dL];omega
theorem yA (d:U32):qZ [d]=d.v:=by rw [sK,rW];omega
theorem Uw (l:List U32) (d:U32):qZ (l++[d])=qZ l+pb l.length*d.v:=by rw [sI,yA]
theorem yB {l:List U32} {k:Nat} (h:k<l.length):qZ (l.take (k+1))=qZ (l.take k)+pb k*(l[((k:Nat):Int).toNat]?.getD default).v:=by
 rw [eE,aN,aD h]
 simp only [Option.toList_some,iH]
 rw [Uw,bJ,eM (Nat.le_of_lt h)]
theorem vY (n:Nat):qZ (List.replicate n ⟨0⟩)=0:=by
 induction n with
 | zero=>rfl
 | succ n ih=>rw [pU,sK,ih];rfl
theorem Qh (n:Nat):Lims (List.replicate n ⟨0⟩):=fun x hx=>by
 have:=nX hx
 subst this;exact ⟨by decide,by decide⟩
abbrev lS:=@Qh
theorem Ux {l:List U32} {n:Nat} (h:∀ j,n≤j→j<l.length→(l[j]?.getD default).v=0):qZ (l.take n)=qZ l:=by
 rcases aR n l.length with hn | hn
 · have e:l=l.take n++l.drop n:=(dC n l).symm
   have hz:∀ (m:List U32),(∀ j,j<m.length→(m[j]?.getD default).v=0)→qZ m=0:=by
    intro m
    induction m with
    | nil=>intro _;rfl
    | cons d m ih =>
      intro h0
      have h1:=h0 0 rV
      simp only [List.getElem?_cons_zero,iH] at h1
      rw [sK,h1,ih fun j hj=>by have:=h0 (j+1) (by simpa using hj);simpa using this];rfl
   have h2:qZ (l.drop n)=0:=hz _ fun j hj=>by
    rw [fF]
    exact h (n+j) qX (by rw [cU] at hj;omega)
   have h3:qZ l=qZ (l.take n++l.drop n):=by rw [dC]
   rw [h3,sI,h2];omega
 rw [rQ hn]
theorem Du {l:List U32} (hd:Lims l) (ht:Top l) (h0:l≠[]):pb (l.length - 1)≤qZ l:=by
 have hl:0<l.length:=List.length_pos_iff.2 h0
 have h1:(l[l.length - 1]?.getD default).v≠0:=by
  rcases ht with h | h
  · exact absurd h h0
  exact h
 have h2:=yB (l:=l) (k:=l.length - 1) qX
 rw [Nat.sub_add_cancel hl,rQ (aE _),aN] at h2
 have h3:=rR (hd.take (l.length - 1))
 have h4:(1:Int)≤(l[l.length - 1]?.getD default).v:=by
  have:=hd.at (m:=((l.length - 1:Nat):Int)) qX
  rw [aN] at this
  omega
 have h5:=bD h4 (cB (uK (l.length - 1)))
 omega
theorem Nn {l:List U32} (hd:Lims l) (ht:Top l) {m:Nat} (h:qZ l<pb m):l.length≤m:=by
 by_cases h0:l=[]
 · subst h0;exact aZ _
 have h1:=Du hd ht h0
 rcases aR m l.length with h2 | h2
 · have h3:=Jm (show m≤l.length - 1 by omega)
   omega
 exact h2
theorem Fi {l:List U32} (hd:Lims l) (ht:Top l) (h0:l≠[]):0<qZ l:=nH (uK _) (Du hd ht h0)
theorem vH {l m:List U32} (hl:Lims l) (hm:Lims m) (tm:Top m) (h:l.length<m.length):qZ l<qZ m:=by
 have h1:=tC hl
 have h2:=Du hm tm (fun e=>by rw [e] at h;simp at h)
 have h3:=Jm (show l.length≤m.length - 1 by omega)
 omega
structure IsBig (neg:Bool) (l:List U32) (z:Int):Prop where
 digs:Lims l
 top:Top l
 sign:l=[]→neg=false
 val:z=if neg=true then -qZ l else qZ l
theorem IsBig.abs {neg:Bool} {l:List U32} {z:Int} (h:IsBig neg l z):qZ l=z.natAbs:=by
 have h1:=rR h.digs
 have h2:=h.val
 split at h2 <;> omega
theorem IsBig.neg_iff {neg:Bool} {l:List U32} {z:Int} (h:IsBig neg l z):neg=decide (z<0):=by
 have h2:=h.val
 by_cases h0:l=[]
 · have h3:=h.sign h0
   subst h0
   rw [h3] at h2 ⊢
   rw [rW] at h2
   have:¬z<0:=by simp at h2;omega
   simp [this]
 have h1:=Fi h.digs h.top h0
 cases neg with
 | true =>
   rw [aT rfl] at h2
   have:z<0:=qX
   simp [this]
 | false =>
   rw [aF (by decide)] at h2
   have:¬z<0:=qX
   simp [this]
theorem IsBig.zero_iff {neg:Bool} {l:List U32} {z:Int} (h:IsBig neg l z):l.length=0↔z=0:=by
 have h2:=h.val
 constructor
 · intro h0
   have h0:=cA h0
   subst h0
   rw [rW] at h2
   split at h2 <;> omega
 intro hz
 by_cases h0:l=[]
 · rw [h0];rfl
 have h1:=Fi h.digs h.top h0
 split at h2 <;> omega
theorem IsBig.len {neg:Bool} {l:List U32} {z:Int} (h:IsBig neg l z) {m:Nat} (hz:(z.natAbs:Int)<pb m):l.length≤m:=by
 refine Nn h.digs h.top ?_
 rw [h.abs];exact hz
def Big (G:Imm) (x:IV) (z:Int):Prop:=∃ l:List U32,l.length=x.n∧x.n≤x.c∧Arr G x.a l∧IsBig x.neg l z
theorem Big.up {G G':Imm} {x:IV} {z:Int} (h:Big G x z) (hl:G.le G'):Big G' x z:=by
 obtain ⟨l,h1,h0,h2,h3⟩:=h
 exact ⟨l,h1,h0,h2.up hl,h3⟩
theorem Big.zero (G:Imm):Big G ⟨false,none,0,0⟩ 0:=⟨[],rfl,aE _,pQ G,⟨Lims.nil,Top.nil,fun _=>rfl,rfl⟩⟩
theorem bits_and_u64_nat (a b:Nat) (ha:a<18446744073709551616) (hb:b<18446744073709551616):bits .and .u64 (a:Int) (b:Int)=((a &&& b:Nat):Int):=by
 have hx:a &&& b<2 ^ 64:=Nat.and_lt_two_pow _ qX
 have h1:(BitVec.ofInt 64 (a:Int)).toNat=a:=by
  rw [iA,iT];exact gP qX
 have h2:(BitVec.ofInt 64 (b:Int)).toNat=b:=by
  rw [iA,iT];exact gP qX
 show IntKind.u64.wrap ((BitVec.ofInt 64 (a:Int) &&& BitVec.ofInt 64 (b:Int)).toNat:Int)=_
 rw [BitVec.toNat_and,h1,h2,lV]
 omega
theorem bits_or_u64_nat (a b:Nat) (ha:a<18446744073709551616) (hb:b<18446744073709551616):bits .or .u64 (a:Int) (b:Int)=((a ||| b:Nat):Int):=by
 have hx:a ||| b<2 ^ 64:=Nat.or_lt_two_pow qX qX
 have h1:(BitVec.ofInt 64 (a:Int)).toNat=a:=by
  rw [iA,iT];exact gP qX
 have h2:(BitVec.ofInt 64 (b:Int)).toNat=b:=by
  rw [iA,iT];exact gP qX
 show IntKind.u64.wrap ((BitVec.ofInt 64 (a:Int) ||| BitVec.ofInt 64 (b:Int)).toNat:Int)=_
 rw [BitVec.toNat_or,h1,h2,lV]
 omega
theorem No (x:Int) (h:0≤x∧x<18446744073709551616):bits .and .u64 x 1=x % 2:=by
 have h1:=bits_and_u64_nat x.toNat 1 qX qX
 rw [Nat.and_one_is_mod,cN h.1] at h1
 have h2:((x.toNat % 2:Nat):Int)=x % 2:=qX
 exact h1.trans h2
theorem Np (x:Int) (h:0≤x∧x<18446744073709551616):bits .and .u64 x 4294967295=x % 4294967296:=by
 have h1:=bits_and_u64_nat x.toNat 4294967295 qX qX
 rw [show (4294967295:Nat)=2 ^ 32 - 1 by decide,Nat.and_two_pow_sub_one_eq_mod,cN h.1] at h1
 have h2:((x.toNat % 2 ^ 32:Nat):Int)=x % 4294967296:=qX
 exact h1.trans h2
theorem Qi (x y:Int) (hx:0≤x∧x<4294967296) (hy:0≤y∧y<4294967296):bits .or .u64 (x*4294967296) y=x*4294967296+y:=by
 have h1:=bits_or_u64_nat (2 ^ 32*x.toNat) y.toNat qX qX
 rw [←mR (b:=y.toNat) (i:=32) qX x.toNat] at h1
 have e1:((2 ^ 32*x.toNat:Nat):Int)=x*4294967296:=qX
 have e2:((2 ^ 32*x.toNat+y.toNat:Nat):Int)=x*4294967296+y:=qX
 rw [e1,e2,cN hy.1] at h1
 exact h1
theorem Nq (x y:Int) (hx:0≤x∧x<4294967296) (hy:0≤y∧y<4294967296):bits .or .u64 y (x*4294967296)=x*4294967296+y:=by
 have h1:=bits_or_u64_nat y.toNat (2 ^ 32*x.toNat) qX qX
 rw [Nat.or_comm,←mR (b:=y.toNat) (i:=32) qX x.toNat] at h1
 have e1:((2 ^ 32*x.toNat:Nat):Int)=x*4294967296:=qX
 have e2:((2 ^ 32*x.toNat+y.toNat:Nat):Int)=x*4294967296+y:=qX
 rw [e1,e2,cN hy.1] at h1
 exact h1
theorem Dc (x y:Int) (s:Nat) (hx:0≤x∧x<((2 ^ s:Nat):Int)) (hy:0≤y∧y<4294967296) (hs:s≤32) (hm:y % ((2 ^ s:Nat):Int)=0):bits .or .u32 x y=x+y:=by
 have hp:2 ^ s≤2 ^ 32:=dZ rI hs
 have h1:=Dl x.toNat y.toNat qX qX
 have hm':y.toNat % 2 ^ s=0:=by
  have h2:((y.toNat % 2 ^ s:Nat):Int)=0:=by rw [Int.natCast_emod,cN hy.1];exact hm
  exact Int.ofNat_eq_zero.1 h2
 have h3:=kH y.toNat (2 ^ s)
 rw [hm',gJ] at h3
 have h4:=mR (b:=x.toNat) (i:=s) qX (y.toNat / 2 ^ s)
 rw [h3] at h4
 rw [Nat.or_comm,←h4,cN hx.1,cN hy.1] at h1
 rw [h1]
 omega
section
variable {P:Program} {e:Env} {H:Hp} {G:Imm} {ty:TypeId} {t t':TypeId} {x y:Operand} {m n:Int} {k:IntKind}
theorem Yh (hx:e.ev x=some (.int .u64 m)) (hy:e.ev y=some (.int k 32)) (h0:0≤m):Qy P (.binOp .shr t x y t') ty e H G (.int .u64 (m / 4294967296)):=by
 have h:=nC (P:=P) (H:=H) (G:=G) (ty:=ty) (t:=t) (t':=t') hx hy rI
 have e1:m.fdiv (2 ^ (Min.min (32:Int).toNat IntKind.u64.bits))=m / 4294967296:=by
  rw [show Min.min (32:Int).toNat IntKind.u64.bits=32 by decide]
  exact Int.fdiv_eq_ediv_of_nonneg _ rI
 rw [e1] at h;exact h
abbrev dV:=@Yh
theorem Yi (hx:e.ev x=some (.int .u64 m)) (hy:e.ev y=some (.int k 32)) (h0:0≤m∧m<4294967296):Qy P (.binOp .shl t x y t') ty e H G (.int .u64 (m*4294967296)):=by
 have h:=Qy.shl (P:=P) (H:=H) (G:=G) (ty:=ty) (t:=t) (t':=t') hx hy rI
 have e1:IntKind.u64.wrap (m*2 ^ (Min.min (32:Int).toNat IntKind.u64.bits))=m*4294967296:=by
  rw [show Min.min (32:Int).toNat IntKind.u64.bits=32 by decide]
  exact gS _ qX
 rw [e1] at h;exact h
abbrev qG:=@Yi
theorem Qj {s:TypeId} (hs:(P.underlying s).isSome=true) (ht:P.underlying t=some (.int .u32)) (hx:e.ev x=some (.int .u64 m)):Qy P (.convert s t x) ty e H G (.int .u32 (m % 4294967296)):=by
 have h:=jY (P:=P) (H:=H) (G:=G) (ty:=ty) hs ht hx
 rw [qV] at h
 exact h
abbrev fL:=@Qj
theorem DT (hx:e.ev x=some (.int .u64 m)) (hy:e.ev y=some (.int .u64 1)) (h0:0≤m∧m<18446744073709551616):Qy P (.binOp .and t x y t') ty e H G (.int .u64 (m % 2)):=by
 have h:=kW (P:=P) (H:=H) (G:=G) (ty:=ty) (t:=t) (t':=t') hx hy
 rw [No m h0] at h;exact h
abbrev mP:=@DT
theorem Uy (hx:e.ev x=some (.int .u64 m)) (hy:e.ev y=some (.int .u64 4294967295)) (h0:0≤m∧m<18446744073709551616):Qy P (.binOp .and t x y t') ty e H G (.int .u64 (m % 4294967296)):=by
 have h:=kW (P:=P) (H:=H) (G:=G) (ty:=ty) (t:=t) (t':=t') hx hy
 rw [Np m h0] at h;exact h
abbrev oA:=@Uy
theorem Ag (hx:e.ev x=some (.int .u64 (m*4294967296))) (hy:e.ev y=some (.int .u64 n)) (h0:0≤m∧m<4294967296) (h1:0≤n∧n<4294967296):Qy P (.binOp .or t x y t') ty e H G (.int .u64 (m*4294967296+n)):=by
 have h:=En (P:=P) (H:=H) (G:=G) (ty:=ty) (t:=t) (t':=t') hx hy
 rw [Qi m n h0 h1] at h;exact h
theorem Uz (hx:e.ev x=some (.int .u64 n)) (hy:e.ev y=some (.int .u64 (m*4294967296))) (h0:0≤m∧m<4294967296) (h1:0≤n∧n<4294967296):Qy P (.binOp .or t x y t') ty e H G (.int .u64 (m*4294967296+n)):=by
 have h:=En (P:=P) (H:=H) (G:=G) (ty:=ty) (t:=t) (t':=t') hx hy
 rw [Nq m n h0 h1] at h;exact h
theorem DU {s:Nat} (hx:e.ev x=some (.int .u64 m)) (hy:e.ev y=some (.int k (s:Int))) (h0:0≤m∧m<4294967296) (hs:s≤32):Qy P (.binOp .shl t x y t') ty e H G (.int .u64 (m*((2 ^ s:Nat):Int))):=by
 have h:=Qy.shl (P:=P) (H:=H) (G:=G) (ty:=ty) (t:=t) (t':=t') hx hy qX
 have e1:IntKind.u64.wrap (m*2 ^ (Min.min (s:Int).toNat IntKind.u64.bits))=m*((2 ^ s:Nat):Int):=by
  rw [aN,eM (aK hs rI)]
  have e2:(2:Int) ^ s=((2 ^ s:Nat):Int):=by rw [Int.natCast_pow];rfl
  rw [e2]
  have hp:(1:Int)≤((2 ^ s:Nat):Int)∧((2 ^ s:Nat):Int)≤4294967296:=by
   have h1:0<2 ^ s:=mF rI
   have h2:2 ^ s≤2 ^ 32:=dZ rI hs
   omega
  have h3:=bD hp.2 h0.1
  have h4:=jP h0.1 (show (0:Int)≤((2 ^ s:Nat):Int) by omega)
  exact gS _ qX
 rw [e1] at h;exact h
theorem Sn {s:Nat} (hx:e.ev x=some (.int .u64 m)) (hy:e.ev y=some (.int k (s:Int))) (h0:0≤m) (hs:s≤32):Qy P (.binOp .shr t x y t') ty e H G (.int .u64 (m / ((2 ^ s:Nat):Int))):=by
 have h:=nC (P:=P) (H:=H) (G:=G) (ty:=ty) (t:=t) (t':=t') hx hy qX
 have e1:m.fdiv (2 ^ (Min.min (s:Int).toNat IntKind.u64.bits))=m / ((2 ^ s:Nat):Int):=by
  rw [aN,eM (aK hs rI)]
  have e2:(2:Int) ^ s=((2 ^ s:Nat):Int):=by rw [Int.natCast_pow];rfl
  rw [e2]
  exact Int.fdiv_eq_ediv_of_nonneg _ (kM _)
 rw [e1] at h;exact h
end
end Go.Sl
end
