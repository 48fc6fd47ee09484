/- uK of the proof (part 2): what the rows' text needs of the texts that lead to it. -/
import Derived.Test.YtngphgeghfdjbaaGreatDoorMBa
set_option linter.unusedVariables false
set_option linter.unusedSimpArgs false
set_option linter.unusedSectionVars false
set_option maxHeartbeats 4000000
noncomputable section
set_option maxRecDepth 100000
namespace Go.Sl
open Go
structure R2 where
 a:Int
 b:Int
 deriving DecidableEq
instance:Inhabited R2:=⟨⟨0,0⟩⟩
instance:Cells R2:=⟨2,fun i=>[.int .i64 i.a,.int .i64 i.b],fun _=>rfl,fun _=>rfl⟩
structure R6 where
 a:Int
 b:Int
 c:Int
 d:Int
 e:Int
 f:Int
 deriving DecidableEq
instance:Inhabited R6:=⟨⟨0,0,0,0,0,0⟩⟩
instance:Cells R6:=⟨6,fun i=>[.int .i64 i.a,.int .i64 i.b,.int .i64 i.c,.int .i64 i.d,.int .i64 i.e,.int .i64 i.f],fun _=>rfl,fun _=>rfl⟩
section scope
variable {P:Program} {b:Frame} {a:Act} {k:List Item} {cs:List Frame} {w:World} {Q:Exit→Act→World→Prop} {F:Fence} {n:Nat}
theorem wS {c:Code}:step P (lone (b.atR a (.code (.scope c) :: k)) cs w)=.next (lone (b.atR a (.code c :: .inScope c :: k)) cs w):=
 step_lone_go (by simp [stepG,stepG.exec,Frame.atR])
theorem Nn {c:Code}:step P (lone (b.atR a (.inScope c :: k)) cs w)=.next (lone (b.atR a k) cs w):=
 step_lone_go (by simp [stepG,stepG.exec,Frame.atR])
def Qs (Q:Exit→Act→World→Prop):Exit→Act→World→Prop
 | .goto _,_,_=>False
 | e,a,w=>Q e a w
theorem Km {c:Code} (h:c.wpIn F n P (Qs Q) a w):(Code.scope c).wpIn F n P Q a w:=by
 intro b k cs hro hb hr
 have h0:(lone (b.atR a (.code (.scope c) :: k)) cs w).fenced P F:=mL hb hr rfl
 obtain ⟨e,a₁,w₁,hq,harr⟩:=h b (.inScope c :: k) cs hro hb hr
 cases e with
 | normal=>exact ⟨.normal,a₁,w₁,hq,.head h0 wS (rK harr (.one (mL hb hr rfl) Nn))⟩
 | exit id =>
   have hx:exitTo id (.inScope c :: k)=exitTo id k:=by simp [exitTo]
   exact ⟨.exit id,a₁,w₁,hq,fun k' hk=>.head h0 wS (harr.1 k' (by rw [hx];exact hk)),
    fun hr' hk=>let ⟨k₁,h1,h2⟩:=harr.2 hr' (by rw [hx];exact hk);⟨k₁,h1,.head h0 wS h2⟩⟩
 | goto l=>exact hq.elim
 | ret=>exact ⟨_,a₁,w₁,hq,.of_steps (.one h0 wS) harr⟩
 | panic ch=>exact ⟨_,a₁,w₁,hq,.of_steps (.one h0 wS) harr⟩
 | outgrown=>exact ⟨_,a₁,w₁,hq,.of_steps (.one h0 wS) harr⟩
end scope
section scopeS
variable {r:Option Nat} {P:Program} {B:Bs} {S:St} {Q:Exit→Act→World→Prop}
theorem Wc.scope {c:Code} (h:Wc r P c B S (Qs Q)):Wc r P (.scope c) B S Q:=fun a w hh=>Km (h a w hh)
theorem BQ (h:Ar Q .ret B S):Ar (Qs Q) .ret B S:=h
abbrev rF:=@BQ
end scopeS
section
variable {P:Program} {ops:Array Oper} {rest:List Oper} {B:Bs} {e:Env} {D:List Deferred} {H H0:Hp} {G:Imm} {K:Act→World→Prop}
 {ty:TypeId} {pos:String} {after:Array Edge} {d:Nat} {f:Nat} {listed:Array Bool}
theorem Gv {Q:Exit→Act→World→Prop} {x:Exit} (t:Nat) (o:Obj) (h:Ar Q x B ⟨e,D,(t,none,o) :: H,G⟩):Ar Q x B ⟨e,D,H,G⟩:=fun a w hh=>h a w (hh.noBlock t o)
theorem Ko {o:Op} {j:Nat} {want:Bool} {t:Nat} (hj:(ops[j]?).bind (·.dst)=some t) (he:e.get t=some undef) (hn:Nat.ble (d+1) B.n=true)
 (h:Wl P ops rest B ⟨(d,undef) :: e,D,H,G⟩ K):Wl P ops (⟨some d,o,ty,pos,after,some (j,want)⟩ :: rest) B ⟨e,D,H,G⟩ K:=by
 intro a w hh
 unfold tN
 have hy:yielded ops a.tmps j=none:=by simp [yielded,hj,hh.env t _ he,undef]
 rw [aL (by simp [Region.wanted,hy])]
 exact h _ _ (hh.put hn undef)
end
def Hp.pick (H:Hp):Nat→List Nat→Hp
 | _,[]=>[]
 | i,t :: ts=>match H.get t with | some x=>(i,x) :: Hp.pick H (i+1) ts | none=>Hp.pick H (i+1) ts
theorem Im (H:Hp):∀ (ts:List Nat) (i j:Nat) (x:Option Nat×Obj),(H.pick i ts).get j=some x→i≤j∧∃ t,ts[j - i]?=some t∧H.get t=some x
 | [],i,j,x,h=>by simp [Hp.pick,Hp.get] at h
 | t :: ts,i,j,x,h=>by
   unfold Hp.pick at h
   have rec':(H.pick (i+1) ts).get j=some x→i≤j∧∃ t',(t :: ts)[j - i]?=some t'∧H.get t'=some x:=fun h=>by
    obtain ⟨h1,t',h2,h3⟩:=Im H ts (i+1) j x h
    refine ⟨by omega,t',?_,h3⟩
    rw [show j - i=(j - (i+1))+1 by omega]
    simpa using h2
   split at h
   · rename_i y hy
     have h':Hp.get ((i,y) :: H.pick (i+1) ts) j=some x:=h
     rw [bU] at h'
     split at h'
     · rename_i e;subst e;cases h';exact ⟨aG _,t,by simp,hy⟩
     exact rec' h'
   exact rec' h
theorem Hold.pick {B:Bs} {e:Env} {D:List Deferred} {H:Hp} {G:Imm} {a:Act} {w:World} (hh:Hold B ⟨e,D,H,G⟩ a w) {ts:List Nat} (hn:ts.Nodup):Hold B ⟨e,D,H.pick 0 ts,G⟩ a w:=by
 have key:∀ t x,(H.pick 0 ts).get t=some x→∃ t',ts[t]?=some t'∧H.get t'=some x:=fun t x hx=>by
  obtain ⟨_,t',h1,h2⟩:=Im H ts 0 t x hx
  exact ⟨t',by simpa using h1,h2⟩
 refine ⟨hh.size,hh.defers,hh.env,⟨?_,?_,hh.mem.imm,?_⟩,hh.upd,?_,hh.le,hh.new⟩
 · intro t b o hx;obtain ⟨t',_,h2⟩:=key _ _ hx;exact hh.mem.own _ b o h2
 · intro t u b o o' hx hy
   obtain ⟨t',h1,h2⟩:=key _ _ hx
   obtain ⟨u',h3,h4⟩:=key _ _ hy
   have:=hh.mem.one _ _ b _ _ h2 h4
   subst this
   obtain ⟨h5,h6⟩:=aS.1 h1
   obtain ⟨h7,h8⟩:=aS.1 h3
   rcases Nat.lt_trichotomy t u with h | h | h
   · exact absurd (h6.trans h8.symm) (List.pairwise_iff_getElem.1 hn t u h5 h7 h)
   · exact h
   exact absurd (h8.trans h6.symm) (List.pairwise_iff_getElem.1 hn u t h7 h5 h)
 · intro t b o hx;obtain ⟨t',_,h2⟩:=key _ _ hx;exact hh.mem.off _ b o h2
 intro t b o hx;obtain ⟨t',_,h2⟩:=key _ _ hx;exact hh.mine _ b o h2
section
variable {P:Program} {ops:Array Oper} {rest:List Oper} {B:Bs} {e:Env} {D:List Deferred} {H H0:Hp} {G:Imm} {K:Act→World→Prop}
 {ty:TypeId} {pos:String} {after:Array Edge} {d:Nat} {f:Nat} {listed:Array Bool}
theorem Ar.pick {Q:Exit→Act→World→Prop} {x:Exit} (ts:List Nat) (hn:ts.Nodup) (h:Ar Q x B ⟨e,D,H.pick 0 ts,G⟩):Ar Q x B ⟨e,D,H,G⟩:=fun a w hh=>h a w (hh.pick hn)
abbrev sG:=@Ar.pick
def MH {ι:Type} (B:Bs) (I:ι→St) (φ:ι→Prop):Act→World→Prop:=fun a w=>∃ j,φ j∧Hold B (I j) a w
theorem MI {ι:Type} {r:Option Nat} {x y:Code} {Q:Exit→Act→World→Prop} (I:ι→Env×Hp) (φ:ι→Prop)
 (h1:Wc r P x B ⟨e,D,H,G⟩ (Exit.then (MH B (fun i=>⟨(I i).1,D,(I i).2,G⟩) φ) Q)) (h2:∀ i,φ i→Wc r P y B ⟨(I i).1,D,(I i).2,G⟩ Q):Wc r P (.seq x y) B ⟨e,D,H,G⟩ Q:=by
 refine dT fun a w hh b k cs hro hb hr=>?_
 obtain ⟨ex,a',w',hq,ha⟩:=h1 a w hh b k cs hro hb hr
 refine ⟨ex,a',w',?_,ha⟩
 cases ex with
 | normal=>obtain ⟨j,hj,hI⟩:=hq;exact h2 j hj a' w' hI
 | exit id=>exact hq
 | goto l=>exact hq
 | ret=>exact hq
 | panic ch=>exact hq
 | outgrown=>exact hq
abbrev rB:=@MI
theorem MJ {ι:Type} {I:ι→St} {φ:ι→Prop} {Q:Exit→Act→World→Prop} (j:ι) (hφ:φ j)
 (hI:I j=⟨(I j).e,D,(I j).H,G⟩) (he:e.sub (I j).e) (hH:H.sub (I j).H):Ar (Exit.then (MH B I φ) Q) .normal B ⟨e,D,H,G⟩:=
 fun a w hh=>⟨j,hφ,by rw [hI];exact hh.sub he hH⟩
abbrev rH:=@MJ
def Kp (H:Hp) (Gx:Imm):Prop:=∀ t b o,H.get t=some (some b,o)→Gx b=some o
theorem HoldH.lend {H:Hp} {G:Imm} {w:World} (h:HoldH H G w):∃ Gx:Imm,G.le Gx∧Kp H Gx∧HoldH [] Gx w∧(∀ b,Gx b≠none→G b=none→∃ t o,H.get t=some (some b,o)):=by
 classical
 refine ⟨fun b=>if hx:∃ o,∃ t,H.get t=some (some b,o) then some (Classical.choose hx) else G b,?_,?_,⟨?_,?_,?_,?_⟩,?_⟩
 · intro b o hb
   have hn:¬∃ o,∃ t,H.get t=some (some b,o):=fun ⟨o',t,ht⟩=>by rw [h.off t b o' ht] at hb;cases hb
   simp only [hn,dif_neg,rV];exact hb
 · intro t b o ht
   have hx:∃ o,∃ t,H.get t=some (some b,o):=⟨o,t,ht⟩
   simp only [hx,dif_pos]
   obtain ⟨t',ht'⟩:=qL hx
   have:=h.one _ _ b _ _ ht ht'
   subst this
   rw [ht] at ht'
   simp only [cC,dX,true_and] at ht'
   rw [←ht']
 · intro t b o hx;simp [Hp.get] at hx
 · intro t t' b o o' hx;simp [Hp.get] at hx
 · intro b o hb
   try simp only at hb
   split at hb
   · rename_i hx
     obtain ⟨t',ht'⟩:=qL hx
     cases hb
     exact h.own t' b _ ht'
   exact h.imm b o hb
 · intro t b o hx;simp [Hp.get] at hx
 intro b hb hg
 try simp only at hb
 split at hb
 · rename_i hx;exact ⟨_,_,(qL hx).choose_spec⟩
 exact absurd hg hb
theorem Arr.own {α:Type} [Cells α] {Gx:Imm} {a:Option Addr} {c:Nat} {E:TypeId} {xs:List α} {junk:List Value} (hb:Kp H Gx) (t:Nat) (ht:H.get t=some (a.map (·.block),tK E xs junk)) (ho:OwnA a c xs junk):Arr Gx a xs:=by
 rcases ho with ⟨rfl,rfl,rfl,_⟩ | ⟨b,rfl,_⟩
 · exact pP Gx
 exact Ys (E:=E) (junk:=junk) (hb t b _ ht)
abbrev nI:=@Arr.own
theorem FU {fn:FuncId} {xs:Array Operand} {ats:Array TypeId} {vs:List Value} {post:Imm→Value→Imm→Hp→Prop} (k:Nat)
 (hn:Nat.ble (d+1) B.n=true) (hf:wC P fn) (hx:e.evs xs.toList=some vs)
 (hF:∀ Gx,G.le Gx→Kp H Gx→Does P fn vs Gx [] (post Gx))
 (h:∀ v Gx G' Ho,G.le Gx→post Gx v G' Ho→Wl P ops rest B ⟨(d,v) :: e,D,Ho.shift k++H,G⟩ K) :
 Wl P ops (⟨some d,.call { callee:=.value (.func fn),args:=xs,argTypes:=ats },ty,pos,after,none⟩ :: rest) B ⟨e,D,H,G⟩ K:=by
 intro a w hh
 obtain ⟨f,h1,h2,h3⟩:=hf
 unfold tN
 rw [aR (by simp [Region.wanted])]
 unfold xN
 have hrun:(execOp a.eval ⟨some d,.call { callee:=.value (.func fn),args:=xs,argTypes:=ats },ty,pos,after,none⟩).run P w=.ok (.enter fn vs.toArray) w:=by
  simp [execOp,resolve,Deferred.ofValue,invoke,Act.eval,hh.args hx,wY w _ h1 h2 h3]
 rw [hrun]
 obtain ⟨Gx,g1,g2,g3,_⟩:=hh.mem.lend
 refine (hF Gx g1 g2 w g3).mono fun x w' ⟨v,G',Ho,q1,q2,q3,q4,q5,q6,q7⟩=>⟨v,q1,?_⟩
 refine h v Gx G' Ho g1 q7 _ _ (Hold.put ?_ hn v)
 have hno:∀ b,¬Hp.has [] b:=fun b ⟨t,o,hx⟩=>by simp [Hp.get] at hx
 have hup:Upd (fun _=>False) w w':=q4.mono (fun k _ hk=>hno k hk)
 have hg:=hh.grow hup
 have hfr:∀ t b o,Ho.get t=some (some b,o)→w.heap.size≤b:=fun t b o hx=>(q6 t b o hx).resolve_right (hno b)
 have hsplit:∀ i b o,(Ho.shift k++H).get i=some (some b,o)→(k≤i∧Ho.get (i - k)=some (some b,o))∨H.get i=some (some b,o):=by
  intro i b o hx
  rw [gQ,jM] at hx
  by_cases hi:k≤i
  · rw [aR hi] at hx
    cases hgg:Ho.get (i - k) with
    | some x=>rw [hgg] at hx;exact .inl ⟨hi,by simpa using hx⟩
    | none=>rw [hgg] at hx;simp only [lB] at hx;exact .inr hx
  rw [aL hi] at hx;simp only [lB] at hx;exact .inr hx
 refine ⟨hg.size,hg.defers,hg.env,⟨?_,?_,hg.mem.imm,?_⟩,hg.upd,?_,hg.le,hg.new⟩
 · intro i b o hx
   rcases hsplit i b o hx with ⟨_,h'⟩ | h'
   · exact q2.own _ b o h'
   exact hg.mem.own i b o h'
 · intro i j b o o' hx hy
   rcases hsplit i b o hx with ⟨hi,h'⟩ | h' <;> rcases hsplit j b o' hy with ⟨hj,h''⟩ | h''
   · have:=q2.one _ _ b _ _ h' h'';omega
   · have:=hfr _ b o h';have h4:b<w.heap.size:=hh.mem.lt h'';omega
   · have:=hfr _ b o' h'';have h4:b<w.heap.size:=hh.mem.lt h';omega
   exact hg.mem.one _ _ b _ _ h' h''
 · intro i b o hx
   rcases hsplit i b o hx with ⟨_,h'⟩ | h'
   · have hb:=hfr _ b o h'
     cases hgb:G b with
     | none=>exact hgb
     | some y=>have:b<w.heap.size:=hh.mem.ltG hgb;omega
   exact hg.mem.off i b o h'
 intro i b o hx
 rcases hsplit i b o hx with ⟨_,h'⟩ | h'
 · exact .inl (aO hh.upd.size (hfr _ b o h'))
 exact hh.mine i b o h'
abbrev oW:=@FU
def Yv (H:Hp) (k:Nat):Hp→Prop
 | []=>True
 | (t,x) :: L=>H.get (k+t)=some x∧Yv H k L
theorem uH {k:Nat}:∀ {Hi:Hp},Yv H k Hi→∀ t x,Hi.get t=some x→H.get (k+t)=some x
 | [],_,t,x,h=>by simp [Hp.get] at h
 | (j,y) :: L,⟨h1,h2⟩,t,x,h=>by
   rw [bU] at h
   split at h
   · rename_i hj;subst hj;cases h;exact h1
   exact uH h2 t x h
section own
variable {α:Type} [Cells α] {a:Option Addr} {c:Nat} {xs:List α} {junk:List Value}
theorem OwnA.addr (h:OwnA a c xs junk) (hn:0<xs.length):a=some ⟨ab a,0,none⟩:=by
 rcases h with ⟨_,h,_⟩ | ⟨b,rfl,_⟩
 · subst h;simp at hn
 rfl
theorem OwnA.blk (h:OwnA a c xs junk) (hn:0<xs.length):a.map (·.block)=some (ab a):=by rw [h.addr hn];rfl
theorem OwnA.le (h:OwnA a c xs junk):xs.length≤c:=by
 rcases h with ⟨_,rfl,_,rfl⟩ | ⟨b,_,_,h,_⟩
 · simp
 exact h
theorem No {T:TypeId} {x i:Operand} {k:IntKind} {m:Int} {E:Nat} (hT:tJ P T E (Cells.sz α)) (hx:e.ev x=some (.slice a xs.length c)) (hi:e.ev i=some (.int k m)) (ho:OwnA a c xs junk) (hb:0≤m∧m<xs.length) :
 Qy P (.indexAddr T x i) ty e H G (.pointer (some ⟨ab a,0+m.toNat*Cells.sz α,none⟩)):=by
 have ha:=ho.addr sV
 rw [ha] at hx
 exact dI hT hx hi hb
abbrev lS:=@No
theorem El [Inhabited α] {T:TypeId} {x:Operand} {E:TypeId} {m:Int} {v:Value} (t k:Nat) (h1:vK P T=true) (hx:e.ev x=some (.pointer (some ⟨ab a,0+m.toNat*Cells.sz α+k,none⟩)))
 (ht:H.get t=some (a.map (·.block),tK E xs junk)) (ho:OwnA a c xs junk) (hm:0≤m∧m<xs.length) (hk:Nat.ble (k+1) (Cells.sz α)=true) (hv:(Cells.enc (xs[m.toNat]?.getD default))[k]?=some v):Qy P (.load T x) ty e H G v:=by
 rw [ho.blk sV] at ht
 exact Ta t k h1 hx ht hm hk hv
theorem BR [Inhabited α] {T:TypeId} {x:Operand} {E:TypeId} {m:Int} (t:Nat) (h1:wK P T (Cells.sz α)=true) (hx:e.ev x=some (.pointer (some ⟨ab a,0+m.toNat*Cells.sz α,none⟩)))
 (ht:H.get t=some (a.map (·.block),tK E xs junk)) (ho:OwnA a c xs junk) (hm:0≤m∧m<xs.length):Qy P (.load T x) ty e H G (.agg (Cells.enc (xs[m.toNat]?.getD default)).toArray):=by
 rw [ho.blk sV] at ht
 exact On t h1 hx ht hm
theorem MK {T:TypeId} {x y:Operand} {E:TypeId} {m:Int} {v:Value} {z:α} (t:Nat) (hs:(P.info? T).map (·.size)=some (Cells.sz α))
 (hx:e.ev x=some (.pointer (some ⟨ab a,0+m.toNat*Cells.sz α,none⟩))) (hy:e.ev y=some v) (ht:H.get t=some (a.map (·.block),tK E xs junk)) (ho:OwnA a c xs junk) (hm:0≤m∧m<xs.length) (hv:v.cells=(Cells.enc z).toArray)
 (h:OwnA a c (xs.set m.toNat z) junk→Wl P ops rest B ⟨e,D,(t,a.map (·.block),tK E (xs.set m.toNat z) junk) :: H,G⟩ K):Wl P ops (⟨none,.store T x y,ty,pos,after,none⟩ :: rest) B ⟨e,D,H,G⟩ K:=by
 have h':=h (by
  rcases ho with ⟨_,h,_⟩ | ⟨b,h1,h2,h3,h4⟩
  · subst h;simp at hm;omega
  exact .inr ⟨b,h1,by simpa using h2,by simpa using h3,h4⟩)
 have hb:=ho.blk sV
 rw [hb] at ht h'
 exact Yu t hs hx hy hv ht hm h'
abbrev eX:=@MK
theorem Np {sz:Nat} (ho:OwnA a c xs junk):subA a c 0 sz=a:=by
 rcases ho with ⟨rfl,_⟩ | ⟨b,rfl,_⟩
 · unfold subA;split <;> rfl
 unfold subA;split <;> simp [add_lit]
end own
end
section
variable {P:Program} {ops:Array Oper} {rest:List Oper} {B:Bs} {e:Env} {D:List Deferred} {H:Hp} {G:Imm} {K:Act→World→Prop} {ty:TypeId} {pos:String} {after:Array Edge}
end
def lrec (q:Loop) (s:LoopState) (p:Option Code):Obj:=.loop { q with state:=s,pending:=p }
def Gw (P:Program) (l:Nat) (vs:List Value) (G:Imm) (Hi:Hp) (post:Value→Imm→Hp→Prop):Prop:=
 ∀ w,HoldH Hi G w→∃ f tmps assign body,(Instr.yield l vs.toArray).run P w=.ok (.round l f tmps assign body) w∧RoundIn Fence.wide 0 P l f tmps assign body w (wB G Hi w post)
def Kq {β:Type} (P:Program) (f:FuncId) (caps:List Value) (G:Imm) (enc:β→List Value) (xs:List β):Prop:=
 ∀ (ι:Type) (J:ι→Hp) (inv:Nat→ι→Prop) (stop:ι→Prop) (l:Nat) (i0:ι),inv 0 i0→
  (∀ k x i,xs[k]?=some x→inv k i→Gw P l (enc x) G (J i) (fun v G' Ho=>G'=G∧∃ j,Ho=J j∧((v=.bool true∧inv (k+1) j)∨(v=.bool false∧stop j))))→
  Does P f (.func (.yield l) #[] #[] :: caps) G (J i0) (fun v G' Ho=>G'=G∧∃ j,Ho=J j∧(inv xs.length j∨stop j))
def zV (K:Nat):Hp→Bool
 | []=>true
 | (t,_) :: h=>Nat.ble (t+1) K && zV K h
theorem Em {K:Nat}:∀ {A:Hp},zV K A=true→∀ t,K≤t→A.get t=none
 | [],_,t,_=>rfl
 | (i,x) :: A,h,t,ht=>by
   simp only [zV,aC] at h
   have h1:=bA h.1
   rw [bU,aL (by omega)]
   exact Em h.2 t ht
abbrev sD:=@Em
section
variable {P:Program} {ops:Array Oper} {rest:List Oper} {B:Bs} {e:Env} {D:List Deferred} {H:Hp} {G:Imm} {K:Act→World→Prop}
 {ty:TypeId} {pos:String} {after:Array Edge} {d:Nat}
theorem Bj (k:Nat):∀ (L:Hp) (t:Nat),t<k→(Hp.kill k L).get t=none
 | [],_,_=>rfl
 | (j,z) :: L,t,h=>by
   show Hp.get ((k+j,none,default) :: Hp.kill k L) t=none
   rw [bU,aL (by omega)]
   exact Bj k L t h
theorem Hold.tail {a:Act} {w:World} (k:Nat) {A Hi Ho:Hp} {G':Imm} (hA:zV k A=true) (hh:Hold B ⟨e,D,Ho.shift k++(Hi.kill k++(A++Hi.shift k)),G'⟩ a w):Hold B ⟨e,D,A++Ho.shift k,G'⟩ a w:=by
 refine hh.weaken (fun _ _ h=>h) fun t x hx=>?_
 rw [gQ] at hx
 rw [gQ,gQ,gQ]
 rcases aM t k with ht | ht
 · have h1:(Ho.shift k).get t=none:=by rw [jM,aL (by omega)]
   have h2:(Hi.shift k).get t=none:=by rw [jM,aL (by omega)]
   have h3:(Hi.kill k).get t=none:=Bj k Hi t ht
   rw [h1,h2,h3]
   rw [h1] at hx
   simpa using hx
 rw [sD hA t ht] at hx
 simp only [lB] at hx
 rw [hx];rfl
theorem Wl.yield {g:Operand} {l:Nat} {xs:Array Operand} {ats:Array TypeId} {vs:List Value} {A Hi:Hp} {post:Value→Imm→Hp→Prop} (k:Nat)
 (hn:Nat.ble (d+1) B.n=true) (hg:e.ev g=some (.func (.yield l) #[] #[])) (hx:e.evs xs.toList=some vs) (hH:H=A++Hi.shift k) (hA:zV k A=true)
 (hF:Gw P l vs G Hi post) (h:∀ v G' Ho,G.le G'→post v G' Ho→Wl P ops rest B ⟨(d,v) :: e,D,A++Ho.shift k,G'⟩ K) :
 Wl P ops (⟨some d,.call { callee:=.value g,args:=xs,argTypes:=ats },ty,pos,after,none⟩ :: rest) B ⟨e,D,H,G⟩ K:=by
 intro a w hh
 subst hH
 unfold tN
 rw [aR (by simp [Region.wanted])]
 unfold xN
 have hHi:∀ t x,Hi.get t=some x→Hp.get (A++Hi.shift k) (k+t)=some x:=fun t x hx=>by
  rw [gQ,sD hA (k+t) sV,lB,jM,aR (by omega),jR];exact hx
 have hw:HoldH Hi G w:=⟨fun t b o x=>hh.mem.own _ b o (hHi _ _ x),fun t t' b o o' x y=>by have:=hh.mem.one _ _ b _ _ (hHi _ _ x) (hHi _ _ y);omega,hh.mem.imm,fun t b o x=>hh.mem.off _ b o (hHi _ _ x)⟩
 obtain ⟨f,tmps,assign,body,hy,hR⟩:=hF w hw
 have hrun:(execOp a.eval ⟨some d,.call { callee:=.value g,args:=xs,argTypes:=ats },ty,pos,after,none⟩).run P w=.ok (.round l f tmps assign body) w:=by
  simp [execOp,resolve,Deferred.ofValue,invoke,hh.eval hg,hh.args hx,hy]
 rw [hrun]
 refine hR.mono fun x w' ⟨v,G',Ho,h1,h2,h3,h4,h5,h6,h7⟩=>⟨v,h1,?_⟩
 exact h v G' Ho h3 h7 _ _ (((hh.called k hHi h2 h3 h4 h5 h6).tail k hA).put hn v)
def Hp.tl (H:Hp) (k:Nat) (T:Hp):Prop:=∀ t x,(T.shift k).get t=some x→H.get t=some x
theorem Wk (k:Nat) (T:Hp):Hp.tl (T.shift k) k T:=fun _ _ h=>h
theorem Wm {k t:Nat} {x:Option Nat×Obj} {H T:Hp} (ht:Nat.ble (t+1) k=true) (h:Hp.tl H k T):Hp.tl ((t,x) :: H) k T:=fun i y hi=>by
 have hk:k≤i:=by
  rcases aM i k with h1 | h1
  · rw [jM,aL (by omega)] at hi;cases hi
  exact h1
 have:=bA ht
 rw [bU,aL (by omega)]
 exact h i y hi
theorem Hold.cutT {a:Act} {w:World} {e':Env} {A T:Hp} {k:Nat} (hh:Hold B ⟨e,D,H,G⟩ a w) (he:e.sub e') (hH:H.sub A) (ht:H.tl k T):Hold B ⟨e',D,A++T.shift k,G⟩ a w:=by
 refine hh.weaken (Ba he) fun t x hx=>?_
 rw [gQ] at hx
 cases hA:A.get t with
 | some y =>
   rw [hA] at hx
   have hx':y=x:=by simpa using hx
   subst hx'
   exact mH hH t y hA
 | none=>rw [hA] at hx;exact ht t x (by simpa using hx)
theorem BS {g:Operand} {l:Nat} {xs:Array Operand} {ats:Array TypeId} {vs:List Value} {A Hi:Hp} {post:Value→Imm→Hp→Prop} (k:Nat)
 (hn:Nat.ble (d+1) B.n=true) (hg:e.ev g=some (.func (.yield l) #[] #[])) (hx:e.evs xs.toList=some vs) (hH:H.sub A) (ht:H.tl k Hi) (hA:zV k A=true)
 (hF:Gw P l vs G Hi post) (h:∀ v G' Ho,G.le G'→post v G' Ho→Wl P ops rest B ⟨(d,v) :: e,D,A++Ho.shift k,G'⟩ K) :
 Wl P ops (⟨some d,.call { callee:=.value g,args:=xs,argTypes:=ats },ty,pos,after,none⟩ :: rest) B ⟨e,D,H,G⟩ K:=by
 intro a w hh
 refine Wl.yield (H:=A++Hi.shift k) k hn hg hx rfl hA hF h a w (hh.weaken (fun _ _ h=>h) (fun t x hx=>?_))
 rw [gQ] at hx
 cases hA:A.get t with
 | some y =>
   rw [hA] at hx
   have hx':y=x:=by simpa using hx
   subst hx'
   exact mH hH t y hA
 | none=>rw [hA] at hx;exact ht t x (by simpa using hx)
theorem FV {ι:Type} {r:Option Nat} {c:Code} {Q:Exit→Act→World→Prop} (k:Nat) (I:ι→Env×Hp) (T:ι→Hp) (φ:ι→Prop) (μ:ι→Nat) (i0:ι) (h0:φ i0)
 (he:e.sub (I i0).1) (hH:H.sub (I i0).2) (ht:H.tl k (T i0))
 (hb:∀ i,φ i→Wc r P c B ⟨(I i).1,D,(I i).2++(T i).shift k,G⟩ (Exit.then (Ef B (fun i=>⟨(I i).1,D,(I i).2++(T i).shift k,G⟩) φ μ (μ i)) Q)):Wc r P (.loop c) B ⟨e,D,H,G⟩ Q:=
 Kc (fun i=>⟨(I i).1,D,(I i).2++(T i).shift k,G⟩) φ μ i0 h0 (fun _ _ h=>h.cutT he hH ht) hb
theorem Yw {r:Option Nat} {c:Code} {Q:Exit→Act→World→Prop} (k:Nat) (h:Wc r P c B ⟨e,D,H.shift k,G⟩ Q):Wc r P c B ⟨e,D,H,G⟩ Q:=by
 intro a w hh
 have hg:∀ t x,(H.shift k).get t=some x→k≤t∧H.get (t - k)=some x:=fun t x hx=>by
  rw [jM] at hx
  split at hx
  · rename_i h1;exact ⟨h1,hx⟩
  cases hx
 refine h a w ⟨hh.size,hh.defers,hh.env,⟨?_,?_,hh.mem.imm,?_⟩,hh.upd,?_,hh.le,hh.new⟩
 · intro t b o hx;exact hh.mem.own _ b o (hg _ _ hx).2
 · intro t t' b o o' hx hy
   have h1:=hg _ _ hx;have h2:=hg _ _ hy
   have:=hh.mem.one _ _ b _ _ h1.2 h2.2;omega
 · intro t b o hx;exact hh.mem.off _ b o (hg _ _ hx).2
 intro t b o hx;exact hh.mine _ b o (hg _ _ hx).2
theorem PX {H L:Hp} (h:H.sub L):∀ t x,L.get t=some x→H.get t=some x:=mH h
abbrev qT:=@PX
theorem Qt {fn:Func} {G0:Imm} {Hi Ho:Hp} {w0:World} {post:Value→Imm→Hp→Prop} {n k:Nat} {x:Exit} (hx:x=.normal∨x=.ret) (hres:fn.results=#[]) (ht:H.tl k Ho) (hp:post (.tuple #[]) G Ho) :
 Ar (BJ P fn G0 Hi w0 post) x ⟨n,w0,Hi.has,G0⟩ ⟨e,[],H,G⟩:=by
 intro a w hh
 have key:a.defers=[]∧∃ v,(results fn a.tmps).run P w=.ok v w∧wB G0 Hi w0 post (.returned v) w:=by
  have hg:∀ t x,Ho.get t=some x→H.get (k+t)=some x:=fun t x hx=>ht _ _ (by rw [jM,aR (by omega),jR];exact hx)
  refine ⟨hh.defers,.tuple #[],by simp [yU,hres],.tuple #[],G,Ho,rfl,⟨?_,?_,hh.mem.imm,?_⟩,hh.le,hh.upd,hh.new,?_,hp⟩
  · intro t b o h;exact hh.mem.own _ b o (hg _ _ h)
  · intro t t' b o o' h h';have:=hh.mem.one _ _ b _ _ (hg _ _ h) (hg _ _ h');omega
  · intro t b o h;exact hh.mem.off _ b o (hg _ _ h)
  intro t b o h;exact hh.mine _ b o (hg _ _ h)
 rcases hx with rfl | rfl <;> exact key
def ML (P:Program) (fn:Func) (G:Imm) (Hi:Hp) (w:World) (post:Value→Imm→Hp→Prop):Exit→Act→World→Prop:=bodyPostM (FF none) 0 P fn (wB G Hi w post)
theorem Tc {f:FuncId} {fn:Func} {c:Code} {n:Nat} {args:List Value} {Hi:Hp} {post:Value→Imm→Hp→Prop} (hf:P.funcs[f]?=some fn) (hb:fn.body=some c) (hn:fn.ntmps=n)
 (hl:Nat.ble args.length n=true) (h:∀ w,Wc none P c ⟨n,w,Hi.has,G⟩ ⟨vF 0 args,[],Hi,G⟩ (ML P fn G Hi w post)):Does P f args G Hi post:=by
 intro w hw
 have hl':=bA hl
 refine xM.1 (callsIn_of_wp_marks (F:=FF none) (n:=0) hf hb trivial (h w _ w ?_))
 refine ⟨?_,rfl,?_,hw,kU _ _,fun t b o hx=>.inr ⟨t,o,hx⟩,cA _,fun b h1 h2=>(h1 h2).elim⟩
 · simp [hn];omega
 intro i v hi
 obtain ⟨_,h2⟩:=qV args 0 i v hi
 have h2':args[i]?=some v:=by simpa using h2
 have hlt:i<args.length:=(aS.1 h2').1
 show (args.toArray++Array.replicate (fn.ntmps - args.toArray.size) undef)[i]?=some v
 rw [pC (by simpa using hlt)]
 simpa using h2'
abbrev qW:=@Tc
def mark (b:Nat):Deferred:={ target:=.collected b,args:=#[] }
theorem vR (w:World) (b:Nat) (o:Obj):Upd (·=b) w (w.putObj b o):=⟨rfl,rfl,rfl,by simp,fun k _ hk=>World.putObj_heap_other hk⟩
section out
variable {fn:Func} {G0:Imm} {Hi:Hp} {w0:World} {post:Value→Imm→Hp→Prop} {x:Exit}
theorem Wn (hx:x=.normal∨x=.ret) (t:Nat) {b:Nat} (ht:H.get t=some (some b,.deferred (some []))) (h:Ar (ML P fn G0 Hi w0 post) .ret B ⟨e,D,(t,some b,.deferred none) :: H,G⟩) :
 Ar (ML P fn G0 Hi w0 post) x B ⟨e,mark b :: D,H,G⟩:=by
 intro a w hh
 have hb:w.heap[b]?=some (.deferred (some [])):=hh.mem.own t b _ ht
 have hlt:=(cG.1 hb).1
 have hh1:Hold B ⟨e,D,H,G⟩ { a with defers:=D } w:=⟨hh.size,rfl,hh.env,hh.mem,hh.upd,hh.mine,hh.le,hh.new⟩
 have h1:=h _ _ (hh1.set ht (vR w b (.deferred none)) (fY hlt))
 have key:LeavesInM (FF none) 0 P fn a.tmps (wB G0 Hi w0 post) a.defers .returning w:=by
  rw [hh.defers]
  exact ⟨by simp,.inl ⟨b,_,rfl,run_takeDeferred hb,h1⟩⟩
 rcases hx with rfl | rfl <;> exact key
abbrev nW:=@Wn
theorem FW (hx:x=.normal∨x=.ret) (h:Ar (BJ P fn G0 Hi w0 post) .ret B ⟨e,[],H,G⟩):Ar (ML P fn G0 Hi w0 post) x B ⟨e,[],H,G⟩:=by
 intro a w hh
 obtain ⟨hd,v,hr,hR⟩:=h a w hh
 have key:LeavesInM (FF none) 0 P fn a.tmps (wB G0 Hi w0 post) a.defers .returning w:=by
  rw [hd];exact ⟨v,hr,hR⟩
 rcases hx with rfl | rfl <;> exact key
abbrev lH:=@FW
end out
def Env.ps:List Nat→List Value→Env→Env
 | t :: ts,v :: vs,e=>Env.ps ts vs ((t,v) :: e)
 | _,_,e=>e
def Wo (P:Program) (l:Nat) (body:Code) (R:Ending→World→Prop):Exit→Act→World→Prop:=
 Exit.then (fun a₁ w₁=>∃ w₂,(Instr.beginRound l).run P w₁=.ok () w₂∧body.wpIn (FF (some l)) 0 P (roundPost P l R) a₁ w₂) (fun _ _ _=>False)
theorem Kr {l:Nat} {body:Code} {R:Ending→World→Prop} {q:Loop} {p:Option Code} (t:Nat) (ht:H.get t=some (some l,lrec q .ready p))
 (h:Wc (some l) P body B ⟨e,D,(t,some l,lrec q .busy p) :: H,G⟩ (roundPost P l R)):Ar (Wo P l body R) .normal B ⟨e,D,H,G⟩:=by
 intro a w hh
 have hb:=hh.mem.own t l _ ht
 have hlt:=(cG.1 hb).1
 refine ⟨_,run_beginRound hb rfl,?_⟩
 exact h _ _ (hh.set ht (vR w l _) (fY hlt))
section round
variable {ι:Type} {x:Exit} {l n:Nat} {w0:World} {Hi:Hp} {G0:Imm} {post:Value→Imm→Hp→Prop} {q:Loop} {p:Option Code}
theorem Td (c:Option Code) (hx:(x=.normal∧c=none)∨(x=.ret∧c=some .ret)∨∃ id,x=.exit id∧c=some (.exit id)) (t:Nat) (ht:H.get t=some (some l,lrec q .busy p)) {Ho:Hp}
 (hp:post (.bool c.isNone) G Ho) (hHo:∀ i y,Ho.get i=some y→Hp.get ((t,some l,lrec q (if c.isNone then .ready else .done) c) :: H) i=some y) :
 Ar (roundPost P l (wB G0 Hi w0 post)) x ⟨n,w0,Hi.has,G0⟩ ⟨e,D,H,G⟩:=by
 intro a w hh
 have hb:=hh.mem.own t l _ ht
 have hlt:=(cG.1 hb).1
 have h2:=hh.set ht (o':=lrec q (if c.isNone then .ready else .done) c) (vR w l _) (fY hlt)
 have h3:=h2.weaken (e':=e) (H':=Ho) (fun _ _ h=>h) hHo
 have key:∃ v w',(Instr.endRound l c).run P w=.ok v w'∧wB G0 Hi w0 post (.returned v) w':=
  ⟨_,_,run_endRound c hb,.bool c.isNone,G,Ho,rfl,h3.mem,h3.le,h3.upd,h3.new,h3.mine,hp⟩
 rcases hx with ⟨rfl,rfl⟩ | ⟨rfl,rfl⟩ | ⟨id,rfl,rfl⟩ <;> exact key
abbrev qY:=@Td
end round
theorem In {n:Nat}:∀ (ts:List Nat) (vs:List Value) (e:Env) (tmps:Array Value),tmps.size=n→(∀ i v,e.get i=some v→tmps[i]?=some v)→ts.all (fun t=>Nat.ble (t+1) n)=true→
 ((ts.zip vs).foldl (fun t (p:Nat×Value)=>t.setIfInBounds p.1 p.2) tmps).size=n∧∀ i v,(Env.ps ts vs e).get i=some v→((ts.zip vs).foldl (fun t (p:Nat×Value)=>t.setIfInBounds p.1 p.2) tmps)[i]?=some v
 | [],vs,e,tmps,hs,he,_=>by
   have:Env.ps [] vs e=e:=by cases vs <;> rfl
   rw [this];simpa using ⟨hs,he⟩
 | t :: ts,[],e,tmps,hs,he,_=>by simpa [Env.ps] using ⟨hs,he⟩
 | t :: ts,v :: vs,e,tmps,hs,he,hb=>by
   simp only [iT,aC] at hb
   have ht:=bA hb.1
   refine In ts vs ((t,v) :: e) (tmps.setIfInBounds t v) (by simpa using hs) (fun i u hu=>?_) hb.2
   rw [iE] at hu
   rw [Array.getElem?_setIfInBounds]
   by_cases hi:t=i
   · rw [aR hi] at hu ⊢;rw [aR (by omega)];exact hu
   rw [aL hi] at hu ⊢;exact he i u hu
section stmt
variable {β ι:Type} {Q:Exit→Act→World→Prop} {f:FuncId} {fst caps:List Value} {enc:β→List Value} {xs:List β} {ps:List Nat} {assign body:Code} {g:Operand}
def LJ:Option Code→LoopState | none=>.ready | some _=>.done
abbrev RJ (tl td:Nat) (q:Loop) (l dd:Nat) (A:Hp) (p:Option Code):Hp:=(tl,some l,lrec q (LJ p) p) :: (td,some dd,.deferred (some [])) :: A
theorem Wc.rangeFunc (tl td:Nat) (I:ι→Hp) (inv:Nat→ι→Prop) (stop:Code→ι→Prop) (i0:ι) (hg:e.ev g=some (.func (.func f) #[] caps.toArray)) (hf:wC P f)
 (hps:∀ x,(enc x).length=ps.length) (hpb:ps.all (fun t=>Nat.ble (t+1) B.n)=true) (hit:Kq P f caps G enc xs) (h0:inv 0 i0) (hH:∀ t x,(I i0).get t=some x→H.get t=some x)
 (htl:Nat.beq tl td=false∧∀ i,(I i).get tl=none)
 (hround:∀ k x i l dd q w0,xs[k]?=some x→inv k i→Wc (some l) P assign ⟨B.n,w0,(RJ tl td q l dd (I i) none).has,G⟩ ⟨Env.ps ps (enc x) e,[],RJ tl td q l dd (I i) none,G⟩
  (Wo P l body (wB G (RJ tl td q l dd (I i) none) w0 (fun v G' Ho=>G'=G∧∃ j:ι×Option Code,Ho=RJ tl td q l dd (I j.1) j.2∧((v=.bool true∧j.2=none∧inv (k+1) j.1)∨(v=.bool false∧∃ c,j.2=some c∧stop c j.1))))))
 (hdone:∀ j dd,inv xs.length j→Ar Q .normal B ⟨e,mark dd :: D,(td,some dd,.deferred (some [])) :: I j,G⟩)
 (hstop:∀ j dd c,stop c j→Wc none P c B ⟨e,mark dd :: D,(td,some dd,.deferred (some [])) :: I j,G⟩ Q) :
 Wc none P (.rangeFunc g ps.toArray assign body) B ⟨e,D,H,G⟩ Q:=by
 intro a w hh
 refine wpIn_rangeFunc fun fn _=>?_
 obtain ⟨q,hq⟩:∃ q:Loop,q={ state:=.ready,pending:=none,fn,tmps:=a.tmps,params:=ps.toArray,assign,body,defers:=w.heap.size }:=⟨_,rfl⟩
 obtain ⟨fnn,hf1,hf2,hf3⟩:=hf
 obtain ⟨ht3,htI⟩:=htl
 have hne:tl≠td:=fun h=>by subst h;simp at ht3
 have hA:=hh.alloc td (.deferred (some []))
 have hB:=hA.alloc tl (lrec q .ready none)
 rw [World.size_alloc] at hB
 refine ⟨w.heap.size+1,[mark w.heap.size],(w.alloc (.deferred (some []))).alloc (lrec q .ready none),{ target:=.fn (.func f) caps.toArray,args:=#[.func (.yield (w.heap.size+1)) #[] #[]] },(w.alloc (.deferred (some []))).alloc (lrec q .ready none),f,
  (.func (.yield (w.heap.size+1)) #[] #[] :: caps).toArray,(w.alloc (.deferred (some []))).alloc (lrec q .ready none),?_,?_,?_,?_,fun h=>by simp [FF] at h,?_⟩
 · have:=run_enterLoop_outer (P:=P) (w:=w) fn a.tmps ps.toArray assign body
   rw [hq];exact this
 · have hev:Act.eval a g=.func (.func f) #[] caps.toArray:=hh.eval hg
   simp only [resolve,hev]
   simp [go_sem]
 · intro f' hf';trivial
 · simp [invoke,wY _ _ hf1 hf2 hf3]
 have hB':Hold B ⟨e,D,RJ tl td q (w.heap.size+1) w.heap.size (I i0) none,G⟩ a ((w.alloc (.deferred (some []))).alloc (lrec q .ready none)):=by
  refine hB.weaken (fun _ _ h=>h) fun t x hx=>?_
  rw [bU] at hx ⊢
  split at hx <;> rename_i h1
  · rw [aR h1];exact hx
  rw [aL h1]
  rw [bU] at hx ⊢
  split at hx <;> rename_i h2
  · rw [aR h2];exact hx
  rw [aL h2];exact hH t x hx
 have hC:=hit (ι×Option Code) (fun s=>RJ tl td q (w.heap.size+1) w.heap.size (I s.1) s.2) (fun k j=>j.2=none∧inv k j.1) (fun j=>∃ c,j.2=some c∧stop c j.1) (w.heap.size+1) (i0,none) ⟨rfl,h0⟩ (fun k x i hx hi=>?_)
 · refine xM.2 ((hC _ hB'.mem).mono fun ex w' ⟨v,G',Ho,h1,h2,h3,h4,h5,h6,h7,j,h8,h9⟩=>?_)
   subst h1 h7
   have hcl:=hB'.called 0 (Hi:=RJ tl td q (w.heap.size+1) w.heap.size (I i0) none) (fun t x hx=>by rw [cH];exact hx) h2 h3 h4 h5 h6
   have hD:Hold B ⟨e,D,Ho,G'⟩ a w':=hcl.weaken (fun _ _ h=>h) (fun t x hx=>by
    rw [gQ,jM,aR (aU _),oP,hx];rfl)
   rw [h8] at hD
   obtain ⟨ji,jp⟩:=j
   have hget:Hp.get (RJ tl td q (w.heap.size+1) w.heap.size (I ji) jp) tl=some (some (w.heap.size+1),lrec q (LJ jp) jp):=by
    rw [bU,aR rfl]
   have hbk:=hD.mem.own tl _ _ hget
   have hlt:=(cG.1 hbk).1
   have hE:=hD.set hget (o':=lrec q .exhausted jp) (vR w' _ _) (fY hlt)
   have hF:Hold B ⟨e,D,(td,some w.heap.size,.deferred (some [])) :: I ji,G'⟩ a (w'.putObj (w.heap.size+1) (lrec q .exhausted jp)):=by
    refine hE.weaken (fun _ _ h=>h) fun t x hx=>?_
    rw [bU] at hx ⊢
    have htn:tl≠t:=fun h=>by
     subst h
     rw [aL (qC hne)] at hx
     have:=htI ji
     rw [hx] at this;cases this
    rw [aL htn]
    rw [bU,aL htn,bU]
    exact hx
   have hG:Hold B ⟨e,mark w.heap.size :: D,(td,some w.heap.size,.deferred (some [])) :: I ji,G'⟩ { a with defers:=[mark w.heap.size]++a.defers } (w'.putObj (w.heap.size+1) (lrec q .exhausted jp)):=
    ⟨hF.size,by show [mark w.heap.size]++a.defers=_;rw [hF.defers];rfl,hF.env,hF.mem,hF.upd,hF.mine,hF.le,hF.new⟩
   have hend:(Instr.endLoop (w.heap.size+1)).run P w'=.ok jp (w'.putObj (w.heap.size+1) (lrec q .exhausted jp)):=run_endLoop hbk (by cases jp <;> simp [LJ])
   refine ⟨jp,_,hend,?_⟩
   rcases h9 with ⟨hj,hi⟩ | ⟨c,hj,hs⟩
   · have hj':jp=none:=hj
     subst hj'
     exact hdone ji _ hi _ _ hG
   have hj':jp=some c:=hj
   subst hj'
   exact hstop ji _ c hs _ _ hG
 obtain ⟨i,ip⟩:=i
 obtain ⟨hip,hi⟩:=hi
 have hip':ip=none:=hip
 subst hip'
 intro w2 hw2
 have hl2:w2.heap[w.heap.size+1]?=some (lrec q .ready none):=hw2.own tl _ _ (by rw [bU,aR rfl];rfl)
 have hq2:q.params=ps.toArray∧q.tmps=a.tmps∧q.assign=assign∧q.body=body:=by rw [hq];exact ⟨rfl,rfl,rfl,rfl⟩
 have hy:=run_yield (P:=P) (args:=(enc x).toArray) hl2 (by show _=q.params.size;rw [hq2.1];simp [hps x])
 refine ⟨_,_,_,_,hy,roundIn_of_wpIn (F:=Fence.wide) (n:=0) trivial ?_⟩
 have hz:=In ps (enc x) e a.tmps hh.size hh.env hpb
 have hr:=hround k x i (w.heap.size+1) w.heap.size q w2 hx hi
 have hhold:Hold ⟨B.n,w2,(RJ tl td q (w.heap.size+1) w.heap.size (I i) none).has,G⟩ ⟨Env.ps ps (enc x) e,[],RJ tl td q (w.heap.size+1) w.heap.size (I i) none,G⟩
  { tmps:=(q.params.zip (enc x).toArray).foldl (fun tmps (t,a)=>tmps.setIfInBounds t a) q.tmps,defers:=[] } w2:=by
  refine ⟨?_,rfl,?_,hw2,kU _ _,fun t b o hx=>.inr ⟨t,o,hx⟩,cA _,fun b h1 h2=>(h1 h2).elim⟩
  · show ((q.params.zip (enc x).toArray).foldl _ q.tmps).size=B.n
    rw [hq2.1,hq2.2.1]
    have:=hz.1
    simpa using this
  intro i v hv
  show ((q.params.zip (enc x).toArray).foldl _ q.tmps)[i]?=some v
  rw [hq2.1,hq2.2.1]
  have:=hz.2 i v hv
  simpa using this
 have h:=hr _ w2 hhold
 show q.assign.wpIn (FF (some (w.heap.size+1))) 0 P (Wo P (w.heap.size+1) q.body _) _ _
 rw [hq2.2.2.1,hq2.2.2.2]
 exact h
abbrev oK:=@Wc.rangeFunc
end stmt
end
section
variable {P:Program} {e:Env} {H:Hp} {G:Imm} {ty:TypeId}
def En (P:Program) (t:TypeId):Bool:=match P.underlying t with | some (.func _ _ _)=>true | _=>false
theorem yI {t:TypeId} {f:Fn} {fs cs:Array Value} (ht:En P t=true) (d:Nat) (w:World):(Op.equalIn (d+1) t (.func f fs cs) .nilFunc).run P w=.ok false w:=by
 unfold En at ht
 split at ht
 · rename_i a1 a2 a3 hu
   simp [Op.equalIn,aV hu]
 cases ht
theorem Nq {t t':TypeId} {x y:Operand} {f:Fn} {fs cs:Array Value} (ht:En P t=true) (hx:e.ev x=some (.func f fs cs)) (hy:e.ev y=some .nilFunc):Qy P (.binOp .eql t x y t') ty e H G (.bool false):=fun a w _ _ _ _ hh=>by
 have:=yI (P:=P) (f:=f) (fs:=fs) (cs:=cs) ht 9999 w
 simp [execOp,hh.eval hx,hh.eval hy,binOp,eqGuard,Op.equal,Op.maxDepth,this]
theorem Nr {t t':TypeId} {x y:Operand} {f:Fn} {fs cs:Array Value} (ht:En P t=true) (hx:e.ev x=some (.func f fs cs)) (hy:e.ev y=some .nilFunc):Qy P (.binOp .neq t x y t') ty e H G (.bool true):=fun a w _ _ _ _ hh=>by
 have:=yI (P:=P) (f:=f) (fs:=fs) (cs:=cs) ht 9999 w
 simp [execOp,hh.eval hx,hh.eval hy,binOp,eqGuard,Op.equal,Op.maxDepth,this]
theorem yB {t E:TypeId} {a:Option Addr} {n c:Nat} (ht:P.underlying t=some (.slice E)) (d:Nat) (w:World):(Op.equalIn (d+1) t (.slice a n c) (.slice none 0 0)).run P w=.ok a.isNone w:=by
 cases a <;> simp [Op.equalIn,aV ht]
theorem Ks {t t':TypeId} {x y:Operand} {a:Option Addr} {n c E sz:Nat} (ht:tJ P t E sz) (hx:e.ev x=some (.slice a n c)) (hy:e.ev y=some (.slice none 0 0)):Qy P (.binOp .eql t x y t') ty e H G (.bool (decide (a=none))):=fun w0 w _ _ _ _ hh=>by
 have:=yB (P:=P) (a:=a) (n:=n) (c:=c) ht.1 9999 w
 simp [execOp,hh.eval hx,hh.eval hy,binOp,eqGuard,Op.equal,Op.maxDepth,this]
 cases a <;> rfl
abbrev gH:=@Ks
theorem Bk {t t':TypeId} {x y:Operand} {a:Option Addr} {n c E sz:Nat} (ht:tJ P t E sz) (hx:e.ev x=some (.slice a n c)) (hy:e.ev y=some (.slice none 0 0)):Qy P (.binOp .neq t x y t') ty e H G (.bool (decide (a≠none))):=fun w0 w _ _ _ _ hh=>by
 have:=yB (P:=P) (a:=a) (n:=n) (c:=c) ht.1 9999 w
 simp [execOp,hh.eval hx,hh.eval hy,binOp,eqGuard,Op.equal,Op.maxDepth,this]
 cases a <;> rfl
theorem Ns {T:TypeId} {x i:Operand} {b o n sz:Nat} {zs:List Value} {k:IntKind} {m:Int} (j:Nat) (hT:ArrayOf P T n sz zs) (hx:e.ev x=some (.pointer (some ⟨b,o,none⟩))) (hi:e.ev i=some (.int k m))
 (hb:decide (0≤m∧m<n)=true) (hj:Nat.beq (m.toNat*sz) j=true):Qy P (.indexAddr T x i) ty e H G (.pointer (some ⟨b,o+j,none⟩)):=fun a w _ _ _ _ hh=>by
 obtain ⟨z,E,hu,_,_,hs⟩:=hT
 have hb':=rU hb
 have hj':=aD hj
 simp [execOp,Instr.indexAt,Instr.sureAddr,hh.eval hx,hh.eval hi,asIntOf,aV hu,hb',run_sizeOf w hs,add_lit,hj']
abbrev iS:=@Ns
end
section
variable {P:Program} {B:Bs} {e:Env} {D:List Deferred} {H:Hp} {G:Imm}
theorem Hold.base {a:Act} {w:World} (hh:Hold B ⟨e,D,H,G⟩ a w):Hold B ⟨e,D,H,B.G0⟩ a w:=by
 refine ⟨hh.size,hh.defers,hh.env,⟨hh.mem.own,hh.mem.one,fun b o h=>hh.mem.imm b o (hh.le b o h),fun t b o h=>?_⟩,hh.upd,hh.mine,cA _,fun b h h0=>(h h0).elim⟩
 have h1:G b=none:=hh.mem.off t b o h
 show B.G0 b=none
 cases hg:B.G0 b with
 | none=>rfl
 | some x=>have h2:G b=some x:=hh.le b x hg;rw [h1] at h2;cases h2
theorem Ar.base {Q:Exit→Act→World→Prop} {x:Exit} (h:Ar Q x B ⟨e,D,H,B.G0⟩):Ar Q x B ⟨e,D,H,G⟩:=fun a w hh=>h a w hh.base
end
def Gz (r:Option Nat) (P:Program) (c:Code) (Q:Exit→Act→World→Prop) (a:Act) (w:World):Prop:=
 ∀ (b:Frame) (k:List Item) (cs:List Frame),b.roundOf=(FF r).round→(FF r).fn b.fn→(FF r).room (cs.length+1+0)→
  ∃ e a' w',Q e a' w'∧ArrivesIn (Machine.fenced P (FF r)) P (lone (b.atR a (.code c :: .inLoop c :: k)) cs w) b k cs e a' w'
def La (r:Option Nat) (P:Program) (c:Code) (B:Bs) (S:St) (Q:Exit→Act→World→Prop):Prop:=∀ a w,Hold B S a w→Gz r P c Q a w
section
variable {r:Option Nat} {P:Program} {B:Bs} {S:St} {Q:Exit→Act→World→Prop} {c:Code}
theorem Ku (h:La r P c B S Q):Wc r P (.loop c) B S Q:=by
 intro a w hh b k cs hro hb' hr
 obtain ⟨e,a',w',hq,harr⟩:=h a w hh b k cs hro hb' hr
 exact ⟨e,a',w',hq,.of_steps (.one (mL hb' hr rfl) stepR_loop) harr⟩
theorem La.round (h:Wc r P c B S (Exit.then (Gz r P c Q) Q)):La r P c B S Q:=by
 intro a w hh b k cs hro hb' hr
 obtain ⟨x,a₁,w₁,hq,harr⟩:=h a w hh b (.inLoop c :: k) cs hro hb' hr
 cases x with
 | normal =>
   obtain ⟨e₂,a₂,w₂,hq₂,harr₂⟩:=hq b k cs hro hb' hr
   exact ⟨e₂,a₂,w₂,hq₂,.of_steps (rK harr (.one (mL hb' hr rfl) stepR_inLoop)) harr₂⟩
 | exit id=>exact ⟨_,a₁,w₁,hq,.pass (x:=.inLoop c) rfl (fun _ _=>.inl tS) harr⟩
 | goto l=>exact ⟨_,a₁,w₁,hq,.pass (x:=.inLoop c) rfl (fun _ _=>.inl tS) harr⟩
 | ret=>exact ⟨_,a₁,w₁,hq,.pass (x:=.inLoop c) rfl (fun _ _=>.inl tS) harr⟩
 | panic ch=>exact ⟨_,a₁,w₁,hq,.pass (x:=.inLoop c) rfl (fun _ _=>.inl tS) harr⟩
 | outgrown=>exact ⟨_,a₁,w₁,hq,.pass (x:=.inLoop c) rfl (fun _ _=>.inl tS) harr⟩
abbrev mZ:=@La.round
theorem MM (h:La r P c B S Q):Ar (Exit.then (Gz r P c Q) Q) .normal B S:=h
abbrev rE:=@MM
end
def FX (P:Program):List (Nat×Nat×Nat)→Prop
 | []=>True
 | x :: l=>Jh P x.1 x.2.1 x.2.2∧FX P l
def AllSl (P:Program):List Nat→Prop
 | []=>True
 | x :: l=>(∃ E sz,tJ P x E sz)∧AllSl P l
def AllOne (P:Program):List Nat→Prop
 | []=>True
 | x :: l=>vK P x=true∧AllOne P l
def AllAgg (P:Program):List (Nat×Nat)→Prop
 | []=>True
 | x :: l=>(wK P x.1 x.2=true∧(P.info? x.1).map (·.size)=some x.2)∧AllAgg P l
def AllFn (P:Program):List Nat→Prop
 | []=>True
 | x :: l=>wC P x∧AllFn P l
class Tab (P:Program) where
 fn:List Nat
 fnP:AllFn P fn
 one:List Nat
 agg:List (Nat×Nat)
 sl:List Nat
 fa:List (Nat×Nat×Nat)
 oneP:AllOne P one
 aggP:AllAgg P agg
 slP:AllSl P sl
 faP:FX P fa
def Qu:List Nat→Nat→Bool
 | [],_=>false
 | x :: l,t=>bif Nat.beq x t then true else Qu l t
def lookN:List (Nat×Nat)→Nat→Option Nat
 | [],_=>none
 | (x,y) :: l,t=>bif Nat.beq x t then some y else lookN l t
def FY:List (Nat×Nat×Nat)→Nat→Nat→Option Nat
 | [],_,_=>none
 | (x,y,z) :: l,s,f=>bif Nat.beq x s && Nat.beq y f then some z else FY l s f
theorem sY {α:Type} {b:Bool} {x y z:α} (h:(bif b then x else y)=z):(b=true∧x=z)∨(b=false∧y=z):=by cases b <;> simp_all
theorem Kv {P:Program}:∀ {l:List Nat} {t:Nat},AllOne P l→Qu l t=true→vK P t=true
 | [],t,_,h=>yS
 | x :: l,t,ha,h=>by
   rcases sY h with ⟨h1,_⟩ | ⟨_,h2⟩
   · have:=aD h1;subst this;exact ha.1
   exact Kv ha.2 h2
theorem Qv {P:Program}:∀ {l:List Nat} {t:Nat},AllFn P l→Qu l t=true→wC P t
 | [],t,_,h=>yS
 | x :: l,t,ha,h=>by
   rcases sY h with ⟨h1,_⟩ | ⟨_,h2⟩
   · have:=aD h1;subst this;exact ha.1
   exact Qv ha.2 h2
theorem Yx {P:Program}:∀ {l:List Nat} {t:Nat},AllSl P l→Qu l t=true→∃ E sz,tJ P t E sz
 | [],t,_,h=>yS
 | x :: l,t,ha,h=>by
   rcases sY h with ⟨h1,_⟩ | ⟨_,h2⟩
   · have:=aD h1;subst this;exact ha.1
   exact Yx ha.2 h2
theorem Ha {P:Program}:∀ {l:List (Nat×Nat)} {t k:Nat},AllAgg P l→lookN l t=some k→wK P t k=true∧(P.info? t).map (·.size)=some k
 | [],t,k,_,h=>yS
 | (x,y) :: l,t,k,ha,h=>by
   rcases sY h with ⟨h1,h2⟩ | ⟨_,h2⟩
   · have:=aD h1;subst this;cases h2;exact ha.1
   exact Ha ha.2 h2
theorem Te {P:Program}:∀ {l:List (Nat×Nat×Nat)} {s f k:Nat},FX P l→FY l s f=some k→Jh P s f k
 | [],s,f,k,_,h=>yS
 | (x,y,z) :: l,s,f,k,ha,h=>by
   rcases sY h with ⟨h1,h2⟩ | ⟨_,h2⟩
   · simp only [aC] at h1
     have h3:=aD h1.1
     have h4:=aD h1.2
     subst h3;subst h4;cases h2;exact ha.1
   exact Te ha.2 h2
def EY:IntKind→IntKind→Bool
 | .i8,.i8 | .i16,.i16 | .i32,.i32 | .i64,.i64 | .u8,.u8 | .u16,.u16 | .u32,.u32 | .u64,.u64=>true
 | _,_=>false
theorem Hb {a b:IntKind} (h:EY a b=true):a=b:=by cases a <;> cases b <;> first | rfl | cases h
def Ed {α:Type}:List α→Nat→Option α
 | [],_=>none
 | x :: l,n=>bif Nat.beq n 0 then some x else Ed l (Nat.pred n)
theorem xA {α:Type}:∀ (l:List α) (n:Nat),Ed l n=l[n]?
 | [],n=>by simp [Ed]
 | x :: l,n=>by
   unfold Ed
   cases n with
   | zero=>rfl
   | succ n=>simp only [Nat.beq,mD,Nat.pred_succ,xA l n,gO]
abbrev Rz:=Value×List Nat×Prop
inductive IOp | eql | neq | lss | leq | gtr | geq | add | sub
def iop:BinOp→Option IOp
 | .eql=>some .eql | .neq=>some .neq | .lss=>some .lss | .leq=>some .leq | .gtr=>some .gtr | .geq=>some .geq | .add=>some .add | .sub=>some .sub
 | _=>none
def XT (o:IOp) (k:IntKind) (m n:Int) (hs:List Nat):Option Rz:=
 match o with
 | .eql=>some (.bool (decide (m=n)),hs,True)
 | .neq=>some (.bool (decide (m≠n)),hs,True)
 | .lss=>some (.bool (decide (m<n)),hs,True)
 | .leq=>some (.bool (decide (m≤n)),hs,True)
 | .gtr=>some (.bool (decide (n<m)),hs,True)
 | .geq=>some (.bool (decide (n≤m)),hs,True)
 | .add=>bif EY k .i64 then some (.int .i64 (m+n),hs,-9223372036854775808≤m+n∧m+n≤9223372036854775807) else none
 | .sub=>bif EY k .i64 then some (.int .i64 (m - n),hs,-9223372036854775808≤m - n∧m - n≤9223372036854775807) else none
def SU (P:Program) [Tab P] (e:Env) (H:Hp) (hs:List Nat):Op→Option Rz
 | .move x=>match e.ev x with | some v=>some (v,hs,True) | none=>none
 | .assign x=>match e.ev x with | some v=>some (v,hs,True) | none=>none
 | .pick c x y=>match e.ev c with
   | some (.bool b)=>match e.ev (bif b then x else y) with | some v=>some (v,hs,True) | none=>none
   | _=>none
 | .unOp .not _ x=>match e.ev x with | some (.bool b)=>some (.bool (!b),hs,True) | _=>none
 | .binOp o _ x y _=>match iop o with
   | some o=>match e.ev x with
     | some (.int k m)=>match e.ev y with
       | some (.int k' n)=>bif EY k k' then XT o k m n hs else none
       | _=>none
     | _=>none
   | none=>none
 | .extract x i=>match e.ev x with
   | some (.tuple ⟨vs⟩)=>match Ed vs i with | some v=>some (v,hs,True) | none=>none
   | _=>none
 | .nilCheck x=>match e.ev x with
   | some (.pointer (some ad))=>some (.pointer (some ad),hs,True)
   | _=>none
 | .fieldAddr s x f=>match FY (Tab.fa P) s f with
   | some k=>match e.ev x with
     | some (.pointer (some ⟨b,o,none⟩))=>some (.pointer (some ⟨b,o+k,none⟩),hs,True)
     | _=>none
   | none=>none
 | .load T x=>match hs with
   | t :: hs=>match e.ev x with
     | some (.pointer (some ⟨b,off,none⟩))=>match H.get t with
       | some (some b',.cells ⟨cs⟩ _ _)=>match Qu (Tab.one P) T with
         | true=>match Ed cs off with | some v=>some (v,hs,b=b') | none=>none
         | false=>match lookN (Tab.agg P) T with
           | some k=>bif Nat.beq off 0 && Nat.beq cs.length k then some (.agg cs.toArray,hs,b=b') else none
           | none=>none
       | _=>none
     | _=>none
   | []=>none
 | .call ⟨.builtin .len,⟨[x]⟩,⟨[T]⟩⟩=>match Qu (Tab.sl P) T with
   | true=>match e.ev x with | some (.slice _ n _)=>some (.int .i64 n,hs,True) | _=>none
   | false=>none
 | _=>none
theorem PY {P:Program} {e:Env} {H:Hp} {G:Imm} {ty t t':TypeId} {hs hs':List Nat} {bo:BinOp} {o:IOp} {x y:Operand} {k:IntKind} {m n:Int} {v:Value} {ob:Prop} (ho:iop bo=some o) (hx:e.ev x=some (.int k m)) (hy:e.ev y=some (.int k n))
 (h:XT o k m n hs=some (v,hs',ob)) (hob:ob):Qy P (.binOp bo t x y t') ty e H G v:=by
 cases bo <;> first | (cases ho;done) | skip
 all_goals
  cases ho
  unfold XT at h
  first
   | (cases h;first | exact Qy.eql hx hy | exact Qy.neq hx hy | exact Qy.lss hx hy | exact Qy.leq hx hy | exact Qy.gtr hx hy | exact Qy.geq hx hy)
   | (rcases sY h with ⟨hk,h⟩ | ⟨_,h⟩
      · have:=Hb hk
        subst this
        cases h
        first | exact Qy.add hx hy hob | exact Qy.sub hx hy hob
      cases h)
theorem Qw {P:Program} [T:Tab P] {e:Env} {H:Hp} {G:Imm} {ty:TypeId} {hs hs':List Nat} {o:Op} {v:Value} {ob:Prop} (h:SU P e H hs o=some (v,hs',ob)) (hob:ob):Qy P o ty e H G v:=by
 unfold SU at h
 split at h
 · split at h
   · rename_i hx;cases h;exact oM hx
   cases h
 · split at h
   · rename_i hx;cases h;exact Qy.assign hx
   cases h
 · split at h
   · rename_i hc
     split at h
     · rename_i hv;cases h;exact Qy.pick hc hv
     cases h
   cases h
 · split at h
   · rename_i hx;cases h;exact Qy.not hx
   cases h
 · split at h
   · rename_i o' ho
     split at h
     · rename_i k m hx
       split at h
       · rename_i k' n hy
         rcases sY h with ⟨hk,h9⟩ | ⟨_,h9⟩
         · have h8:=Hb hk
           subst h8
           exact PY ho hx hy h9 hob
         cases h9
       cases h
     cases h
   cases h
 · split at h
   · rename_i hx
     split at h
     · rename_i hv;cases h;rw [xA] at hv;exact Qy.extract hx hv
     cases h
   cases h
 · split at h
   · rename_i hx;cases h;exact Qy.nilCheck hx
   cases h
 · split at h
   · rename_i k hk
     split at h
     · rename_i hx;cases h;exact Qy.fieldAddr (Te T.faP hk) hx
     cases h
   cases h
 · split at h
   · split at h
     · rename_i hx
       split at h
       · rename_i hH
         split at h
         · rename_i h1
           split at h
           · rename_i hv
             cases h
             subst hob
             rw [xA] at hv
             exact Qy.load _ (Kv T.oneP h1) hx hH hv
           cases h
         split at h
         · rename_i k hk
           rcases sY h with ⟨hc,h⟩ | ⟨_,h⟩
           · cases h
             subst hob
             simp only [aC] at hc
             have h0:=aD hc.1
             subst h0
             exact Di _ (Ha T.aggP hk).1 hx hH (aD hc.2)
           cases h
         cases h
       cases h
     cases h
   cases h
 · split at h
   · rename_i h1
     split at h
     · rename_i hx
       cases h
       obtain ⟨E,sz,hT⟩:=Yx T.slP h1
       exact Qy.len hT hx
     cases h
   cases h
 cases h
inductive Fr where
 | seq (y:Code)
 | thn (K:Act→World→Prop)
 | blk (id:Nat)
def Ji (P:Program) (r:Option Nat) (Q0:Exit→Act→World→Prop):List Fr→Exit→Act→World→Prop
 | []=>Q0
 | .seq y :: k=>Exit.then (y.wpIn (FF r) 0 P (Ji P r Q0 k)) (Ji P r Q0 k)
 | .thn K :: k=>Exit.then K (Ji P r Q0 k)
 | .blk id :: k=>Exit.inBlock id (Ji P r Q0 k)
def Reify (P:Program) (r:Option Nat) (Q:Exit→Act→World→Prop) (k:List Fr) (Q0:Exit→Act→World→Prop):Prop:=Q=Ji P r Q0 k
theorem Reify.seq {P:Program} {r:Option Nat} {Q Q0:Exit→Act→World→Prop} {k:List Fr} {y:Code} (h:Reify P r Q k Q0):Reify P r (Exit.then (y.wpIn (FF r) 0 P Q) Q) (.seq y :: k) Q0:=by
 unfold Reify at *;subst h;rfl
abbrev lK:=@Reify.seq
theorem Reify.thn {P:Program} {r:Option Nat} {Q Q0:Exit→Act→World→Prop} {k:List Fr} {K:Act→World→Prop} (h:Reify P r Q k Q0):Reify P r (Exit.then K Q) (.thn K :: k) Q0:=by
 unfold Reify at *;subst h;rfl
abbrev lJ:=@Reify.thn
theorem Reify.blk {P:Program} {r:Option Nat} {Q Q0:Exit→Act→World→Prop} {k:List Fr} {id:Nat} (h:Reify P r Q k Q0):Reify P r (Exit.inBlock id Q) (.blk id :: k) Q0:=by
 unfold Reify at *;subst h;rfl
abbrev lL:=@Reify.blk
theorem Wp {P:Program} {r r':Option Nat} {Q0 Q1:Exit→Act→World→Prop} {k:List Fr} (h:Reify P r Q0 k Q1):Reify P r (Ji P r' Q0 []) k Q1:=h
abbrev kY:=@Wp
theorem Wq {P:Program} {r:Option Nat} {Q0 Q1:Exit→Act→World→Prop} {k k':List Fr} {y:Code} (h:Reify P r (Ji P r Q0 k) k' Q1):Reify P r (Ji P r Q0 (.seq y :: k)) (.seq y :: k') Q1:=lK h
abbrev kX:=@Wq
theorem Ws {P:Program} {r:Option Nat} {Q0 Q1:Exit→Act→World→Prop} {k k':List Fr} {K:Act→World→Prop} (h:Reify P r (Ji P r Q0 k) k' Q1):Reify P r (Ji P r Q0 (.thn K :: k)) (.thn K :: k') Q1:=lJ h
abbrev kW:=@Ws
theorem Wt {P:Program} {r:Option Nat} {Q0 Q1:Exit→Act→World→Prop} {k k':List Fr} {id:Nat} (h:Reify P r (Ji P r Q0 k) k' Q1):Reify P r (Ji P r Q0 (.blk id :: k)) (.blk id :: k') Q1:=lL h
abbrev kZ:=@Wt
theorem Reify.none {P:Program} {Q:Exit→Act→World→Prop}:Reify P .none Q [] Q:=rfl
abbrev kV:=@Reify.none
theorem Reify.any {P:Program} {r:Option Nat} {Q:Exit→Act→World→Prop}:Reify P r Q [] Q:=rfl
abbrev mO:=@Reify.any
inductive Fo where
 | c (c:Code)
 | l (ops:Array Oper) (l:List Oper)
 | a (x:Exit)
def zR:List Oper→Nat→Option Nat
 | [],_=>none
 | x :: l,n=>bif Nat.beq n 0 then x.dst else zR l (Nat.pred n)
theorem Aj:∀ (l:List Oper) (n:Nat),zR l n=(l[n]?).bind (·.dst)
 | [],n=>by simp [zR]
 | x :: l,n=>by
   unfold zR
   cases n with
   | zero=>rfl
   | succ n=>simp only [Nat.beq,mD,Nat.pred_succ,Aj l n,gO]
abbrev Cf:=Fo×List Fr×Env×Hp×List Nat
def FZ (P:Program) [Tab P] (n:Nat) (ops:Array Oper) (k:List Fr) (e:Env) (H:Hp) (hs:List Nat) (rest:List Oper):Oper→Option (Cf×Prop)
 | ⟨some d,o,_,_,_,none⟩=>match Nat.ble (d+1) n with
   | true=>match SU P e H hs o with
     | some (v,hs,ob)=>some ((.l ops rest,k,(d,v) :: e,H,hs),ob)
     | none=>none
   | false=>none
 | ⟨none,.store T x y,_,_,_,none⟩=>match hs with
   | t :: hs=>match e.ev x with
     | some (.pointer (some ⟨b,off,none⟩))=>match H.get t with
       | some (some b',.cells ⟨cs⟩ bt (0,0))=>match e.ev y with
         | some v=>match Qu (Tab.one P) T with
           | true=>bif v.oneCell' && Nat.ble (off+1) cs.length then some ((.l ops rest,k,e,(t,some b',.cells (cs.set off v).toArray bt (0,0)) :: H,hs),b=b') else none
           | false=>match lookN (Tab.agg P) T with
             | some m=>match v with
               | .agg ⟨vs⟩=>bif Nat.beq off 0 && (Nat.beq vs.length m && (Nat.beq vs.length cs.length && vs.all (·.oneCell'))) then some ((.l ops rest,k,e,(t,some b',.cells vs.toArray bt (0,0)) :: H,hs),b=b') else none
               | _=>none
             | none=>none
         | none=>none
       | _=>none
     | _=>none
   | []=>none
 | ⟨dst,o,ty,pos,after,some (j,w)⟩=>match zR ops.toList j with
   | some t=>match e.get t with
     | some (.bool b)=>bif (match b,w with | true,true=>true | false,false=>true | _,_=>false) then some ((.l ops (⟨dst,o,ty,pos,after,none⟩ :: rest),k,e,H,hs),True)
       else match dst with
        | some d=>bif Nat.ble (d+1) n then some ((.l ops rest,k,(d,undef) :: e,H,hs),True) else none
        | none=>none
     | _=>none
   | none=>none
 | _=>none
def XU (P:Program) [Tab P] (n:Nat):Fo→List Fr→Env→Hp→List Nat→Option (Cf×Prop)
 | .c (.seq x y),k,e,H,hs=>some ((.c x,.seq y :: k,e,H,hs),True)
 | .c .skip,k,e,H,hs=>some ((.a .normal,k,e,H,hs),True)
 | .c (.label _),k,e,H,hs=>some ((.a .normal,k,e,H,hs),True)
 | .c (.exit id),k,e,H,hs=>some ((.a (.exit id),k,e,H,hs),True)
 | .c .ret,k,e,H,hs=>some ((.a .ret,k,e,H,hs),True)
 | .c (.block id c),k,e,H,hs=>some ((.c c,.blk id :: k,e,H,hs),True)
 | .c (.region _ ⟨l⟩ false),k,e,H,hs=>bif l.all uD then some ((.l l.toArray l,k,e,H,hs),True) else none
 | .c (.cond c x y),k,e,H,h :: hs=>match e.ev c with
   | some (.bool b)=>bif Nat.beq h 1 then some ((.c x,k,e,H,hs),b=true) else some ((.c y,k,e,H,hs),b=false)
   | _=>none
 | .a .normal,.seq y :: k,e,H,hs=>some ((.c y,k,e,H,hs),True)
 | .a .normal,.blk _ :: k,e,H,hs=>some ((.a .normal,k,e,H,hs),True)
 | .a (.exit id),.blk j :: k,e,H,hs=>bif Nat.beq id j then some ((.a .normal,k,e,H,hs),True) else some ((.a (.exit id),k,e,H,hs),True)
 | .a (.exit id),_ :: k,e,H,hs=>some ((.a (.exit id),k,e,H,hs),True)
 | .a .ret,_ :: k,e,H,hs=>some ((.a .ret,k,e,H,hs),True)
 | .l _ [],k,e,H,hs=>some ((.a .normal,k,e,H,hs),True)
 | .l ops (o :: rest),k,e,H,hs=>FZ P n ops k e H hs rest o
 | _,_,_,_,_=>none
def run (P:Program) [Tab P] (n:Nat):Nat→Fo→List Fr→Env→Hp→List Nat→Option (Cf×Prop)
 | 0,f,k,e,H,hs=>some ((f,k,e,H,hs),True)
 | m+1,f,k,e,H,hs=>match XU P n f k e H hs with
   | some ((f,k,e,H,hs),ob)=>match run P n m f k e H hs with
     | some (c,obs)=>some (c,ob∧obs)
     | none=>none
   | none=>none
section
variable {P:Program} {r:Option Nat} {B:Bs} {D:List Deferred} {G:Imm} {Q0:Exit→Act→World→Prop}
def Ci (P:Program) (r:Option Nat) (B:Bs) (D:List Deferred) (G:Imm) (Q0:Exit→Act→World→Prop):Cf→Prop
 | (.c c,k,e,H,_)=>Wc r P c B ⟨e,D,H,G⟩ (Ji P r Q0 k)
 | (.l ops l,k,e,H,_)=>Wl P ops l B ⟨e,D,H,G⟩ (Ji P r Q0 k .normal)
 | (.a x,k,e,H,_)=>Ar (Ji P r Q0 k) x B ⟨e,D,H,G⟩
theorem GA [T:Tab P] {ops:Array Oper} {k:List Fr} {e:Env} {H:Hp} {hs:List Nat} {rest:List Oper} {o:Oper} {c:Cf} {ob:Prop} (h:FZ P B.n ops k e H hs rest o=some (c,ob)) (hob:ob) (hg:Ci P r B D G Q0 c) :
 Ci P r B D G Q0 (.l ops (o :: rest),k,e,H,hs):=by
 unfold FZ at h
 split at h
 · split at h
   · rename_i hn
     split at h
     · rename_i hq;cases h;exact eK hn (Qw hq hob) hg
     cases h
   cases h
 · split at h
   · split at h
     · rename_i hx
       split at h
       · rename_i hH
         split at h
         · rename_i v hy
           split at h
           · rename_i h1
             rcases sY h with ⟨hc,h⟩ | ⟨_,h⟩
             · cases h
               subst hob
               simp only [aC] at hc
               exact Wl.store _ (Kv T.oneP h1) hx hy hc.1 hH hc.2 hg
             cases h
           split at h
           · rename_i m hm
             split at h
             · rename_i vs
               rcases sY h with ⟨hc,h⟩ | ⟨_,h⟩
               · cases h
                 subst hob
                 simp only [aC] at hc
                 have h0:=aD hc.1
                 subst h0
                 exact Sx _ (Ha T.aggP hm).2 hx hy (aD hc.2.1) hc.2.2.2 hH hc.2.2.1 hg
               cases h
             cases h
           cases h
         cases h
       cases h
     cases h
   cases h
 · split at h
   · rename_i t ht
     rw [Aj] at ht
     split at h
     · rename_i b hb
       rcases sY h with ⟨hw,h⟩ | ⟨hw,h⟩
       · cases h
         refine Wl.want (t:=t) (by simpa using ht) (hb.trans ?_) hg
         split at hw <;> first | rfl | cases hw
       split at h
       · rcases sY h with ⟨hn,h⟩ | ⟨_,h⟩
         · cases h
           refine Wl.pass (t:=t) (by simpa using ht) (hb.trans ?_) hn hg
           rename_i w _ _ _ _ _
           cases b <;> cases w <;> first | rfl | cases hw
         cases h
       cases h
     cases h
   cases h
 cases h
theorem PZ [T:Tab P] {f:Fo} {k:List Fr} {e:Env} {H:Hp} {hs:List Nat} {c:Cf} {ob:Prop} (h:XU P B.n f k e H hs=some (c,ob)) (hob:ob) (hg:Ci P r B D G Q0 c) :
 Ci P r B D G Q0 (f,k,e,H,hs):=by
 unfold XU at h
 split at h
 · cases h;exact dT hg
 · cases h;exact lV hg
 · cases h;exact Wc.label hg
 · cases h;exact Wc.exit hg
 · cases h;exact nN hg
 · cases h;exact Wc.block hg
 · rcases sY h with ⟨hd,h⟩ | ⟨_,h⟩
   · cases h;exact cX hd hg
   cases h
 · split at h
   · rename_i b hb
     rcases sY h with ⟨_,h⟩ | ⟨_,h⟩
     · cases h;subst hob;exact FE hb hg
     cases h;subst hob;exact FG hb hg
   cases h
 · cases h;exact cE hg
 · cases h;exact sI hg
 · rcases sY h with ⟨hd,h9⟩ | ⟨hd,h9⟩
   · have h8:=aD hd
     subst h8
     cases h9;exact Ar.here hg
   cases h9;exact Wf hd hg
 · rename_i id fr k hne
   cases h
   cases fr with
   | seq y=>exact qZ hg
   | thn K=>exact qZ hg
   | blk j=>exact (hne j rfl).elim
 · rename_i fr k
   cases h
   cases fr with
   | seq y=>exact qF hg
   | thn K=>exact qF hg
   | blk j=>exact Gp hg
 · cases h;exact eH hg
 · exact GA h hob hg
 cases h
theorem run_ok [T:Tab P]:∀ {m:Nat} {f:Fo} {k:List Fr} {e:Env} {H:Hp} {hs:List Nat} {c:Cf} {ob:Prop},run P B.n m f k e H hs=some (c,ob)→ob→Ci P r B D G Q0 c→Ci P r B D G Q0 (f,k,e,H,hs)
 | 0,f,k,e,H,hs,c,ob,h,hob,hg=>by cases h;exact hg
 | m+1,f,k,e,H,hs,c,ob,h,hob,hg=>by
   unfold run at h
   split at h
   · rename_i h1
     split at h
     · rename_i h2
       cases h
       exact PZ h1 hob.1 (run_ok h2 hob.2 hg)
     cases h
   cases h
end
section
variable {P:Program} [Tab P] {r:Option Nat} {B:Bs} {D:List Deferred} {G:Imm} {Q Q0:Exit→Act→World→Prop} {k k':List Fr} {e e':Env} {H H':Hp} {hs':List Nat} {ob:Prop} {c c':Code} {l l':List Oper} {ops ops':Array Oper} {x x':Exit}
theorem Wc.gc (n:Nat) (hs:List Nat) (hg:Wc r P c' B ⟨e',D,H',G⟩ (Ji P r Q0 k')) (hr:Reify P r Q k Q0:=by (repeat with_reducible (first | apply kY | apply kX | apply kZ | apply kW | apply lK | apply lL | apply lJ));first | exact kV | exact mO) (h:run P B.n n (.c c) k e H hs=some ((.c c',k',e',H',hs'),ob):=by exact rfl) (hob:ob:=by (repeat refine And.intro Ng ?_);exact trivial):Wc r P c B ⟨e,D,H,G⟩ Q:=by
 unfold Reify at hr;subst hr
 exact run_ok h hob hg
abbrev cF:=@Wc.gc
theorem Wc.gl (n:Nat) (hs:List Nat) (hg:Wl P ops' l' B ⟨e',D,H',G⟩ (Ji P r Q0 k' .normal)) (hr:Reify P r Q k Q0:=by (repeat with_reducible (first | apply kY | apply kX | apply kZ | apply kW | apply lK | apply lL | apply lJ));first | exact kV | exact mO) (h:run P B.n n (.c c) k e H hs=some ((.l ops' l',k',e',H',hs'),ob):=by exact rfl) (hob:ob:=by (repeat refine And.intro Ng ?_);exact trivial):Wc r P c B ⟨e,D,H,G⟩ Q:=by
 unfold Reify at hr;subst hr
 exact run_ok h hob hg
abbrev aK:=@Wc.gl
theorem Wc.ga (n:Nat) (hs:List Nat) (hg:Ar (Ji P r Q0 k') x' B ⟨e',D,H',G⟩) (hr:Reify P r Q k Q0:=by (repeat with_reducible (first | apply kY | apply kX | apply kZ | apply kW | apply lK | apply lL | apply lJ));first | exact kV | exact mO) (h:run P B.n n (.c c) k e H hs=some ((.a x',k',e',H',hs'),ob):=by exact rfl) (hob:ob:=by (repeat refine And.intro Ng ?_);exact trivial):Wc r P c B ⟨e,D,H,G⟩ Q:=by
 unfold Reify at hr;subst hr
 exact run_ok h hob hg
abbrev bE:=@Wc.ga
theorem Wl.gc (n:Nat) (hs:List Nat) (hg:Wc r P c' B ⟨e',D,H',G⟩ (Ji P r Q0 k')) (hr:Reify P r Q k Q0:=by (repeat with_reducible (first | apply kY | apply kX | apply kZ | apply kW | apply lK | apply lL | apply lJ));first | exact kV | exact mO) (h:run P B.n n (.l ops l) k e H hs=some ((.c c',k',e',H',hs'),ob):=by exact rfl) (hob:ob:=by (repeat refine And.intro Ng ?_);exact trivial):Wl P ops l B ⟨e,D,H,G⟩ (Q .normal):=by
 unfold Reify at hr;subst hr
 exact run_ok h hob hg
abbrev bJ:=@Wl.gc
theorem Wl.gl (n:Nat) (hs:List Nat) (hg:Wl P ops' l' B ⟨e',D,H',G⟩ (Ji P r Q0 k' .normal)) (hr:Reify P r Q k Q0:=by (repeat with_reducible (first | apply kY | apply kX | apply kZ | apply kW | apply lK | apply lL | apply lJ));first | exact kV | exact mO) (h:run P B.n n (.l ops l) k e H hs=some ((.l ops' l',k',e',H',hs'),ob):=by exact rfl) (hob:ob:=by (repeat refine And.intro Ng ?_);exact trivial):Wl P ops l B ⟨e,D,H,G⟩ (Q .normal):=by
 unfold Reify at hr;subst hr
 exact run_ok h hob hg
abbrev aJ:=@Wl.gl
theorem Wl.ga (n:Nat) (hs:List Nat) (hg:Ar (Ji P r Q0 k') x' B ⟨e',D,H',G⟩) (hr:Reify P r Q k Q0:=by (repeat with_reducible (first | apply kY | apply kX | apply kZ | apply kW | apply lK | apply lL | apply lJ));first | exact kV | exact mO) (h:run P B.n n (.l ops l) k e H hs=some ((.a x',k',e',H',hs'),ob):=by exact rfl) (hob:ob:=by (repeat refine And.intro Ng ?_);exact trivial):Wl P ops l B ⟨e,D,H,G⟩ (Q .normal):=by
 unfold Reify at hr;subst hr
 exact run_ok h hob hg
abbrev aW:=@Wl.ga
theorem Ar.gc (n:Nat) (hs:List Nat) (hg:Wc r P c' B ⟨e',D,H',G⟩ (Ji P r Q0 k')) (hr:Reify P r Q k Q0:=by (repeat with_reducible (first | apply kY | apply kX | apply kZ | apply kW | apply lK | apply lL | apply lJ));first | exact kV | exact mO) (h:run P B.n n (.a x) k e H hs=some ((.c c',k',e',H',hs'),ob):=by exact rfl) (hob:ob:=by (repeat refine And.intro Ng ?_);exact trivial):Ar Q x B ⟨e,D,H,G⟩:=by
 unfold Reify at hr;subst hr
 exact run_ok h hob hg
abbrev oJ:=@Ar.gc
theorem Ar.gl (n:Nat) (hs:List Nat) (hg:Wl P ops' l' B ⟨e',D,H',G⟩ (Ji P r Q0 k' .normal)) (hr:Reify P r Q k Q0:=by (repeat with_reducible (first | apply kY | apply kX | apply kZ | apply kW | apply lK | apply lL | apply lJ));first | exact kV | exact mO) (h:run P B.n n (.a x) k e H hs=some ((.l ops' l',k',e',H',hs'),ob):=by exact rfl) (hob:ob:=by (repeat refine And.intro Ng ?_);exact trivial):Ar Q x B ⟨e,D,H,G⟩:=by
 unfold Reify at hr;subst hr
 exact run_ok h hob hg
abbrev pY:=@Ar.gl
theorem Ar.ga (n:Nat) (hs:List Nat) (hg:Ar (Ji P r Q0 k') x' B ⟨e',D,H',G⟩) (hr:Reify P r Q k Q0:=by (repeat with_reducible (first | apply kY | apply kX | apply kZ | apply kW | apply lK | apply lL | apply lJ));first | exact kV | exact mO) (h:run P B.n n (.a x) k e H hs=some ((.a x',k',e',H',hs'),ob):=by exact rfl) (hob:ob:=by (repeat refine And.intro Ng ?_);exact trivial):Ar Q x B ⟨e,D,H,G⟩:=by
 unfold Reify at hr;subst hr
 exact run_ok h hob hg
abbrev gZ:=@Ar.ga
theorem QA {K:Act→World→Prop} (n:Nat) (hs:List Nat) (hg:Wl P ops' l' B ⟨e',D,H',G⟩ K) (h:run P B.n n (.l ops l) [] e H hs=some ((.l ops' l',[],e',H',hs'),ob):=by exact rfl) (hob:ob:=by (repeat refine And.intro Ng ?_);exact trivial):Wl P ops l B ⟨e,D,H,G⟩ K:=
 run_ok (r:=none) (Q0:=fun _=>K) h hob hg
abbrev aA:=@QA
end
section
variable {P:Program} {B:Bs} {e:Env} {D:List Deferred} {H H0:Hp} {G G0:Imm} {K:Act→World→Prop} {ops:Array Oper} {l rest:List Oper} {f:Nat} {listed:Array Bool} {wr:List (Nat×Nat)} {ty:TypeId} {pos:String} {after:Array Edge} {d:Nat}
theorem Gm.o1 {o:Oper} (i:Nat) (h:Wl P l.toArray [o] B ⟨e,D,H,G⟩ (Be P l.toArray f (listed.setIfInBounds i true) wr H0 G0 K)) (hH:H.sub (H0.live wr listed):=by repeat (first | exact trivial | refine ⟨rfl,?_⟩)) (hG:G0.le G:=by first | exact cA _ | repeat (first | assumption | refine aZ ?_ sW)) (hr:Region.ready .any l.toArray listed=[i]:=by kernel_rfl) (ho:l[i]?=some o:=by exact rfl) :
 Gm P l.toArray (f+1) listed wr H0 G0 B ⟨e,D,H,G⟩ K:=Gm.one i hH hG hr ho h
abbrev fE:=@Gm.o1
theorem Gm.o2 {o1 o2:Oper} (i j:Nat) (g1:Wl P l.toArray [o1] B ⟨e,D,H,G⟩ (Be P l.toArray f (listed.setIfInBounds i true) wr H0 G0 K)) (g2:Wl P l.toArray [o2] B ⟨e,D,H,G⟩ (Be P l.toArray f (listed.setIfInBounds j true) wr H0 G0 K))
 (hH:H.sub (H0.live wr listed):=by repeat (first | exact trivial | refine ⟨rfl,?_⟩)) (hG:G0.le G:=by first | exact cA _ | repeat (first | assumption | refine aZ ?_ sW)) (hr:Region.ready .any l.toArray listed=[i,j]:=by kernel_rfl) (h1:l[i]?=some o1:=by exact rfl) (h2:l[j]?=some o2:=by exact rfl) :
 Gm P l.toArray (f+1) listed wr H0 G0 B ⟨e,D,H,G⟩ K:=PU i j hH hG hr h1 h2 g1 g2
abbrev pM:=@Gm.o2
theorem Gm.o3 {o1 o2 o3:Oper} (i j k:Nat) (g1:Wl P l.toArray [o1] B ⟨e,D,H,G⟩ (Be P l.toArray f (listed.setIfInBounds i true) wr H0 G0 K)) (g2:Wl P l.toArray [o2] B ⟨e,D,H,G⟩ (Be P l.toArray f (listed.setIfInBounds j true) wr H0 G0 K)) (g3:Wl P l.toArray [o3] B ⟨e,D,H,G⟩ (Be P l.toArray f (listed.setIfInBounds k true) wr H0 G0 K))
 (hH:H.sub (H0.live wr listed):=by repeat (first | exact trivial | refine ⟨rfl,?_⟩)) (hG:G0.le G:=by first | exact cA _ | repeat (first | assumption | refine aZ ?_ sW)) (hr:Region.ready .any l.toArray listed=[i,j,k]:=by kernel_rfl) (h1:l[i]?=some o1:=by exact rfl) (h2:l[j]?=some o2:=by exact rfl) (h3:l[k]?=some o3:=by exact rfl) :
 Gm P l.toArray (f+1) listed wr H0 G0 B ⟨e,D,H,G⟩ K:=FM i j k hH hG hr h1 h2 h3 g1 g2 g3
theorem Gm.fin {Q:Exit→Act→World→Prop} {x:Exit} (h:Ar Q x B ⟨e,D,H,G⟩) (hr:Region.ready .any ops listed=[]:=by kernel_rfl) (hH:H.sub (H0.live wr listed):=by repeat (first | exact trivial | refine ⟨rfl,?_⟩)) (hG:G0.le G:=by first | exact cA _ | repeat (first | assumption | refine aZ ?_ sW)):Gm P ops 0 listed wr H0 G0 B ⟨e,D,H,G⟩ (Q x):=
 qU hr hH hG h
abbrev dV:=@Gm.fin
theorem Gm.c [T:Tab P] {o:Op} {v:Value} {hs':List Nat} {ob:Prop} (i:Nat) (ts hs:List Nat) (h:Gm P l.toArray f (listed.setIfInBounds i true) wr H0 G0 B ⟨(d,v) :: e,D,H,G⟩ K) (ho:l[i]?=some ⟨some d,o,ty,pos,after,none⟩:=by exact rfl) (hv:SU P e (H0.only ts) hs o=some (v,hs',ob):=by exact rfl)
 (hob:ob:=by first | exact trivial | with_reducible rfl | assumption | omega | rfl) (hn:Nat.ble (d+1) B.n=true:=by exact rfl) (hB:wZ l.toArray listed wr i ts=true:=by kernel_rfl):Gm P l.toArray (f+1) listed wr H0 G0 B ⟨e,D,H,G⟩ K:=
 Gm.q i ts hB ho hn (Qw hv hob) h
abbrev fM:=@Gm.c
theorem Gm.u {o:Op} {v:Value} (i:Nat) (ts:List Nat) (ho:l[i]?=some ⟨some d,o,ty,pos,after,none⟩) (hq:Qy P o ty e (H0.only ts) G0 v) (h:Gm P l.toArray f (listed.setIfInBounds i true) wr H0 G0 B ⟨(d,v) :: e,D,H,G⟩ K)
 (hn:Nat.ble (d+1) B.n=true:=by exact rfl) (hB:wZ l.toArray listed wr i ts=true:=by kernel_rfl):Gm P l.toArray (f+1) listed wr H0 G0 B ⟨e,D,H,G⟩ K:=
 Gm.q i ts hB ho hn hq h
abbrev gD:=@Gm.u
theorem Wl.k [T:Tab P] {f:FuncId} {xs:Array Operand} {ats:Array TypeId} {vs:List Value} {Hi:Hp} {post:Value→Imm→Hp→Prop} (k:Nat) (hx:e.evs xs.toList=some vs) (hF:Does P f vs G Hi post) (h:∀ v G' Ho,G.le G'→post v G' Ho→Wl P ops rest B ⟨(d,v) :: e,D,Ho.shift k++(Hi.kill k++H),G'⟩ K)
 (hn:Nat.ble (d+1) B.n=true:=by exact rfl) (hf:Qu (Tab.fn P) f=true:=by exact rfl) (hHi:∀ t x,Hi.get t=some x→H.get (k+t)=some x:=by first | exact uH trivial | exact uH ⟨rfl,trivial⟩ | exact uH ⟨rfl,rfl,trivial⟩ | exact uH ⟨rfl,rfl,rfl,trivial⟩) :
 Wl P ops (⟨some d,.call { callee:=.value (.func f),args:=xs,argTypes:=ats },ty,pos,after,none⟩ :: rest) B ⟨e,D,H,G⟩ K:=Wl.call k hn (Qv T.fnP hf) hx hF hHi h
abbrev bV:=@Wl.k
theorem Wl.k0 [T:Tab P] {f:FuncId} {xs:Array Operand} {ats:Array TypeId} {vs:List Value} {r:Value} (hx:e.evs xs.toList=some vs) (hF:Does P f vs G [] (fun v G' Ho=>v=r∧G'=G∧Ho=[])) (h:Wl P ops rest B ⟨(d,r) :: e,D,H,G⟩ K)
 (hn:Nat.ble (d+1) B.n=true:=by exact rfl) (hf:Qu (Tab.fn P) f=true:=by exact rfl) :
 Wl P ops (⟨some d,.call { callee:=.value (.func f),args:=xs,argTypes:=ats },ty,pos,after,none⟩ :: rest) B ⟨e,D,H,G⟩ K:=FL hn (Qv T.fnP hf) hx hF h
abbrev bW:=@Wl.k0
end
section
variable {P:Program} {fn:Func} {G0:Imm} {Hi:Hp} {w0:World} {post:Value→Imm→Hp→Prop} {n:Nat} {e:Env} {H:Hp} {G:Imm} {x:Exit} {t1 t2 t3:Nat} {v1 v2 v3:Value}
theorem Ar.e1 (hp:post v1 G (H.only [])) (hx:x=.normal∨x=.ret:=by exact .inr rfl) (hres:fn.results=#[.tmp t1]:=by exact rfl) (h1:e.get t1=some v1:=by exact rfl):Ar (BJ P fn G0 Hi w0 post) x ⟨n,w0,Hi.has,G0⟩ ⟨e,[],H,G⟩:=
 dL hx hres (.tmp h1) (bK _ _) hp
abbrev bO:=@Ar.e1
theorem Ar.e2 (hp:post (.tuple #[v1,v2]) G (H.only [])) (hx:x=.normal∨x=.ret:=by exact .inr rfl) (hres:fn.results=#[.tmp t1,.tmp t2]:=by exact rfl) (h1:e.get t1=some v1:=by exact rfl) (h2:e.get t2=some v2:=by exact rfl):Ar (BJ P fn G0 Hi w0 post) x ⟨n,w0,Hi.has,G0⟩ ⟨e,[],H,G⟩:=
 iK hx hres (.tmp h1) (.tmp h2) (bK _ _) hp
abbrev eG:=@Ar.e2
theorem Ar.e3 (hp:post (.tuple #[v1,v2,v3]) G (H.only [])) (hx:x=.normal∨x=.ret:=by exact .inr rfl) (hres:fn.results=#[.tmp t1,.tmp t2,.tmp t3]:=by exact rfl) (h1:e.get t1=some v1:=by exact rfl) (h2:e.get t2=some v2:=by exact rfl) (h3:e.get t3=some v3:=by exact rfl) :
 Ar (BJ P fn G0 Hi w0 post) x ⟨n,w0,Hi.has,G0⟩ ⟨e,[],H,G⟩:=rG hx hres (.tmp h1) (.tmp h2) (.tmp h3) (bK _ _) hp
end
section
variable {P:Program} {B:Bs} {e:Env} {D:List Deferred} {H:Hp} {G:Imm}
end
section
variable {P:Program} {ops:Array Oper} {rest:List Oper} {B:Bs} {e:Env} {D:List Deferred} {H:Hp} {G:Imm} {K:Act→World→Prop} {ty:TypeId} {pos:String} {after:Array Edge} {d:Nat}
theorem Hc {α:Type} [Cells α] [Inhabited α] {T:TypeId} {x:Operand} {a:Option Addr} {c:Nat} {E bytes:Nat} {zs:List Value} {xs:List α} {junk:List Value} (t:Nat) (hT:tJ P T E (Cells.sz α)) (hE:ElemOf P E (Cells.sz α) bytes zs) (hz:Cells.enc (default:α)=zs)
 (hx:e.ev x=some (.slice a xs.length c)) (ht:H.get t=some (a.map (·.block),tK E xs junk)) (ho:OwnA a c xs junk)
 (h:OwnA a c (List.replicate xs.length (default:α)) junk→Wl P ops rest B ⟨e,D,(t,a.map (·.block),tK E (List.replicate xs.length (default:α)) junk) :: H,G⟩ K) :
 Wl P ops (⟨none,.call { callee:=.builtin .clear,args:=#[x],argTypes:=#[T] },ty,pos,after,none⟩ :: rest) B ⟨e,D,H,G⟩ K:=by
 have hlen:(List.replicate xs.length (default:α)).length=xs.length:=tS
 have h':=h (by
  rcases ho with ⟨h1,h2,h3,h4⟩ | ⟨b,h1,h2,h3,h4⟩
  · subst h2;exact .inl ⟨h1,rfl,h3,h4⟩
  exact .inr ⟨b,h1,by rw [hlen];exact h2,by rw [hlen];exact h3,h4⟩)
 by_cases h0:xs=[]
 · subst h0
   intro a0 w hh
   unfold tN
   rw [aR (by simp [Region.wanted])]
   unfold xN
   have hrun:(execOp a0.eval ⟨none,.call { callee:=.builtin .clear,args:=#[x],argTypes:=#[T] },ty,pos,after,none⟩).run P w=.ok (.value (.tuple #[])) w:=by
    have hev:a0.eval x=.slice a 0 c:=hh.eval hx
    cases a <;> simp [execOp,resolve,invoke,builtin,Builtin.clear_,hev,aV hT.1]
   rw [hrun]
   exact h' _ _ (hh.reH ht rfl)
 have hpos:0<xs.length:=oH.2 h0
 have ha:=ho.addr hpos
 have hbl:=ho.blk hpos
 rw [hbl] at ht h'
 rw [ha] at hx
 obtain ⟨i,z,hi,hz1,hz2,hs,hby,hzl,hsz⟩:=hE
 obtain ⟨n,hn⟩:∃ n,xs.length=n+1:=⟨xs.length - 1,by omega⟩
 intro a0 w hh
 unfold tN
 rw [aR (by simp [Region.wanted])]
 unfold xN
 have hb:=hh.mem.own t (ab a) _ ht
 have hev:a0.eval x=.slice (some ⟨ab a,0,none⟩) xs.length c:=hh.eval hx
 have hzc:(Builtin.zeroCells z.cells xs.length).toList=tM (List.replicate xs.length (default:α)):=by
  have h1:z.cells.size=Cells.sz α:=by rw [hz2];simpa using hzl
  have h2:Builtin.zeroCells z.cells xs.length=madeCells zs.toArray (xs.length*Cells.sz α):=by
   have h3:zs.toArray.size=Cells.sz α:=by simpa using hzl
   unfold Builtin.zeroCells madeCells
   rw [hz2,h3]
  rw [h2,Ol hz hsz]
 have hfl:(tM (List.replicate xs.length (default:α))).length=(tM xs).length:=by rw [tI,tI,hlen]
 have hst:=mT P (ab a) 0 E (tM (List.replicate xs.length (default:α))) 0 (tM xs++junk).toArray w hb (by simp [hfl]) (by simpa using Kj _)
 have hrun:(execOp a0.eval ⟨none,.call { callee:=.builtin .clear,args:=#[x],argTypes:=#[T] },ty,pos,after,none⟩).run P w=.ok (.value (.tuple #[])) (w.setRow (ab a) (tM (List.replicate xs.length (default:α))++junk).toArray):=by
  have hzv:(zeroValue E).run P w=.ok z w:=by simp [zeroValue,typeInfo,hi,hz1]
  simp only [gT] at hst
  rw [hn] at hev
  simp only [execOp,resolve,invoke,builtin,Builtin.clear_,bG,bL,aP,lO,bY,jH,hev]
  simp [aV hT.1,hzv]
  rw [←hn,hzc,hst]
  simp [hfl]
 rw [hrun]
 refine h' _ _ (hh.set ht (vE w (ab a) _) ?_)
 rw [mK w (ab a) _ _ E _ hb]
 rfl
end
section
variable {P:Program} {e:Env} {H:Hp} {G:Imm} {ty:TypeId} {t t':TypeId} {x y:Operand} {m n:Int}
theorem BT (hx:e.ev x=some (.int .u32 m)) (hy:e.ev y=some (.int .u32 n)) (hb:0≤m+n∧m+n≤4294967295):Qy P (.binOp .add t x y t') ty e H G (.int .u32 (m+n)):=by
 have:=Jf (P:=P) (H:=H) (G:=G) (ty:=ty) (t:=t) (t':=t') hx hy;rwa [nA _ hb] at this
abbrev mP:=@BT
theorem BU (hx:e.ev x=some (.int .u64 m)) (hy:e.ev y=some (.int .u64 n)) (hb:0≤m+n∧m+n≤18446744073709551615):Qy P (.binOp .add t x y t') ty e H G (.int .u64 (m+n)):=by
 have:=Jf (P:=P) (H:=H) (G:=G) (ty:=ty) (t:=t) (t':=t') hx hy;rwa [jA _ hb] at this
abbrev gF:=@BU
theorem BV (hx:e.ev x=some (.int .u32 m)) (hy:e.ev y=some (.int .u32 n)) (hb:0≤m - n∧m - n≤4294967295):Qy P (.binOp .sub t x y t') ty e H G (.int .u32 (m - n)):=by
 have:=Eg (P:=P) (H:=H) (G:=G) (ty:=ty) (t:=t) (t':=t') hx hy;rwa [nA _ hb] at this
abbrev sN:=@BV
theorem BW (hx:e.ev x=some (.int .u64 m)) (hy:e.ev y=some (.int .u64 n)) (hb:0≤m - n∧m - n≤18446744073709551615):Qy P (.binOp .sub t x y t') ty e H G (.int .u64 (m - n)):=by
 have:=Eg (P:=P) (H:=H) (G:=G) (ty:=ty) (t:=t) (t':=t') hx hy;rwa [jA _ hb] at this
abbrev jF:=@BW
theorem BX (hx:e.ev x=some (.int .u32 m)) (hy:e.ev y=some (.int .u32 n)) (hb:0≤m*n∧m*n≤4294967295):Qy P (.binOp .mul t x y t') ty e H G (.int .u32 (m*n)):=by
 have:=lM (P:=P) (H:=H) (G:=G) (ty:=ty) (t:=t) (t':=t') hx hy;rwa [nA _ hb] at this
theorem BY (hx:e.ev x=some (.int .u64 m)) (hy:e.ev y=some (.int .u64 n)) (hb:0≤m*n∧m*n≤18446744073709551615):Qy P (.binOp .mul t x y t') ty e H G (.int .u64 (m*n)):=by
 have:=lM (P:=P) (H:=H) (G:=G) (ty:=ty) (t:=t) (t':=t') hx hy;rwa [jA _ hb] at this
abbrev nO:=@BY
theorem Kw {m n:Int} (h:0≤m):m.tdiv n=m / n:=Int.tdiv_eq_ediv_of_nonneg h
theorem GB {m n:Int} (h:0≤m):m.tmod n=m % n:=Int.tmod_eq_emod_of_nonneg h
theorem Qx {m n:Int} (h:0≤m) (hn:0<n):0≤m / n∧m / n≤m:=⟨mA h (bM hn),Int.ediv_le_self _ h⟩
theorem BZ (hx:e.ev x=some (.int .u32 m)) (hy:e.ev y=some (.int .u32 n)) (hb:0≤m∧m≤4294967295∧0<n):Qy P (.binOp .quo t x y t') ty e H G (.int .u32 (m / n)):=by
 have:=Jg (P:=P) (H:=H) (G:=G) (ty:=ty) (t:=t) (t':=t') hx hy sV
 have h1:=Qx hb.1 hb.2.2
 rwa [Kw hb.1,nA _ ⟨h1.1,Int.le_trans h1.2 hb.2.1⟩] at this
abbrev pS:=@BZ
theorem CA (hx:e.ev x=some (.int .u64 m)) (hy:e.ev y=some (.int .u64 n)) (hb:0≤m∧m≤18446744073709551615∧0<n):Qy P (.binOp .quo t x y t') ty e H G (.int .u64 (m / n)):=by
 have:=Jg (P:=P) (H:=H) (G:=G) (ty:=ty) (t:=t) (t':=t') hx hy sV
 have h1:=Qx hb.1 hb.2.2
 rwa [Kw hb.1,jA _ ⟨h1.1,Int.le_trans h1.2 hb.2.1⟩] at this
abbrev oU:=@CA
theorem MN (hx:e.ev x=some (.int .i64 m)) (hy:e.ev y=some (.int .i64 n)) (hb:0≤m∧m≤9223372036854775807∧0<n):Qy P (.binOp .quo t x y t') ty e H G (.int .i64 (m / n)):=by
 have h1:=Qx hb.1 hb.2.2
 have h2:m.tdiv n=m / n:=Kw hb.1
 have:=Qy.quo (P:=P) (H:=H) (G:=G) (ty:=ty) (t:=t) (t':=t') hx hy sV (by rw [h2];exact ⟨by omega,by omega⟩)
 rwa [h2] at this
abbrev lX:=@MN
theorem MO {k:IntKind} (hx:e.ev x=some (.int k m)) (hy:e.ev y=some (.int k n)) (hb:0≤m∧0<n):Qy P (.binOp .rem t x y t') ty e H G (.int k (m % n)):=by
 have:=Qy.rem (P:=P) (H:=H) (G:=G) (ty:=ty) (t:=t) (t':=t') hx hy sV
 rwa [GB hb.1] at this
abbrev jO:=@MO
theorem CC {s:TypeId} {k:IntKind} (hs:(P.underlying s).isSome=true) (ht:P.underlying t=some (.int .u32)) (hx:e.ev x=some (.int k m)) (hb:0≤m∧m≤4294967295):Qy P (.convert s t x) ty e H G (.int .u32 m):=by
 have:=kP (P:=P) (H:=H) (G:=G) (ty:=ty) hs ht hx
 rwa [nA _ hb] at this
abbrev gL:=@CC
theorem CD {s:TypeId} {k:IntKind} (hs:(P.underlying s).isSome=true) (ht:P.underlying t=some (.int .u64)) (hx:e.ev x=some (.int k m)) (hb:0≤m∧m≤18446744073709551615):Qy P (.convert s t x) ty e H G (.int .u64 m):=by
 have:=kP (P:=P) (H:=H) (G:=G) (ty:=ty) hs ht hx
 rwa [jA _ hb] at this
abbrev cD:=@CD
end
theorem CE {P:Program} {e:Env} {H:Hp} {G:Imm} {ty T:TypeId} {x:Operand} {i:Nat} {v0 v1 v:Value} (h:∀ (w:World) (v0 v1:Value),(Instr.field T (.agg #[v0,v1]) i).run P w=.ok (#[v0,v1][i]?.getD undef) w)
 (hx:e.ev x=some (.agg #[v0,v1])) (hv:#[v0,v1][i]?.getD undef=v):Qy P (.field T x i) ty e H G v:=fun a w _ _ _ _ hh=>by
 subst hv
 simp [execOp,hh.eval hx,h]
abbrev sP:=@CE
theorem Hd (a b:Nat) (ha:a<4294967296) (hb:b<4294967296):bits .and .u32 (a:Int) (b:Int)=((a &&& b:Nat):Int):=by
 have hx:a &&& b<2 ^ 32:=Nat.and_lt_two_pow _ sV
 have h1:(BitVec.ofInt 32 (a:Int)).toNat=a:=by
  rw [gP,iA];exact gN sV
 have h2:(BitVec.ofInt 32 (b:Int)).toNat=b:=by
  rw [gP,iA];exact gN sV
 show IntKind.u32.wrap ((BitVec.ofInt 32 (a:Int) &&& BitVec.ofInt 32 (b:Int)).toNat:Int)=_
 rw [BitVec.toNat_and,h1,h2,pV]
 omega
theorem At (a b:Nat) (ha:a<4294967296) (hb:b<4294967296):bits .or .u32 (a:Int) (b:Int)=((a ||| b:Nat):Int):=by
 have hx:a ||| b<2 ^ 32:=Nat.or_lt_two_pow sV sV
 have h1:(BitVec.ofInt 32 (a:Int)).toNat=a:=by
  rw [gP,iA];exact gN sV
 have h2:(BitVec.ofInt 32 (b:Int)).toNat=b:=by
  rw [gP,iA];exact gN sV
 show IntKind.u32.wrap ((BitVec.ofInt 32 (a:Int) ||| BitVec.ofInt 32 (b:Int)).toNat:Int)=_
 rw [BitVec.toNat_or,h1,h2,pV]
 omega
theorem Tf (x:Int) (h:0≤x∧x<4294967296):bits .and .u32 x 1=x % 2:=by
 have h1:=Hd x.toNat 1 sV sV
 rw [Nat.and_one_is_mod,cP h.1] at h1
 have h2:((x.toNat % 2:Nat):Int)=x % 2:=sV
 exact h1.trans h2
theorem Wu (x:Int) (s:Nat) (hx:0≤x∧x<65536) (hs:s<16) (hz:x % ((2 ^ (s+1):Nat):Int)=0):bits .or .u32 x ((2 ^ s:Nat):Int)=x+((2 ^ s:Nat):Int):=by
 have hp:2 ^ s<4294967296:=bS (Nat.pow_lt_pow_right tF hs) tF
 have h1:=At x.toNat (2 ^ s) sV hp
 rw [cP hx.1] at h1
 rw [h1]
 have hz':x.toNat % 2 ^ (s+1)=0:=by
  have h2:((x.toNat % 2 ^ (s+1):Nat):Int)=0:=by rw [Int.natCast_emod,cP hx.1];exact hz
  exact Int.ofNat_eq_zero.1 h2
 have h3:=gU x.toNat (2 ^ (s+1))
 rw [hz',gT] at h3
 have h4:=kQ (b:=2 ^ s) (i:=s+1) (Nat.pow_lt_pow_right tF (cO s)) (x.toNat / 2 ^ (s+1))
 rw [h3] at h4
 rw [←h4,jG,cP hx.1]
structure IV where
 neg:Bool
 a:Option Addr
 n:Nat
 c:Nat
instance:Inhabited IV:=⟨⟨false,none,0,0⟩⟩
instance:Cells IV:=⟨2,fun x=>[.bool x.neg,.slice x.a x.n x.c],fun _=>rfl,fun _=>rfl⟩
structure SV where
 a:Option Addr
 n:Nat
 c:Nat
instance:Inhabited SV:=⟨⟨none,0,0⟩⟩
instance:Cells SV:=⟨1,fun x=>[.slice x.a x.n x.c],fun _=>rfl,fun _=>rfl⟩
def Digs (l:List U32):Prop:=∀ d∈l,0≤d.v∧d.v<65536
def sZ:List U32→Int
 | []=>0
 | d :: l=>d.v+65536*sZ l
def pw (n:Nat):Int:=((65536 ^ n:Nat):Int)
theorem Eo:pw 0=1:=rfl
theorem xB (n:Nat):pw (n+1)=65536*pw n:=by unfold pw;rw [jY,iD,cJ];rfl
theorem wQ (n:Nat):0<pw n:=by unfold pw;exact Int.ofNat_lt.2 (oB tF)
theorem Wv (m n:Nat):pw (m+n)=pw m*pw n:=by unfold pw;rw [mR,cJ]
theorem Tg {m n:Nat} (h:m≤n):pw m≤pw n:=by unfold pw;exact oS.2 (eT tF h)
theorem vD:sZ []=0:=rfl
theorem vM (d:U32) (l:List U32):sZ (d :: l)=d.v+65536*sZ l:=rfl
theorem Digs.nil:Digs []:=fun d h=>by simp at h
abbrev qX:=@Digs.nil
theorem Digs.one {d:Int} (h:0≤d∧d<65536):Digs [⟨d⟩]:=fun x hx=>by
 have:x=⟨d⟩:=by simpa using hx
 subst this;exact h
abbrev pW:=@Digs.one
theorem uJ:∀ {l:List U32},Digs l→0≤sZ l
 | [],_=>Int.le_refl 0
 | d :: l,h=>by
   have h1:=uJ h.tail
   have h2:=h.head
   rw [vM];omega
theorem wO:∀ {l:List U32},Digs l→sZ l<pw l.length
 | [],_=>tF
 | d :: l,h=>by
   have h1:=wO h.tail
   have h2:=h.head
   rw [vM,bQ,xB];omega
theorem Bl:∀ (l m:List U32),sZ (l++m)=sZ l+pw l.length*sZ m
 | [],m=>by rw [fT,vD,cT,Eo];omega
 | d :: l,m=>by
   rw [sT,vM,vM,Bl l m,bQ,xB,bI,←bR];omega
theorem Ep (d:U32):sZ [d]=d.v:=by rw [vM,vD];omega
theorem yN (l:List U32) (d:U32):sZ (l++[d])=sZ l+pw l.length*d.v:=by rw [Bl,Ep]
theorem Bm {l:List U32} {k:Nat} (h:k<l.length):sZ (l.take (k+1))=sZ (l.take k)+pw k*(l[((k:Nat):Int).toNat]?.getD default).v:=by
 rw [dE,aF,aB h]
 simp only [Option.toList_some,hJ]
 rw [yN,bC,dC (Nat.le_of_lt h)]
theorem tH {α:Type} {l:List α} {k:Nat} (h:l.length≤k):l.take k=l:=dD h
theorem yW (n:Nat):sZ (List.replicate n ⟨0⟩)=0:=by
 induction n with
 | zero=>rfl
 | succ n ih=>rw [oG,vM,ih];rfl
theorem Ww (n:Nat):Digs (List.replicate n ⟨0⟩):=fun x hx=>by
 have:=jN hx
 subst this;exact ⟨by decide,by decide⟩
abbrev rQ:=@Ww
def Top (l:List U32):Prop:=l=[]∨(l[l.length - 1]?.getD default).v≠0
theorem Top.nil:Top []:=.inl rfl
theorem Wx {l:List U32} (hd:Digs l) (ht:Top l) (h0:l≠[]):pw (l.length - 1)≤sZ l:=by
 have hl:0<l.length:=oH.2 h0
 have h1:(l[l.length - 1]?.getD default).v≠0:=by
  rcases ht with h | h
  · exact absurd h h0
  exact h
 have h2:=Bm (l:=l) (k:=l.length - 1) sV
 rw [mF hl,tH (aG _),aF] at h2
 have h3:=uJ (hd.take (l.length - 1))
 have h4:(1:Int)≤(l[l.length - 1]?.getD default).v:=by
  have:=hd.at (m:=((l.length - 1:Nat):Int)) sV
  rw [aF] at this
  omega
 have h5:=aY h4 (bM (wQ (l.length - 1)))
 omega
theorem Yy {l:List U32} (hd:Digs l) (ht:Top l) (h0:l≠[]):0<sZ l:=jB (wQ _) (Wx hd ht h0)
theorem yX {l m:List U32} (hl:Digs l) (hm:Digs m) (tm:Top m) (h:l.length<m.length):sZ l<sZ m:=by
 have h1:=wO hl
 have h2:=Wx hm tm (fun e=>by rw [e] at h;simp at h)
 have h3:=Tg (show l.length≤m.length - 1 by omega)
 omega
structure IsInt (neg:Bool) (l:List U32) (z:Int):Prop where
 digs:Digs l
 top:Top l
 sign:l=[]→neg=false
 val:z=if neg=true then -sZ l else sZ l
def Num (G:Imm) (x:IV) (z:Int):Prop:=∃ l:List U32,l.length=x.n∧x.n≤x.c∧Arr G x.a l∧IsInt x.neg l z
theorem Num.zero (G:Imm):Num G ⟨false,none,0,0⟩ 0:=⟨[],rfl,aG _,pP G,⟨qX,Top.nil,fun _=>rfl,rfl⟩⟩
section
variable {P:Program} {B:Bs} {D:List Deferred}
theorem GC {ι:Type} {r:Option Nat} {c:Code} {Q:Exit→Act→World→Prop} {e:Env} {H:Hp} {G:Imm} (I:ι→Env×Hp) (g:ι→Imm) (φ:ι→Prop) (μ:ι→Nat) (i0:ι) (h0:φ i0) (hg:G=g i0)
 (he:e.sub (I i0).1) (hH:H.sub (I i0).2)
 (hb:∀ i,φ i→Wc r P c B ⟨(I i).1,D,(I i).2,g i⟩ (Exit.then (Ef B (fun i=>⟨(I i).1,D,(I i).2,g i⟩) φ μ (μ i)) Q)):Wc r P (.loop c) B ⟨e,D,H,G⟩ Q:=
 Kc (fun i=>⟨(I i).1,D,(I i).2,g i⟩) φ μ i0 h0 (fun _ _ h=>by rw [hg] at h;exact h.sub he hH) hb
abbrev jQ:=@GC
end
def Nums (G:Imm) (l:List IV) (zs:List Int):Prop:=l.length=zs.length∧∀ i:Nat,i<l.length→Num G (l[i]?.getD default) (zs[i]?.getD 0)
theorem Nums.nil (G:Imm):Nums G [] []:=⟨rfl,fun i hi=>by simp at hi⟩
def Below (m:Nat) (zs:List Int):Prop:=∀ z∈zs,(z.natAbs:Int)<pw m
theorem Below.at {m:Nat} {zs:List Int} (h:Below m zs) (i:Nat):((zs[i]?.getD 0).natAbs:Int)<pw m:=by
 cases hx:zs[i]? with
 | none=>exact wQ m
 | some z=>exact h z (List.mem_of_getElem? hx)
theorem Below.mono {m k:Nat} {zs:List Int} (h:Below m zs) (hk:m≤k):Below k zs:=fun z hz=>jB (h z hz) (Tg hk)
def fnB (P : Program) (f : Nat) : Bool := match P.funcs[f]? with | some fn => fn.body.isSome && !(fn.name == "runtime.NumGoroutine") | none => false
theorem AllFn.of {P:Program}:∀ {l:List Nat},l.all (fnB P)=true→AllFn P l
 | [],_=>trivial
 | f :: l,h=>by
   rw [iT,aC] at h
   refine ⟨?_,AllFn.of h.2⟩
   have h1:=h.1
   unfold fnB at h1
   split at h1
   · rename_i fn hf
     rw [aC] at h1
     exact ⟨fn,hf,h1.1,by simpa using h1.2⟩
   cases h1
theorem AllOne.of {P:Program}:∀ {l:List Nat},l.all (vK P)=true→AllOne P l
 | [],_=>trivial
 | f :: l,h=>by
   rw [iT,aC] at h
   exact ⟨h.1,AllOne.of h.2⟩
def agB (P:Program) (x:Nat×Nat):Bool:=wK P x.1 x.2 && (match P.info? x.1 with | some i=>Nat.beq i.size x.2 | none=>false)
theorem AllAgg.of {P:Program}:∀ {l:List (Nat×Nat)},l.all (agB P)=true→AllAgg P l
 | [],_=>trivial
 | x :: l,h=>by
   rw [iT,aC] at h
   have h1:=h.1
   unfold agB at h1
   rw [aC] at h1
   refine ⟨⟨h1.1,?_⟩,AllAgg.of h.2⟩
   have h2:=h1.2
   split at h2
   · rename_i i hi
     rw [hi,←aD h2];rfl
   cases h2
def slB (P:Program) (t:Nat):Bool:=match P.underlying t with | some (.slice E)=>(P.info? E).isSome | _=>false
theorem AllSl.of {P:Program}:∀ {l:List Nat},l.all (slB P)=true→AllSl P l
 | [],_=>trivial
 | t :: l,h=>by
   rw [iT,aC] at h
   refine ⟨?_,AllSl.of h.2⟩
   have h1:=h.1
   unfold slB at h1
   split at h1
   · rename_i E hE
     cases hi:P.info? E with
     | none=>rw [hi] at h1;cases h1
     | some i=>exact ⟨E,i.size,hE,by rw [hi];rfl⟩
   cases h1
def MP:List (List Nat)→Nat→Nat
 | [],f=>f
 | _ :: s,f=>MP s f+1
def Th:List (List Nat)→Array Bool→Array Bool
 | [],L=>L
 | [] :: s,L=>Th s L
 | (i :: _) :: s,L=>Th s (L.setIfInBounds i true)
def Er (ops:Array Oper) (wr:List (Nat×Nat)):List (List Nat)→Array Bool→Bool
 | [],_=>true
 | [] :: _,_=>false
 | (i :: ts) :: s,L=>wZ ops L wr i ts && Er ops wr s (L.setIfInBounds i true)
def eqb (b w:Bool):Bool:=bif b then w else !w
def gmg (l:List Oper) (e:Env):Option (Nat×Bool)→Option Bool
 | none=>some true
 | some (j,w)=>match zR l j with
   | some t=>match e.get t with
     | some (.bool b)=>some (eqb b w)
     | _=>none
   | none=>none
def SN (P:Program) [Tab P] (n:Nat) (l:List Oper) (H0:Hp):List (List Nat)→Env→Option (Env×Prop)
 | [],e=>some (e,True)
 | [] :: _,_=>none
 | (i :: ts) :: s,e=>match Ed l i with
   | some ⟨some d,o,_,_,_,g⟩=>match Nat.ble (d+1) n with
     | true=>match gmg l e g with
       | some true=>match SU P e (H0.only ts) ts o with
         | some (v,_,ob)=>match SN P n l H0 s ((d,v) :: e) with
           | some (e',obs)=>some (e',ob∧obs)
           | none=>none
         | none=>none
       | some false=>match ts with
         | []=>SN P n l H0 s ((d,undef) :: e)
         | _ :: _=>none
       | none=>none
     | false=>none
   | _=>none
theorem Tj {l:List Oper} {e:Env} {j:Nat} {w x:Bool} (h:gmg l e (some (j,w))=some x):∃ t,(l[j]?).bind (·.dst)=some t∧e.get t=some (.bool (bif x then w else !w)):=by
 replace h:(match zR l j with
  | some t=>match e.get t with
    | some (.bool b)=>some (eqb b w)
    | _=>none
  | none=>none)=some x:=h
 split at h
 · rename_i t ht
   rw [Aj] at ht
   split at h
   · rename_i b hb
     refine ⟨t,ht,hb.trans ?_⟩
     cases b <;> cases w <;> cases h <;> rfl
   cases h
 cases h
theorem Qz {P:Program} [T:Tab P] {B:Bs} {D:List Deferred} {H H0:Hp} {G G0:Imm} {K:Act→World→Prop} {l:List Oper} {f:Nat} {wr:List (Nat×Nat)} {e':Env}:∀ {steps:List (List Nat)} {listed:Array Bool} {e:Env} {ob:Prop},SN P B.n l H0 steps e=some (e',ob)→ob→Er l.toArray wr steps listed=true→Gm P l.toArray f (Th steps listed) wr H0 G0 B ⟨e',D,H,G⟩ K→Gm P l.toArray (MP steps f) listed wr H0 G0 B ⟨e,D,H,G⟩ K
 | [],listed,e,ob,h,_,_,hg=>by cases h;exact hg
 | [] :: s,listed,e,ob,h,_,_,_=>yS
 | (i :: ts) :: s,listed,e,ob,h,hob,hB,hg=>by
   unfold Er at hB
   rw [aC] at hB
   unfold SN at h
   split at h
   · rename_i d o ty pos after g hi
     rw [xA] at hi
     split at h
     · rename_i hn
       split at h
       · rename_i hgm
         split at h
         · rename_i v hs' ob1 hq
           split at h
           · rename_i e1 obs h2
             cases h
             have hr:=Qz h2 hob.2 hB.2 hg
             cases g with
             | none=>exact Gm.q i ts hB.1 hi hn (Qw hq hob.1) hr
             | some jw =>
               obtain ⟨j,w⟩:=jw
               obtain ⟨t,ht,he⟩:=Tj hgm
               exact oT (t:=t) i ts hB.1 hi ht he hn (Qw hq hob.1) hr
           cases h
         cases h
       · rename_i hgm
         split at h
         · have hr:=Qz h hob hB.2 hg
           cases g with
           | none=>cases hgm
           | some jw =>
             obtain ⟨j,w⟩:=jw
             obtain ⟨t,ht,he⟩:=Tj hgm
             exact Qn (t:=t) i hB.1 hi ht he hn hr
         cases h
       cases h
     cases h
   cases h
section
variable {P:Program} {B:Bs} {e e':Env} {D:List Deferred} {H H0:Hp} {G G0:Imm} {K:Act→World→Prop} {ops:Array Oper} {l rest:List Oper} {f:Nat} {listed:Array Bool} {wr:List (Nat×Nat)} {ty:TypeId} {pos:String} {after:Array Edge} {d:Nat} {ob:Prop}
theorem Gm.r [T:Tab P] (steps:List (List Nat)) (h:Gm P l.toArray f (Th steps listed) wr H0 G0 B ⟨e',D,H,G⟩ K) (hr:SN P B.n l H0 steps e=some (e',ob):=by exact rfl) (hob:ob:=by (repeat refine And.intro PA ?_);exact trivial) (hB:Er l.toArray wr steps listed=true:=by kernel_rfl) :
 Gm P l.toArray (MP steps f) listed wr H0 G0 B ⟨e,D,H,G⟩ K:=Qz hr hob hB h
abbrev eJ:=@Gm.r
theorem Gm.y {o:Op} {v:Value} {j:Nat} {want:Bool} {t:Nat} (i:Nat) (ts:List Nat) (ho:l[i]?=some ⟨some d,o,ty,pos,after,some (j,want)⟩) (hq:Qy P o ty e (H0.only ts) G0 v) (h:Gm P l.toArray f (listed.setIfInBounds i true) wr H0 G0 B ⟨(d,v) :: e,D,H,G⟩ K)
 (hj:(l[j]?).bind (·.dst)=some t:=by exact rfl) (he:e.get t=some (.bool want):=by exact rfl) (hn:Nat.ble (d+1) B.n=true:=by exact rfl) (hB:wZ l.toArray listed wr i ts=true:=by kernel_rfl):Gm P l.toArray (f+1) listed wr H0 G0 B ⟨e,D,H,G⟩ K:=
 oT i ts hB ho hj he hn hq h
abbrev qD:=@Gm.y
theorem Wl.p {o:Op} {v:Value} (hq:Qy P o ty e H G v) (h:Wl P ops rest B ⟨(d,v) :: e,D,H,G⟩ K) (hn:Nat.ble (d+1) B.n=true:=by exact rfl):Wl P ops (⟨some d,o,ty,pos,after,none⟩ :: rest) B ⟨e,D,H,G⟩ K:=eK hn hq h
abbrev aN:=@Wl.p
theorem Wl.b {e0:Env} {H0:Hp} {v:Value} (n m:Nat) (he:e.drop n=e0:=by exact rfl) (hf:e0.fresh (e.take n)=true:=by exact rfl) (hH:H.drop m=H0:=by exact rfl) (hg:H0.fresh (H.take m)=true:=by exact rfl) (hv:e.get d=some v:=by exact rfl) :
 Wl P ops [] B ⟨e,D,H,G⟩ (Hold B ⟨(d,v) :: e0,D,H0,G⟩):=fJ n m he hf hH hg hv
abbrev cU:=@Wl.b
theorem Wl.x {T:TypeId} {x:Operand} {v:Value} {cs:List Value} (t:Nat) (h:∀ b,Wl P ops rest B ⟨(d,.pointer (some ⟨b,0,none⟩)) :: e,D,(t,some b,.cells cs.toArray T (0,0)) :: H,G⟩ K) (hn:Nat.ble (d+1) B.n=true:=by exact rfl) (hx:e.ev x=some v:=by exact rfl) (hv:v.cells=cs.toArray:=by exact rfl) :
 Wl P ops (⟨some d,.box T x,ty,pos,after,none⟩ :: rest) B ⟨e,D,H,G⟩ K:=mU t hn hx hv h
abbrev cV:=@Wl.x
variable {α:Type} [Cells α]
theorem Wl.at {T:TypeId} {x i:Operand} {c:Nat} {k:IntKind} {m:Int} {E:Nat} {a:Option Addr} {xs:List α} (hT:tJ P T E (Cells.sz α)) (h:Wl P ops rest B ⟨(d,.pointer (some ⟨ab a,ao a+m.toNat*Cells.sz α,none⟩)) :: e,D,H,G⟩ K)
 (hx:e.ev x=some (.slice a xs.length c):=by exact rfl) (hi:e.ev i=some (.int k m):=by exact rfl) (hs:Arr G a xs:=by assumption) (hb:0≤m∧m<xs.length:=by omega) (hn:Nat.ble (d+1) B.n=true:=by exact rfl):Wl P ops (⟨some d,.indexAddr T x i,ty,pos,after,none⟩ :: rest) B ⟨e,D,H,G⟩ K:=
 eK hn (qN hT hx hi hs hb) h
abbrev dP:=@Wl.at
theorem SW {T:TypeId} {x i:Operand} {c:Nat} {k:IntKind} {m:Int} {E:Nat} {a:Option Addr} {xs:List α} {junk:List Value} (hT:tJ P T E (Cells.sz α)) (h:Wl P ops rest B ⟨(d,.pointer (some ⟨ab a,0+m.toNat*Cells.sz α,none⟩)) :: e,D,H,G⟩ K)
 (hx:e.ev x=some (.slice a xs.length c):=by exact rfl) (hi:e.ev i=some (.int k m):=by exact rfl) (hs:OwnA a c xs junk:=by assumption) (hb:0≤m∧m<xs.length:=by omega) (hn:Nat.ble (d+1) B.n=true:=by exact rfl):Wl P ops (⟨some d,.indexAddr T x i,ty,pos,after,none⟩ :: rest) B ⟨e,D,H,G⟩ K:=
 eK hn (lS hT hx hi hs hb) h
abbrev fW:=@SW
theorem Wl.lc [Inhabited α] {T:TypeId} {x:Operand} {a:Option Addr} {xs:List α} {m:Int} {v:Value} (k:Nat) (h1:vK P T=true) (h:Wl P ops rest B ⟨(d,v) :: e,D,H,G⟩ K) (hx:e.ev x=some (.pointer (some ⟨ab a,ao a+m.toNat*Cells.sz α+k,none⟩)):=by exact rfl)
 (hs:Arr G a xs:=by assumption) (hm:0≤m∧m<xs.length:=by omega) (hk:Nat.ble (k+1) (Cells.sz α)=true:=by exact rfl) (hv:(Cells.enc (xs[m.toNat]?.getD default))[k]?=some v:=by exact rfl) (hn:Nat.ble (d+1) B.n=true:=by exact rfl):Wl P ops (⟨some d,.load T x,ty,pos,after,none⟩ :: rest) B ⟨e,D,H,G⟩ K:=
 eK hn (dZ h1 hx (hs.cell hm k hk hv)) h
abbrev fQ:=@Wl.lc
theorem Wl.le [Inhabited α] {T k:TypeId} {x:Operand} {a:Option Addr} {xs:List α} {m:Int} (h1:wK P T k=true) (h:Wl P ops rest B ⟨(d,.agg (Cells.enc (xs[m.toNat]?.getD default)).toArray) :: e,D,H,G⟩ K) (hx:e.ev x=some (.pointer (some ⟨ab a,ao a+m.toNat*Cells.sz α,none⟩)):=by exact rfl)
 (hs:Arr G a xs:=by assumption) (hm:0≤m∧m<xs.length:=by omega) (hl:(Cells.enc (xs[m.toNat]?.getD default)).length=k:=by exact rfl) (hn:Nat.ble (d+1) B.n=true:=by exact rfl):Wl P ops (⟨some d,.load T x,ty,pos,after,none⟩ :: rest) B ⟨e,D,H,G⟩ K:=
 eK hn (nP h1 hx (hs.elem hm) hl) h
abbrev mM:=@Wl.le
theorem Wl.lo [Inhabited α] {T:TypeId} {x:Operand} {E:TypeId} {a:Option Addr} {c:Nat} {xs:List α} {junk:List Value} {m:Int} {v:Value} (t k:Nat) (h1:vK P T=true) (h:Wl P ops rest B ⟨(d,v) :: e,D,H,G⟩ K) (hx:e.ev x=some (.pointer (some ⟨ab a,0+m.toNat*Cells.sz α+k,none⟩)):=by exact rfl)
 (ht:H.get t=some (a.map (·.block),tK E xs junk):=by exact rfl) (ho:OwnA a c xs junk:=by assumption) (hm:0≤m∧m<xs.length:=by omega) (hk:Nat.ble (k+1) (Cells.sz α)=true:=by exact rfl) (hv:(Cells.enc (xs[m.toNat]?.getD default))[k]?=some v:=by exact rfl) (hn:Nat.ble (d+1) B.n=true:=by exact rfl) :
 Wl P ops (⟨some d,.load T x,ty,pos,after,none⟩ :: rest) B ⟨e,D,H,G⟩ K:=eK hn (El t k h1 hx ht ho hm hk hv) h
abbrev nY:=@Wl.lo
theorem Gm.at {T:TypeId} {x i:Operand} {c:Nat} {k:IntKind} {m:Int} {E:Nat} {a:Option Addr} {xs:List α} (q:Nat) (hT:tJ P T E (Cells.sz α)) (h:Gm P l.toArray f (listed.setIfInBounds q true) wr H0 G0 B ⟨(d,.pointer (some ⟨ab a,ao a+m.toNat*Cells.sz α,none⟩)) :: e,D,H,G⟩ K)
 (ho:l[q]?=some ⟨some d,.indexAddr T x i,ty,pos,after,none⟩:=by exact rfl) (hx:e.ev x=some (.slice a xs.length c):=by exact rfl) (hi:e.ev i=some (.int k m):=by exact rfl) (hs:Arr G0 a xs:=by assumption) (hb:0≤m∧m<xs.length:=by omega) (hn:Nat.ble (d+1) B.n=true:=by exact rfl) (hB:wZ l.toArray listed wr q []=true:=by kernel_rfl) :
 Gm P l.toArray (f+1) listed wr H0 G0 B ⟨e,D,H,G⟩ K:=gD q [] ho (qN hT hx hi hs hb) h hn hB
abbrev jC:=@Gm.at
theorem SX {T:TypeId} {x i:Operand} {c:Nat} {k:IntKind} {m:Int} {E:Nat} {a:Option Addr} {xs:List α} {junk:List Value} (q:Nat) (hT:tJ P T E (Cells.sz α)) (h:Gm P l.toArray f (listed.setIfInBounds q true) wr H0 G0 B ⟨(d,.pointer (some ⟨ab a,0+m.toNat*Cells.sz α,none⟩)) :: e,D,H,G⟩ K)
 (ho:l[q]?=some ⟨some d,.indexAddr T x i,ty,pos,after,none⟩:=by exact rfl) (hx:e.ev x=some (.slice a xs.length c):=by exact rfl) (hi:e.ev i=some (.int k m):=by exact rfl) (hs:OwnA a c xs junk:=by assumption) (hb:0≤m∧m<xs.length:=by omega) (hn:Nat.ble (d+1) B.n=true:=by exact rfl) (hB:wZ l.toArray listed wr q []=true:=by kernel_rfl) :
 Gm P l.toArray (f+1) listed wr H0 G0 B ⟨e,D,H,G⟩ K:=gD q [] ho (lS hT hx hi hs hb) h hn hB
abbrev kS:=@SX
theorem Gm.lc [Inhabited α] {T:TypeId} {x:Operand} {a:Option Addr} {xs:List α} {m:Int} {v:Value} (q:Nat) (ts:List Nat) (k:Nat) (h1:vK P T=true) (h:Gm P l.toArray f (listed.setIfInBounds q true) wr H0 G0 B ⟨(d,v) :: e,D,H,G⟩ K) (ho:l[q]?=some ⟨some d,.load T x,ty,pos,after,none⟩:=by exact rfl)
 (hx:e.ev x=some (.pointer (some ⟨ab a,ao a+m.toNat*Cells.sz α+k,none⟩)):=by exact rfl) (hs:Arr G0 a xs:=by assumption) (hm:0≤m∧m<xs.length:=by omega) (hk:Nat.ble (k+1) (Cells.sz α)=true:=by exact rfl) (hv:(Cells.enc (xs[m.toNat]?.getD default))[k]?=some v:=by exact rfl) (hn:Nat.ble (d+1) B.n=true:=by exact rfl) (hB:wZ l.toArray listed wr q ts=true:=by kernel_rfl) :
 Gm P l.toArray (f+1) listed wr H0 G0 B ⟨e,D,H,G⟩ K:=gD q ts ho (dZ h1 hx (hs.cell hm k hk hv)) h hn hB
abbrev pA:=@Gm.lc
theorem Gm.le [Inhabited α] {T k:TypeId} {x:Operand} {a:Option Addr} {xs:List α} {m:Int} (q:Nat) (h1:wK P T k=true) (h:Gm P l.toArray f (listed.setIfInBounds q true) wr H0 G0 B ⟨(d,.agg (Cells.enc (xs[m.toNat]?.getD default)).toArray) :: e,D,H,G⟩ K) (ho:l[q]?=some ⟨some d,.load T x,ty,pos,after,none⟩:=by exact rfl)
 (hx:e.ev x=some (.pointer (some ⟨ab a,ao a+m.toNat*Cells.sz α,none⟩)):=by exact rfl) (hs:Arr G0 a xs:=by assumption) (hm:0≤m∧m<xs.length:=by omega) (hl:(Cells.enc (xs[m.toNat]?.getD default)).length=k:=by exact rfl) (hn:Nat.ble (d+1) B.n=true:=by exact rfl) (hB:wZ l.toArray listed wr q []=true:=by kernel_rfl) :
 Gm P l.toArray (f+1) listed wr H0 G0 B ⟨e,D,H,G⟩ K:=gD q [] ho (nP h1 hx (hs.elem hm) hl) h hn hB
abbrev pN:=@Gm.le
theorem Gm.lo [Inhabited α] {T:TypeId} {x:Operand} {E:TypeId} {a:Option Addr} {c:Nat} {xs:List α} {junk:List Value} {m:Int} {v:Value} (q t k:Nat) (h1:vK P T=true) (h:Gm P l.toArray f (listed.setIfInBounds q true) wr H0 G0 B ⟨(d,v) :: e,D,H,G⟩ K) (ho:l[q]?=some ⟨some d,.load T x,ty,pos,after,none⟩:=by exact rfl)
 (hx:e.ev x=some (.pointer (some ⟨ab a,0+m.toNat*Cells.sz α+k,none⟩)):=by exact rfl) (ht:(H0.only [t]).get t=some (a.map (·.block),tK E xs junk):=by exact rfl) (hw:OwnA a c xs junk:=by assumption) (hm:0≤m∧m<xs.length:=by omega) (hk:Nat.ble (k+1) (Cells.sz α)=true:=by exact rfl)
 (hv:(Cells.enc (xs[m.toNat]?.getD default))[k]?=some v:=by exact rfl) (hn:Nat.ble (d+1) B.n=true:=by exact rfl) (hB:wZ l.toArray listed wr q [t]=true:=by kernel_rfl):Gm P l.toArray (f+1) listed wr H0 G0 B ⟨e,D,H,G⟩ K:=gD q [t] ho (El t k h1 hx ht hw hm hk hv) h hn hB
abbrev mS:=@Gm.lo
theorem Wl.ap {s x:Operand} {T E bytes:Nat} {zs:List Value} {a ad:Option Addr} {c c2:Nat} {xs ys:List α} {junk:List Value} (t:Nat) (hT:tJ P T E (Cells.sz α)) (hE:ElemOf P E (Cells.sz α) bytes zs) (hsrc:Src H G ad ys)
 (h:∀ a' c' junk',OwnA a' c' (xs++ys) junk'→Wl P ops rest B ⟨(d,.slice a' (xs++ys).length c') :: e,D,(t,a'.map (·.block),tK E (xs++ys) junk') :: H,G⟩ K) (hs:e.ev s=some (.slice a xs.length c):=by exact rfl) (hx:e.ev x=some (.slice ad ys.length c2):=by exact rfl)
 (ht:H.get t=some (a.map (·.block),tK E xs junk):=by exact rfl) (ho:OwnA a c xs junk:=by first | assumption | exact eW | exact iI tS) (hb:(xs.length+ys.length)*bytes≤140737488355328:=by first | omega | (simp only [aI,bQ,cT,maxLen];omega)) (hl:xs.length+ys.length≤maxLen:=by first | omega | (simp only [aI,bQ,cT,maxLen];omega)) (hn:Nat.ble (d+1) B.n=true:=by exact rfl) :
 Wl P ops (⟨some d,.call { callee:=.builtin .append,args:=#[s,x],argTypes:=#[T,T] },ty,pos,after,none⟩ :: rest) B ⟨e,D,H,G⟩ K:=nM t hn hT hE hs hx ht ho hsrc hb hl h
abbrev kO:=@Wl.ap
end
section
variable {P:Program} {B:Bs} {e:Env} {D:List Deferred} {H H0:Hp} {G G0:Imm} {K:Act→World→Prop} {l:List Oper} {f:Nat} {listed:Array Bool} {wr:List (Nat×Nat)} {Q:Exit→Act→World→Prop} {ops:Array Oper} {p:Prop} [Decidable p]
theorem SY {ι:Type} {I:ι→St} {φ:ι→Prop} {μ:ι→Nat} {m:Nat} (j:ι) (hφ:φ j) (hμ:μ j<m) (hI:I j=⟨(I j).e,D,(I j).H,G⟩:=by exact rfl) (he:e.sub (I j).e:=by repeat (first | exact trivial | refine ⟨rfl,?_⟩)) (hH:H.sub (I j).H:=by repeat (first | exact trivial | refine ⟨rfl,?_⟩)):Ar (Exit.then (Ef B I φ μ m) Q) .normal B ⟨e,D,H,G⟩:=Ar.again j hφ hμ hI he hH
abbrev cS:=@SY
theorem Ar.mt {ι:Type} {I:ι→St} {φ:ι→Prop} (j:ι) (hφ:φ j) (hI:I j=⟨(I j).e,D,(I j).H,G⟩:=by exact rfl) (he:e.sub (I j).e:=by repeat (first | exact trivial | refine ⟨rfl,?_⟩)) (hH:H.sub (I j).H:=by repeat (first | exact trivial | refine ⟨rfl,?_⟩)):Ar (Exit.then (MH B I φ) Q) .normal B ⟨e,D,H,G⟩:=rH j hφ hI he hH
abbrev sJ:=@Ar.mt
theorem Wc.lp {ι:Type} {r:Option Nat} {c:Code} (I:ι→Env×Hp) (φ:ι→Prop) (μ:ι→Nat) (i0:ι) (h0:φ i0) (hb:∀ i,φ i→Wc r P c B ⟨(I i).1,D,(I i).2,G⟩ (Exit.then (Ef B (fun i=>⟨(I i).1,D,(I i).2,G⟩) φ μ (μ i)) Q)) (he:e.sub (I i0).1:=by repeat (first | exact trivial | refine ⟨rfl,?_⟩)) (hH:H.sub (I i0).2:=by repeat (first | exact trivial | refine ⟨rfl,?_⟩)) :
 Wc r P (.loop c) B ⟨e,D,H,G⟩ Q:=qA I φ μ i0 h0 he hH hb
abbrev gC:=@Wc.lp
theorem Wc.lg {ι:Type} {r:Option Nat} {c:Code} (I:ι→Env×Hp) (g:ι→Imm) (φ:ι→Prop) (μ:ι→Nat) (i0:ι) (h0:φ i0) (hb:∀ i,φ i→Wc r P c B ⟨(I i).1,D,(I i).2,g i⟩ (Exit.then (Ef B (fun i=>⟨(I i).1,D,(I i).2,g i⟩) φ μ (μ i)) Q)) (hg:G=g i0:=by exact rfl) (he:e.sub (I i0).1:=by repeat (first | exact trivial | refine ⟨rfl,?_⟩)) (hH:H.sub (I i0).2:=by repeat (first | exact trivial | refine ⟨rfl,?_⟩)) :
 Wc r P (.loop c) B ⟨e,D,H,G⟩ Q:=jQ I g φ μ i0 h0 hg he hH hb
abbrev rX:=@Wc.lg
theorem Io (t:Nat) (h:Wl P ops l B ⟨(t,.bool true) :: e,D,H,G⟩ K) (he:e.get t=some (.bool (decide p)):=by exact rfl) (hp:p:=by first | assumption | omega):Wl P ops l B ⟨e,D,H,G⟩ K:=Qo t he hp h
theorem Wl.ne (t:Nat) (h:Wl P ops l B ⟨(t,.bool false) :: e,D,H,G⟩ K) (he:e.get t=some (.bool (decide p)):=by exact rfl) (hp:¬p:=by first | assumption | omega):Wl P ops l B ⟨e,D,H,G⟩ K:=rJ t he hp h
abbrev jV:=@Wl.ne
theorem Wl.o1 {o:Oper} (i:Nat) (h:Wl P l.toArray [o] B ⟨e,D,H,G⟩ (Be P l.toArray f (listed.setIfInBounds i true) wr H0 G0 K)) (hH:H.sub (H0.live wr listed):=by repeat (first | exact trivial | refine ⟨rfl,?_⟩)) (hG:G0.le G:=by first | exact cA _ | repeat (first | assumption | refine aZ ?_ sW)) (hr:Region.ready .any l.toArray listed=[i]:=by kernel_rfl) (ho:l[i]?=some o:=by exact rfl) :
 Wl P l.toArray [] B ⟨e,D,H,G⟩ (Be P l.toArray (f+1) listed wr H0 G0 K):=dW (fE i h hH hG hr ho)
abbrev bT:=@Wl.o1
theorem SZ {x:Exit} (h:Ar Q x B ⟨e,D,H,G⟩) (hr:Region.ready .any ops listed=[]:=by kernel_rfl) (hH:H.sub (H0.live wr listed):=by repeat (first | exact trivial | refine ⟨rfl,?_⟩)) (hG:G0.le G:=by first | exact cA _ | repeat (first | assumption | refine aZ ?_ sW)):Wl P ops [] B ⟨e,D,H,G⟩ (Be P ops 0 listed wr H0 G0 (Q x)):=dW (dV h hr hH hG)
abbrev fV:=@SZ
theorem TA [Tab P] {r:Option Nat} {id:Nat} {e':Env} {ob:Prop} (ts:List Nat) (wr:List (Nat×Nat)) (hm:P.follows .mixedOrders=true) (steps:List (List Nat)) {f:Nat} (h:Gm P l.toArray f (Th steps (Array.replicate l.length false)) wr (H.only ts) G B ⟨e',D,H,G⟩ (Q .normal)) (hf:l.length=MP steps f:=by exact rfl)
 (hr:SN P B.n l (H.only ts) steps e=some (e',ob):=by exact rfl) (hob:ob:=by (repeat refine And.intro PA ?_);exact trivial) (hB:Er l.toArray wr steps (Array.replicate l.length false)=true:=by kernel_rfl) (hd:l.all uD=true:=by exact rfl) :
 Wc r P (.region id l.toArray true) B ⟨e,D,H,G⟩ Q:=oL ts wr hm hd (by have:=Qz hr hob hB h;rw [←hf] at this;exact this)
abbrev eB:=@TA
end
theorem D0 {P:Program} {G:Imm} {f:FuncId} {fn:Func} {c:Code} {n:Nat} {args:List Value} {Hi:Hp} {post:Value→Imm→Hp→Prop} (hf:P.funcs[f]?=some fn) (hn:fn.ntmps=n) (h:∀ w,Wc none P c ⟨n,w,Hi.has,G⟩ ⟨vF 0 args,[],Hi,G⟩ (BJ P fn G Hi w post)) (hb:fn.body=some c:=by exact rfl)
 (hl:Nat.ble args.length n=true:=by exact rfl):Does P f args G Hi post:=fS hf hb hn hl h
section
variable {P:Program} {fn:Func} {G0:Imm} {Hi:Hp} {w0:World} {post:Value→Imm→Hp→Prop} {n:Nat} {e:Env} {H:Hp} {G:Imm} {x:Exit} {t1 t2:Nat} {v1 v2:Value}
theorem Ar.p1 (L:List Nat) (hp:post v1 G (H.only L)) (hx:x=.normal∨x=.ret:=by exact .inr rfl) (hres:fn.results=#[.tmp t1]:=by exact rfl) (h1:e.get t1=some v1:=by exact rfl):Ar (BJ P fn G0 Hi w0 post) x ⟨n,w0,Hi.has,G0⟩ ⟨e,[],H,G⟩:=
 dL hx hres (.tmp h1) (bK _ _) hp
abbrev qJ:=@Ar.p1
theorem Ar.p2 (L:List Nat) (hp:post (.tuple #[v1,v2]) G (H.only L)) (hx:x=.normal∨x=.ret:=by exact .inr rfl) (hres:fn.results=#[.tmp t1,.tmp t2]:=by exact rfl) (h1:e.get t1=some v1:=by exact rfl) (h2:e.get t2=some v2:=by exact rfl):Ar (BJ P fn G0 Hi w0 post) x ⟨n,w0,Hi.has,G0⟩ ⟨e,[],H,G⟩:=
 iK hx hres (.tmp h1) (.tmp h2) (bK _ _) hp
abbrev sH:=@Ar.p2
end
theorem Wc.i {P:Program} {r:Option Nat} {B:Bs} {S:St} {Q:Exit→Act→World→Prop} {c:Operand} {x y:Code} {p:Prop} [Decidable p] (ht:p→Wc r P x B S Q) (hf:¬p→Wc r P y B S Q) (hc:S.e.ev c=some (.bool (decide p)):=by exact rfl):Wc r P (.cond c x y) B S Q:=lW hc ht hf
abbrev dN:=@Wc.i
end Go.Sl
namespace Go.Proofs.YtngphgeghfdjbaaGreatDoor.T
open Go Go.Sl
theorem u2:Tryz.prog.underlying 2=some (.int .i64):=tC
theorem one3:vK Tryz.prog 3=true:=tC
theorem zero3:ZeroOf Tryz.prog 3 [.int .i64 0]:=lI tC
theorem el3:ElemOf Tryz.prog 3 1 8 [.int .i64 0]:=nU tC rfl
theorem u3:Tryz.prog.underlying 3=some (.int .i64):=tC
theorem u4:Tryz.prog.underlying 4=some .bool:=tC
theorem one5:vK Tryz.prog 5=true:=tC
theorem one22:vK Tryz.prog 22=true:=tC
theorem sl22:tJ Tryz.prog 22 51 2:=⟨by kernel_rfl,by kernel_rfl⟩
theorem one23:vK Tryz.prog 23=true:=tC
theorem sl23:tJ Tryz.prog 23 211 5:=⟨by kernel_rfl,by kernel_rfl⟩
theorem one24:vK Tryz.prog 24=true:=tC
theorem zero24:ZeroOf Tryz.prog 24 [.slice none 0 0]:=lI tC
theorem sl24:tJ Tryz.prog 24 3 1:=⟨by kernel_rfl,by kernel_rfl⟩
theorem agg26:wK Tryz.prog 26 4=true:=tC
theorem size26:(Tryz.prog.info? 26).map (·.size)=some 4:=tC
theorem zero26:ZeroOf Tryz.prog 26 [.int .i64 0,.int .i64 0,.slice none 0 0,.slice none 0 0]:=lI tC
theorem el26:ElemOf Tryz.prog 26 4 64 [.int .i64 0,.int .i64 0,.slice none 0 0,.slice none 0 0]:=nU tC rfl
theorem agg28:wK Tryz.prog 28 15=true:=tC
theorem zero28:ZeroOf Tryz.prog 28 [.int .i64 0,.int .i64 0,.slice none 0 0,.int .i64 0,.int .i64 0,.slice none 0 0,.slice none 0 0,.int .i64 0,.int .i64 0,.slice none 0 0,.slice none 0 0,.int .i64 0,.int .i64 0,.slice none 0 0,.slice none 0 0]:=lI tC
theorem one32:vK Tryz.prog 32=true:=tC
theorem agg37:wK Tryz.prog 37 4=true:=tC
theorem zero37:ZeroOf Tryz.prog 37 [.int .i64 0,.int .i64 0,.int .i64 0,.int .i64 0]:=lI tC
theorem st37:StructOf Tryz.prog 37 [(0,1),(1,1),(2,1),(3,1)] [.int .i64 0,.int .i64 0,.int .i64 0,.int .i64 0]:=mN (Tryz.prog.fieldsOf 37) tC tC tC
theorem ai37:Ai Tryz.prog 37 4:=⟨by kernel_rfl,by kernel_rfl,by kernel_rfl,by kernel_rfl⟩
theorem one39:vK Tryz.prog 39=true:=tC
theorem size39:(Tryz.prog.info? 39).map (·.size)=some 1:=tC
theorem sl39:tJ Tryz.prog 39 89 2:=⟨by kernel_rfl,by kernel_rfl⟩
theorem el39:ElemOf Tryz.prog 39 1 24 [.slice none 0 0]:=nU tC rfl
theorem agg51:wK Tryz.prog 51 2=true:=tC
theorem zero51:ZeroOf Tryz.prog 51 [.int .i64 0,.int .i64 0]:=lI tC
theorem el51:ElemOf Tryz.prog 51 2 16 [.int .i64 0,.int .i64 0]:=nU tC rfl
theorem st51:StructOf Tryz.prog 51 [(0,1),(1,1)] [.int .i64 0,.int .i64 0]:=mN (Tryz.prog.fieldsOf 51) tC tC tC
theorem ai51:Ai Tryz.prog 51 2:=⟨by kernel_rfl,by kernel_rfl,by kernel_rfl,by kernel_rfl⟩
theorem sl86:tJ Tryz.prog 86 39 1:=⟨by kernel_rfl,by kernel_rfl⟩
theorem sl87:tJ Tryz.prog 87 166 1:=⟨by kernel_rfl,by kernel_rfl⟩
theorem agg89:wK Tryz.prog 89 2=true:=tC
theorem size89:(Tryz.prog.info? 89).map (·.size)=some 2:=tC
theorem zero89:ZeroOf Tryz.prog 89 [.bool false,.slice none 0 0]:=lI tC
theorem el89:ElemOf Tryz.prog 89 2 32 [.bool false,.slice none 0 0]:=nU tC rfl
theorem st89:StructOf Tryz.prog 89 [(0,1),(1,1)] [.bool false,.slice none 0 0]:=mN (Tryz.prog.fieldsOf 89) tC tC tC
theorem agg93:wK Tryz.prog 93 2=true:=tC
theorem sl122:tJ Tryz.prog 122 26 4:=⟨by kernel_rfl,by kernel_rfl⟩
theorem st127:StructOf Tryz.prog 127 [(0,15)] [.int .i64 0,.int .i64 0,.slice none 0 0,.int .i64 0,.int .i64 0,.slice none 0 0,.slice none 0 0,.int .i64 0,.int .i64 0,.slice none 0 0,.slice none 0 0,.int .i64 0,.int .i64 0,.slice none 0 0,.slice none 0 0]:=mN (Tryz.prog.fieldsOf 127) tC tC tC
theorem u165:Tryz.prog.underlying 165=some (.int .u64):=tC
theorem one166:vK Tryz.prog 166=true:=tC
theorem size166:(Tryz.prog.info? 166).map (·.size)=some 1:=tC
theorem el166:ElemOf Tryz.prog 166 1 4 [.int .u32 0]:=nU tC rfl
theorem u166:Tryz.prog.underlying 166=some (.int .u32):=tC
theorem sl199:tJ Tryz.prog 199 203 5:=⟨by kernel_rfl,by kernel_rfl⟩
theorem agg203:wK Tryz.prog 203 5=true:=tC
theorem zero203:ZeroOf Tryz.prog 203 [.int .i64 0,.int .i64 0,.slice none 0 0,.slice none 0 0,.nilFunc]:=lI tC
theorem el203:ElemOf Tryz.prog 203 5 72 [.int .i64 0,.int .i64 0,.slice none 0 0,.slice none 0 0,.nilFunc]:=nU tC rfl
theorem st203:StructOf Tryz.prog 203 [(0,4),(4,1)] [.int .i64 0,.int .i64 0,.slice none 0 0,.slice none 0 0,.nilFunc]:=mN (Tryz.prog.fieldsOf 203) tC tC tC
theorem ar205:ArrayOf Tryz.prog 205 3 1 [.pointer none,.pointer none,.pointer none]:=ArrayOf.of 150 tC tC tC
theorem agg211:wK Tryz.prog 211 5=true:=tC
theorem zero211:ZeroOf Tryz.prog 211 [.int .i64 0,.int .i64 0,.int .i64 0,.int .i64 0,.int .i64 0]:=lI tC
theorem el211:ElemOf Tryz.prog 211 5 40 [.int .i64 0,.int .i64 0,.int .i64 0,.int .i64 0,.int .i64 0]:=nU tC rfl
theorem sl212:tJ Tryz.prog 212 218 1:=⟨by kernel_rfl,by kernel_rfl⟩
theorem sl218:tJ Tryz.prog 218 93 2:=⟨by kernel_rfl,by kernel_rfl⟩
theorem st251:StructOf Tryz.prog 251 [(0,1),(1,1),(2,1)] [.int .i64 0,.int .i64 0,.slice none 0 0]:=mN (Tryz.prog.fieldsOf 251) tC tC tC
theorem ar279:ArrayOf Tryz.prog 279 2 1 [.int .i64 0,.int .i64 0]:=ArrayOf.of 3 tC tC tC
theorem agg352:wK Tryz.prog 352 5=true:=tC
theorem zero352:ZeroOf Tryz.prog 352 [.nilFunc,.nilFunc,.nilFunc,.nilFunc,.nilFunc]:=lI tC
theorem st352:StructOf Tryz.prog 352 [(0,1),(1,1),(2,1),(3,1),(4,1)] [.nilFunc,.nilFunc,.nilFunc,.nilFunc,.nilFunc]:=mN (Tryz.prog.fieldsOf 352) tC tC tC
theorem one361:vK Tryz.prog 361=true:=tC
theorem fn18:wC Tryz.prog 18:=⟨Tryz.f18,Tryz.func18,rfl,by kernel_rfl⟩
theorem fn42:wC Tryz.prog 42:=⟨Tryz.f42,Tryz.func42,rfl,by kernel_rfl⟩
theorem fn55:wC Tryz.prog 55:=⟨Tryz.f55,Tryz.func55,rfl,by kernel_rfl⟩
theorem fn65:wC Tryz.prog 65:=⟨Tryz.f65,Tryz.func65,rfl,by kernel_rfl⟩
theorem fn85:wC Tryz.prog 85:=⟨Tryz.f85,Tryz.func85,rfl,by kernel_rfl⟩
theorem fn106:wC Tryz.prog 106:=⟨Tryz.f106,Tryz.func106,rfl,by kernel_rfl⟩
theorem fn127:wC Tryz.prog 127:=⟨Tryz.f127,Tryz.func127,rfl,by kernel_rfl⟩
theorem fn128:wC Tryz.prog 128:=⟨Tryz.f128,Tryz.func128,rfl,by kernel_rfl⟩
theorem fn159:wC Tryz.prog 159:=⟨Tryz.f159,Tryz.func159,rfl,by kernel_rfl⟩
theorem fn166:wC Tryz.prog 166:=⟨Tryz.f166,Tryz.func166,rfl,by kernel_rfl⟩
theorem fn168:wC Tryz.prog 168:=⟨Tryz.f168,Tryz.func168,rfl,by kernel_rfl⟩
theorem fn170:wC Tryz.prog 170:=⟨Tryz.f170,Tryz.func170,rfl,by kernel_rfl⟩
theorem fn171:wC Tryz.prog 171:=⟨Tryz.f171,Tryz.func171,rfl,by kernel_rfl⟩
theorem fn252:wC Tryz.prog 252:=⟨Tryz.f252,Tryz.func252,rfl,by kernel_rfl⟩
theorem fn269:wC Tryz.prog 269:=⟨Tryz.f269,Tryz.func269,rfl,by kernel_rfl⟩
theorem fn293:wC Tryz.prog 293:=⟨Tryz.f293,Tryz.func293,rfl,by kernel_rfl⟩
theorem fn294:wC Tryz.prog 294:=⟨Tryz.f294,Tryz.func294,rfl,by kernel_rfl⟩
theorem fn296:wC Tryz.prog 296:=⟨Tryz.f296,Tryz.func296,rfl,by kernel_rfl⟩
theorem fn298:wC Tryz.prog 298:=⟨Tryz.f298,Tryz.func298,rfl,by kernel_rfl⟩
theorem fn299:wC Tryz.prog 299:=⟨Tryz.f299,Tryz.func299,rfl,by kernel_rfl⟩
theorem fn318:wC Tryz.prog 318:=⟨Tryz.f318,Tryz.func318,rfl,by kernel_rfl⟩
theorem fn335:wC Tryz.prog 335:=⟨Tryz.f335,Tryz.func335,rfl,by kernel_rfl⟩
theorem mixed:Tryz.prog.follows .mixedOrders=true:=tC
end Go.Proofs.YtngphgeghfdjbaaGreatDoor.T
namespace Go.Proofs.YtngphgeghfdjbaaGreatDoor
open Go Go.Sl
instance:Tab Tryz.prog where
 fn:=[16,17,18,19,25,26,27,30,32,33,34,35,40,42,43,48,52,55,56,57,58,59,65,69,70,74,75,76,77,78,79,80,84,86,92,96,97,98,99,100,105,106,109,110,112,113,114,115,116,120,122,123,124,125,126,127,128,129,130,131,132,133,134,135,136,137,138,146,147,150,151,153,156,158,159,160,163,164,165,166,167,169,172,173,174,175,176,177,178,179,180,184,198,202,203,204,205,206,207,208,209,210,211,212,213,214,215,216,217,218,219,220,221,222,226,247,248,249,250,251,253,254,255,256,257,290,291,292,295,297,300,316,317,318,319]
 fnP:=.of tC
 one:=[3,4,22,23,24,32,39,87,201,306,348,349,350]
 agg:=[(26,4),(28,15),(37,4),(51,2),(89,2),(93,2),(203,5),(211,5),(352,5)]
 sl:=[22,23,24,39,86,87,122,199,212,218]
 fa:=[(26,0,0),(26,1,1),(26,2,2),(26,3,3),(28,0,0),(28,1,1),(28,2,2),(28,3,3),(28,4,7),(28,5,11),(37,0,0),(37,1,1),(37,2,2),(37,3,3),(51,0,0),(51,1,1),(89,0,0),(89,1,1),(93,0,0),(93,1,1),(127,0,0),(134,0,0),(134,1,1),(134,2,2),(203,0,0),(203,1,4),(211,0,0),(211,1,1),(211,2,2),(211,3,3),(211,4,4),(352,0,0),(352,1,1),(352,2,2),(352,3,3),(352,4,4)]
 oneP:=.of tC
 aggP:=.of tC
 slP:=.of tC
 faP:=⟨fun _ _ _=>by kernel_rfl,fun _ _ _=>by kernel_rfl,fun _ _ _=>by kernel_rfl,fun _ _ _=>by kernel_rfl,fun _ _ _=>by kernel_rfl,fun _ _ _=>by kernel_rfl,fun _ _ _=>by kernel_rfl,fun _ _ _=>by kernel_rfl,fun _ _ _=>by kernel_rfl,fun _ _ _=>by kernel_rfl,fun _ _ _=>by kernel_rfl,fun _ _ _=>by kernel_rfl,fun _ _ _=>by kernel_rfl,fun _ _ _=>by kernel_rfl,fun _ _ _=>by kernel_rfl,fun _ _ _=>by kernel_rfl,fun _ _ _=>by kernel_rfl,fun _ _ _=>by kernel_rfl,fun _ _ _=>by kernel_rfl,fun _ _ _=>by kernel_rfl,fun _ _ _=>by kernel_rfl,fun _ _ _=>by kernel_rfl,fun _ _ _=>by kernel_rfl,fun _ _ _=>by kernel_rfl,fun _ _ _=>by kernel_rfl,fun _ _ _=>by kernel_rfl,fun _ _ _=>by kernel_rfl,fun _ _ _=>by kernel_rfl,fun _ _ _=>by kernel_rfl,fun _ _ _=>by kernel_rfl,fun _ _ _=>by kernel_rfl,fun _ _ _=>by kernel_rfl,fun _ _ _=>by kernel_rfl,fun _ _ _=>by kernel_rfl,fun _ _ _=>by kernel_rfl,fun _ _ _=>by kernel_rfl,trivial⟩
end Go.Proofs.YtngphgeghfdjbaaGreatDoor
namespace Go.Proofs.YtngphgeghfdjbaaGreatDoor.T
open Go Go.Sl
theorem ar395:ArrayOf Tryz.prog 395 64 1 (List.replicate 64 (.int .u8 0)):=ArrayOf.of 5 tC tC tC
end Go.Proofs.YtngphgeghfdjbaaGreatDoor.T
namespace Go.Proofs.YtngphgeghfdjbaaGreatDoor
open Go Go.Sl
def CF (c:Int):Int:=if c=2 then 1 else if c=4 then 2 else if c=8 then 3 else if c=16 then 4 else if c=32 then 5 else if c=64 then 6 else if c=128 then 7 else if c=256 then 8 else if c=512 then 9 else 0
def Yz:List Value:=[0,1,56,2,57,49,28,3,61,58,42,50,38,29,17,4,62,47,59,36,45,43,51,22,53,39,33,30,24,18,12,5,63,55,48,27,60,41,37,16,46,35,44,21,52,32,23,11,54,26,40,15,34,20,31,10,25,14,19,9,13,8,7,6].map fun n=>.int .u8 n
def TabOk (G:Imm):Prop:=∀ k v,Yz[k]?=some v→G.cell 1 k=some v
theorem TabOk.cell {G:Imm} (h:TabOk G) (k:Nat) (v:Value) (hv:Yz[k]?=some v):G.cell 1 k=some v:=h k v hv
theorem CG {c:Int} (h:CF c≠0):c=2∨c=4∨c=8∨c=16∨c=32∨c=64∨c=128∨c=256∨c=512:=by
 unfold CF at h
 repeat' split at h
 all_goals omega
theorem XV (G:Imm) (hT:TabOk G) (c:Int) (h:CF c≠0):Does Tryz.prog 269 [.int .u64 c] G [] (fun v G' Ho=>v=.int .i64 (CF c)∧G'=G∧Ho=[]):=by
 refine D0 Tryz.func269 Tryz.ntmps269 fun w=>?_
 rcases CG h with rfl | rfl | rfl | rfl | rfl | rfl | rfl | rfl | rfl
 · have hcell:=hT.cell 1 (.int .u8 1) rfl
   refine dT ?_
   refine cX rfl ?_
   refine aA 1 [] ?_
   refine eH ?_
   refine cE ?_
   refine dT ?_
   refine dT ?_
   refine cX rfl ?_
   refine aA 2 [] ?_
   refine eH ?_
   refine cE ?_
   refine nZ rfl uU ?_
   refine lV ?_
   refine cE ?_
   refine dT ?_
   refine cX rfl ?_
   refine aA 2 [] ?_
   refine aN (mV rfl) ?_
   refine aN (lY rfl rfl) ?_
   refine aN (lM rfl rfl) ?_
   refine aN (oF rfl rfl sV) ?_
   refine kD 10 rfl (show _=Value.int .u64 1 by kernel_rfl) ?_
   refine aN (iS 1 T.ar395 rfl rfl rfl rfl) ?_
   refine aN (dZ T.one5 rfl sW) ?_
   refine aN (kP rfl T.u3 rfl) ?_
   refine aA 1 [] ?_
   refine eH ?_
   refine cE ?_
   refine nN ?_
   refine bO ?_
   exact ⟨rfl,rfl,rfl⟩
 · have hcell:=hT.cell 3 (.int .u8 2) rfl
   refine dT ?_
   refine cX rfl ?_
   refine aA 1 [] ?_
   refine eH ?_
   refine cE ?_
   refine dT ?_
   refine dT ?_
   refine cX rfl ?_
   refine aA 2 [] ?_
   refine eH ?_
   refine cE ?_
   refine nZ rfl uU ?_
   refine lV ?_
   refine cE ?_
   refine dT ?_
   refine cX rfl ?_
   refine aA 2 [] ?_
   refine aN (mV rfl) ?_
   refine aN (lY rfl rfl) ?_
   refine aN (lM rfl rfl) ?_
   refine aN (oF rfl rfl sV) ?_
   refine kD 10 rfl (show _=Value.int .u64 3 by kernel_rfl) ?_
   refine aN (iS 3 T.ar395 rfl rfl rfl rfl) ?_
   refine aN (dZ T.one5 rfl sW) ?_
   refine aN (kP rfl T.u3 rfl) ?_
   refine aA 1 [] ?_
   refine eH ?_
   refine cE ?_
   refine nN ?_
   refine bO ?_
   exact ⟨rfl,rfl,rfl⟩
 · have hcell:=hT.cell 7 (.int .u8 3) rfl
   refine dT ?_
   refine cX rfl ?_
   refine aA 1 [] ?_
   refine eH ?_
   refine cE ?_
   refine dT ?_
   refine dT ?_
   refine cX rfl ?_
   refine aA 2 [] ?_
   refine eH ?_
   refine cE ?_
   refine nZ rfl uU ?_
   refine lV ?_
   refine cE ?_
   refine dT ?_
   refine cX rfl ?_
   refine aA 2 [] ?_
   refine aN (mV rfl) ?_
   refine aN (lY rfl rfl) ?_
   refine aN (lM rfl rfl) ?_
   refine aN (oF rfl rfl sV) ?_
   refine kD 10 rfl (show _=Value.int .u64 7 by kernel_rfl) ?_
   refine aN (iS 7 T.ar395 rfl rfl rfl rfl) ?_
   refine aN (dZ T.one5 rfl sW) ?_
   refine aN (kP rfl T.u3 rfl) ?_
   refine aA 1 [] ?_
   refine eH ?_
   refine cE ?_
   refine nN ?_
   refine bO ?_
   exact ⟨rfl,rfl,rfl⟩
 · have hcell:=hT.cell 15 (.int .u8 4) rfl
   refine dT ?_
   refine cX rfl ?_
   refine aA 1 [] ?_
   refine eH ?_
   refine cE ?_
   refine dT ?_
   refine dT ?_
   refine cX rfl ?_
   refine aA 2 [] ?_
   refine eH ?_
   refine cE ?_
   refine nZ rfl uU ?_
   refine lV ?_
   refine cE ?_
   refine dT ?_
   refine cX rfl ?_
   refine aA 2 [] ?_
   refine aN (mV rfl) ?_
   refine aN (lY rfl rfl) ?_
   refine aN (lM rfl rfl) ?_
   refine aN (oF rfl rfl sV) ?_
   refine kD 10 rfl (show _=Value.int .u64 15 by kernel_rfl) ?_
   refine aN (iS 15 T.ar395 rfl rfl rfl rfl) ?_
   refine aN (dZ T.one5 rfl sW) ?_
   refine aN (kP rfl T.u3 rfl) ?_
   refine aA 1 [] ?_
   refine eH ?_
   refine cE ?_
   refine nN ?_
   refine bO ?_
   exact ⟨rfl,rfl,rfl⟩
 · have hcell:=hT.cell 31 (.int .u8 5) rfl
   refine dT ?_
   refine cX rfl ?_
   refine aA 1 [] ?_
   refine eH ?_
   refine cE ?_
   refine dT ?_
   refine dT ?_
   refine cX rfl ?_
   refine aA 2 [] ?_
   refine eH ?_
   refine cE ?_
   refine nZ rfl uU ?_
   refine lV ?_
   refine cE ?_
   refine dT ?_
   refine cX rfl ?_
   refine aA 2 [] ?_
   refine aN (mV rfl) ?_
   refine aN (lY rfl rfl) ?_
   refine aN (lM rfl rfl) ?_
   refine aN (oF rfl rfl sV) ?_
   refine kD 10 rfl (show _=Value.int .u64 31 by kernel_rfl) ?_
   refine aN (iS 31 T.ar395 rfl rfl rfl rfl) ?_
   refine aN (dZ T.one5 rfl sW) ?_
   refine aN (kP rfl T.u3 rfl) ?_
   refine aA 1 [] ?_
   refine eH ?_
   refine cE ?_
   refine nN ?_
   refine bO ?_
   exact ⟨rfl,rfl,rfl⟩
 · have hcell:=hT.cell 63 (.int .u8 6) rfl
   refine dT ?_
   refine cX rfl ?_
   refine aA 1 [] ?_
   refine eH ?_
   refine cE ?_
   refine dT ?_
   refine dT ?_
   refine cX rfl ?_
   refine aA 2 [] ?_
   refine eH ?_
   refine cE ?_
   refine nZ rfl uU ?_
   refine lV ?_
   refine cE ?_
   refine dT ?_
   refine cX rfl ?_
   refine aA 2 [] ?_
   refine aN (mV rfl) ?_
   refine aN (lY rfl rfl) ?_
   refine aN (lM rfl rfl) ?_
   refine aN (oF rfl rfl sV) ?_
   refine kD 10 rfl (show _=Value.int .u64 63 by kernel_rfl) ?_
   refine aN (iS 63 T.ar395 rfl rfl rfl rfl) ?_
   refine aN (dZ T.one5 rfl sW) ?_
   refine aN (kP rfl T.u3 rfl) ?_
   refine aA 1 [] ?_
   refine eH ?_
   refine cE ?_
   refine nN ?_
   refine bO ?_
   exact ⟨rfl,rfl,rfl⟩
 · have hcell:=hT.cell 62 (.int .u8 7) rfl
   refine dT ?_
   refine cX rfl ?_
   refine aA 1 [] ?_
   refine eH ?_
   refine cE ?_
   refine dT ?_
   refine dT ?_
   refine cX rfl ?_
   refine aA 2 [] ?_
   refine eH ?_
   refine cE ?_
   refine nZ rfl uU ?_
   refine lV ?_
   refine cE ?_
   refine dT ?_
   refine cX rfl ?_
   refine aA 2 [] ?_
   refine aN (mV rfl) ?_
   refine aN (lY rfl rfl) ?_
   refine aN (lM rfl rfl) ?_
   refine aN (oF rfl rfl sV) ?_
   refine kD 10 rfl (show _=Value.int .u64 62 by kernel_rfl) ?_
   refine aN (iS 62 T.ar395 rfl rfl rfl rfl) ?_
   refine aN (dZ T.one5 rfl sW) ?_
   refine aN (kP rfl T.u3 rfl) ?_
   refine aA 1 [] ?_
   refine eH ?_
   refine cE ?_
   refine nN ?_
   refine bO ?_
   exact ⟨rfl,rfl,rfl⟩
 · have hcell:=hT.cell 61 (.int .u8 8) rfl
   refine dT ?_
   refine cX rfl ?_
   refine aA 1 [] ?_
   refine eH ?_
   refine cE ?_
   refine dT ?_
   refine dT ?_
   refine cX rfl ?_
   refine aA 2 [] ?_
   refine eH ?_
   refine cE ?_
   refine nZ rfl uU ?_
   refine lV ?_
   refine cE ?_
   refine dT ?_
   refine cX rfl ?_
   refine aA 2 [] ?_
   refine aN (mV rfl) ?_
   refine aN (lY rfl rfl) ?_
   refine aN (lM rfl rfl) ?_
   refine aN (oF rfl rfl sV) ?_
   refine kD 10 rfl (show _=Value.int .u64 61 by kernel_rfl) ?_
   refine aN (iS 61 T.ar395 rfl rfl rfl rfl) ?_
   refine aN (dZ T.one5 rfl sW) ?_
   refine aN (kP rfl T.u3 rfl) ?_
   refine aA 1 [] ?_
   refine eH ?_
   refine cE ?_
   refine nN ?_
   refine bO ?_
   exact ⟨rfl,rfl,rfl⟩
 have hcell:=hT.cell 59 (.int .u8 9) rfl
 refine dT ?_
 refine cX rfl ?_
 refine aA 1 [] ?_
 refine eH ?_
 refine cE ?_
 refine dT ?_
 refine dT ?_
 refine cX rfl ?_
 refine aA 2 [] ?_
 refine eH ?_
 refine cE ?_
 refine nZ rfl uU ?_
 refine lV ?_
 refine cE ?_
 refine dT ?_
 refine cX rfl ?_
 refine aA 2 [] ?_
 refine aN (mV rfl) ?_
 refine aN (lY rfl rfl) ?_
 refine aN (lM rfl rfl) ?_
 refine aN (oF rfl rfl sV) ?_
 refine kD 10 rfl (show _=Value.int .u64 59 by kernel_rfl) ?_
 refine aN (iS 59 T.ar395 rfl rfl rfl rfl) ?_
 refine aN (dZ T.one5 rfl sW) ?_
 refine aN (kP rfl T.u3 rfl) ?_
 refine aA 1 [] ?_
 refine eH ?_
 refine cE ?_
 refine nN ?_
 refine bO ?_
 exact ⟨rfl,rfl,rfl⟩
end Go.Proofs.YtngphgeghfdjbaaGreatDoor
namespace Go.Sl
open Go Go.ChangeShapes Go.WideShapes Go.RowKit
def xK (W:World):Imm:=fun b=>W.heap[b]?
theorem TB (W:World):HoldH [] (xK W) W:=
 ⟨fun t b o h=>by simp [Hp.get] at h,fun t t' b o o' h=>by simp [Hp.get] at h,fun b o h=>h,fun t b o h=>by simp [Hp.get] at h⟩
theorem CH {W W':World} (h:Upd (Hp.has []) W W'):Go.RowKit.Below W.heap.size W W':=
 ⟨h.os,h.tape,h.output,h.size,fun k hk=>h.same k hk (fun ⟨t,o,hx⟩=>by simp [Hp.get] at hx)⟩
section
variable {H:Type} {enc:TypeId×Value→H} {P:Program}
theorem Da (hl:laidOutB P=true) {W W':World} {sp':Nat→Bool}:∀ {ts:List TypeId} {vs:List Value} {ds:List (DataW H)} {ps:List MemPlace},(ts.all fun t=>P.readableRec t && decide (t<P.types.size))=true→
 DataW.TrodAll enc P W 0 (fun _=>true) true ts vs ds ps→(∀ p∈ps,W.sameAt W' p)→(∀ p∈ps,sp' p.block=true)→DataW.TrodAll enc P W' 0 sp' true ts vs ds ps
 | [],_,_,_,_,h,_,_=>by
   obtain ⟨rfl,rfl,rfl⟩:=trodAll_nil h
   exact trodAll_mk0
 | t :: ts,_,_,_,hr,h,hs,hp=>by
   obtain ⟨v,vs,d,ds,p,q,rfl,rfl,rfl,h1,h2⟩:=trodAll_cons h
   simp only [iT,aC,aT] at hr
   exact ⟨p,q,WideElems.Trod_stays hl hr.1.1 hr.1.2 h1 (fun x hx=>hs x (by simp [hx])) (fun x hx=>hp x (by simp [hx])),
    Da hl hr.2 h2 (fun x hx=>hs x (by simp [hx])) (fun x hx=>hp x (by simp [hx])),rfl⟩
theorem Ip {w:World} {base:Nat} {sp:Nat→Bool} {hd:Bool}:∀ {ts:List TypeId} {vs:List Value} {ds:List (DataW H)} {ps:List MemPlace},DataW.TrodAll enc P w base sp hd ts vs ds ps→ds.length=ts.length
 | [],_,_,_,h=>by obtain ⟨rfl,rfl,rfl⟩:=trodAll_nil h;rfl
 | t :: ts,_,_,_,h=>by
   obtain ⟨v,vs,d,ds,p,q,rfl,rfl,rfl,h1,h2⟩:=trodAll_cons h
   simp [Ip h2]
theorem CI {f:Func} {n:FuncId} {s:ChangeSpec} {tb:TypeId} {apart fresh handsOn again:Bool} (hl:laidOutB P=true) (hr:(f.params.toList.all fun t=>P.readableRec t && decide (t<P.types.size))=true) (hres:f.resultTypes=#[tb]) (hb:P.underlying tb=some .bool)
 (hv:s.vars=[]) (hs:∀ ds:List (DataW H),ds.length=f.params.toList.length→s.fn H ds={ results:=[.lit (.bool true)],args:=ds }) {W:World} {args:Array Value} {ds gs:List (DataW H)} {before:List MemPlace}
 (hW:DataW.Whole enc P f.params.toList s.vars apart W args.toList ds gs before) (hd:Does P n args.toList (xK W) [] (fun v _ _=>v=.bool true)) :
 Calls P n args W fun e W'=>∃ v,e=.returned v∧s.post enc P f apart fresh handsOn again W args v W':=by
 refine (hd W (TB W)).mono fun e W' ⟨v,G',Ho,he,q1,q2,q3,q4,q5,hvv⟩=>⟨v,he,?_⟩
 subst hvv
 have hbel:=CH q3
 have hW':=hW
 have hlt:=hW.lt
 obtain ⟨p,q,hA,hV,rfl,hz,hn⟩:=hW
 rw [hv] at hV
 obtain ⟨rfl,rfl⟩:=trodVars_none hV
 simp only [fU] at hW' hlt hz hn
 have hlen:=Ip hA
 have hspec:=hs ds hlen
 have hres':∀ (b:Nat) (sp:Nat→Bool) (hd:Bool),DataW.TrodAll enc P W' b sp hd f.resultTypes.toList ((Value.bool true).resultList f.resultTypes.size) (s.fn H (ds++[])).results []:=fun b sp hd=>by
  rw [fU,hspec,hres]
  exact ⟨[],[],shut_bool hb _,trodAll_mk0,rfl⟩
 have hargs:∀ sp:Nat→Bool,(∀ x∈p,sp x.block=true)→DataW.TrodAll enc P W' 0 sp true f.params.toList args.toList (s.fn H (ds++[])).args p:=fun sp hsp=>by
  rw [fU,hspec]
  exact Da hl hr hA (fun x hx=>hbel.same (hlt x hx)) hsp
 have hvars:∀ sp:Nat→Bool,DataW.TrodVars enc P W' sp s.vars (s.fn H (ds++[])).vars []:=fun sp=>by
  rw [fU,hspec,hv];exact rfl
 have hold:∀ x∈p,(fun b=>decide (b<W.heap.size)) x.block=true:=fun x hx=>by simpa using hlt x hx
 refine ⟨ds,[],p,[],p,[],by simpa using hW',hres' _ _ _,hargs _ hold,hvars _,World.keptBut_mono (fun x hx=>⟨hx,.inr (by simpa using hx)⟩) (hbel.frame _),fun _=>?_⟩
 refine ⟨ok_one hres rfl (okWide_bool_mk hb _),_,_,([]++p)++[],⟨[]++p,[],trodAll_append (hargs _ (fun _ _=>rfl)) (hres' _ _ _),hvars _,rfl,?_,?_⟩,?_⟩
 · intro b off hp
   have hp':MemPlace.cell b off∈p:=by simpa using hp
   rw [hbel.frozen (by exact hlt _ hp')]
   exact hz b off hp'
 · intro ha
   simpa using hn ha
 intro x hx _
 simpa using hx
end
theorem Ky {W:World} {b o:Nat} {v:Value} (h:W.cell? ⟨b,o,none⟩=some v):(xK W).cell b o=some v:=by
 unfold World.cell? at h
 unfold Imm.cell xK
 split at h
 · rename_i c t fz hb
   rw [show W.heap[b]?=some (.cells c t fz) from hb]
   exact h
 cases h
theorem Ou {W:World} {a:Addr} {v:Value} (h:W.cell? a=some v):a.spot=none:=by
 unfold World.cell? at h
 split at h
 · cases hs:a.spot with
   | none=>rfl
   | some x=>simp [hs] at h
 cases h
theorem GD {a:Addr} {i:Nat} (h:(a.add i).spot=none) (ha:i=0∨True):a.add i=⟨a.block,a.off+i,none⟩:=by
 unfold Addr.add at h ⊢
 split
 · rename_i h0
   subst h0
   rw [aR rfl] at h
   cases a
   simp_all
 rfl
section
variable {H:Type} {enc:TypeId×Value→H} {P:Program} {α:Type} [Cells α] [Inhabited α]
def XD (enc:TypeId×Value→H) (P:Program) (W:World) (E:TypeId) (Good:α→DataW H→Prop):Prop:=
 ∀ (n:Nat) (cs:List Value) (x:DataW H×List MemPlace),DataW.trod enc P W 0 (fun _=>true) true n E cs=some x→∃ y:α,cs=Cells.enc y∧Good y x.1
theorem Ra {W:World} {b o:Nat} {xs:List α} (h:∀ i,i<xs.length→∀ j,j<Cells.sz α→W.cell? ⟨b,o+(i*Cells.sz α+j),none⟩=(Cells.enc (xs[i]?.getD default))[j]?) (h0:0<Cells.sz α):(xK W).row b o (tM xs):=by
 intro q v hq
 have hlt:q<(tM xs).length:=(aS.1 hq).1
 rw [tI] at hlt
 have h1:q=(q / Cells.sz α)*Cells.sz α+q % Cells.sz α:=by rw [iD];exact (gU q _).symm
 have h2:q % Cells.sz α<Cells.sz α:=nQ _ h0
 have h3:q / Cells.sz α<xs.length:=(qK h0).2 hlt
 have h4:=Bf xs _ _ h3 h2
 rw [←h1,hq] at h4
 have h5:=h _ h3 _ h2
 rw [←h1,←h4] at h5
 exact Ky h5
theorem Kz {W:World} {T E:TypeId} {Good:α→DataW H→Prop} {fuel:Nat} {cs:List Value} {x:DataW H×List MemPlace} (ht:P.underlying T=some (.slice E)) (hsz:P.cellsOf E=Cells.sz α) (h0:0<Cells.sz α)
 (dec:XD (α:=α) enc P W E Good) (h:DataW.trod enc P W 0 (fun _=>true) true fuel T cs=some x) :
 ∃ (a:Option Addr) (cap:Nat) (xs:List α),cs=[.slice a xs.length cap]∧Arr (xK W) a xs∧xs.length≤cap∧
  ((x.1=.nil∧xs=[])∨∃ l r,x.1=.slice l r∧l.length=xs.length∧∀ i,i<xs.length→∃ d,l[i]?=some d∧Good (xs[i]?.getD default) d):=by
 rcases Deep.open_slice ht h with ⟨rfl,rfl⟩ | ⟨a,len,cap,m,n,D,Pl,rfl,hb,hlc,hm,hmm,rfl,hx⟩
 · exact ⟨none,0,[],rfl,pP _,aG _,.inl ⟨rfl,rfl⟩⟩
 have hml:m=cap:=by rw [hmm];simp
 have hel:∀ i,i<len→∃ y:α,W.cells? 0 (a.add (i*Cells.sz α)) (Cells.sz α)=some (Cells.enc y)∧Good y (D i):=fun i hi=>by
  obtain ⟨cs',h1,h2⟩:=hx i sV
  obtain ⟨y,rfl,hg⟩:=dec _ _ _ h2
  rw [hsz] at h1
  exact ⟨y,h1,hg⟩
 obtain ⟨Y,hY⟩:=Deep.choose_lt hel
 have hlen:((List.range len).map Y).length=len:=tS
 have hget:∀ i,i<len→((List.range len).map Y)[i]?.getD default=Y i:=fun i hi=>by simp [hi]
 refine ⟨some a,cap,(List.range len).map Y,by rw [hlen],⟨tI _,?_⟩,by rw [hlen];exact hlc,.inr ⟨_,_,rfl,by simp,fun i hi=>?_⟩⟩
 · rw [hlen]
   rcases eU len with h00 | hpos
   · exact .inl h00
   refine .inr ⟨a.block,a.off,?_,?_⟩
   · have h1:=(World.cells?_some (hY 0 hpos).1).2.2 0 h0
     rw [oO] at h1
     have h2:∃ v,(Cells.enc (Y 0))[0]?=some v:=⟨_,aB (by rw [Cells.len];exact h0)⟩
     obtain ⟨v,hv⟩:=h2
     rw [hv] at h1
     have h3:=Ou h1
     cases a
     simp only [Addr.add] at h3
     simp_all
   refine Ra (fun i hi j hj=>?_) h0
   rw [hlen] at hi
   rw [hget i hi]
   have h1:=(World.cells?_some (hY i hi).1).2.2 j hj
   have h2:∃ v,(Cells.enc (Y i))[j]?=some v:=⟨_,aB (by rw [Cells.len];exact hj)⟩
   obtain ⟨v,hv⟩:=h2
   rw [hv] at h1 ⊢
   rw [Deep.add_add] at h1
   have h3:=Ou h1
   rw [GD h3 (.inr trivial)] at h1
   exact h1
 rw [hlen] at hi
 rw [hget i hi]
 exact ⟨D i,by simp [hi],(hY i hi).2⟩
theorem MQ {W:World} {E:TypeId} (he:P.underlying E=some (.int .i64)):XD (α:=Int) enc P W E (fun y d=>d=.lit (.int .i64 y)∧(Lit.int .i64 y).wf=true):=fun n cs x h=>by
 obtain ⟨k,rfl,rfl,hw⟩:=gI he h
 exact ⟨k,rfl,rfl,hw⟩
theorem CJ {W:World} {E Ti:TypeId} {f0 f1 f2 f3 f4:Field} (hi:P.underlying Ti=some (.int .i64)) (hs:P.underlying E=some (.struct #[f0,f1,f2,f3,f4]))
 (h0:f0.type=Ti∧f0.offset=0) (h1:f1.type=Ti∧f1.offset=1) (h2:f2.type=Ti∧f2.offset=2) (h3:f3.type=Ti∧f3.offset=3) (h4:f4.type=Ti∧f4.offset=4) (hc:P.cellsOf Ti=1) (hcE:P.cellsOf E=5) :
 XD (α:=Instr) enc P W E (fun _ _=>True):=fun n cs x h=>by
 obtain ⟨xs,m,_,_,hl,hxl,hf⟩:=pO hs h
 rw [hcE] at hl
 match cs,hl with
 | [v0,v1,v2,v3,v4],_ =>
   have hxl':xs.length=5:=hxl
   match xs,hxl' with
   | [y0,y1,y2,y3,y4],_ =>
     have k0:=hf 0 f0 rfl;have k1:=hf 1 f1 rfl;have k2:=hf 2 f2 rfl;have k3:=hf 3 f3 rfl;have k4:=hf 4 f4 rfl
     rw [h0.1,h0.2,hc] at k0;rw [h1.1,h1.2,hc] at k1;rw [h2.1,h2.2,hc] at k2;rw [h3.1,h3.2,hc] at k3;rw [h4.1,h4.2,hc] at k4
     obtain ⟨a0,e0,_,_⟩:=gI hi k0
     obtain ⟨a1,e1,_,_⟩:=gI hi k1
     obtain ⟨a2,e2,_,_⟩:=gI hi k2
     obtain ⟨a3,e3,_,_⟩:=gI hi k3
     obtain ⟨a4,e4,_,_⟩:=gI hi k4
     simp at e0 e1 e2 e3 e4
     exact ⟨⟨a0,a1,a2,a3,a4⟩,by rw [e0,e1,e2,e3,e4];rfl,trivial⟩
end
end Go.Sl
namespace Go.Proofs.YtngphgeghfdjbaaGreatDoor
open Go Go.Sl Go.ChangeShapes Go.WideShapes Go.RowKit Go.Joins
abbrev PB : List (String × DataW Unit) := [("math/bits.deBruijn32tab", Rows.laid_math_bits_deBruijn32tab), ("math/bits.deBruijn64tab", Rows.laid_math_bits_deBruijn64tab), ("unicode/utf8.acceptRanges", Rows.laid_unicode_utf8_acceptRanges), ("unicode/utf8.first", Rows.laid_unicode_utf8_first)]
def GF:List Int:=[0,1,56,2,57,49,28,3,61,58,42,50,38,29,17,4,62,47,59,36,45,43,51,22,53,39,33,30,24,18,12,5,63,55,48,27,60,41,37,16,46,35,44,21,52,32,23,11,54,26,40,15,34,20,31,10,25,14,19,9,13,8,7,6]
theorem XW:Tryz.prog.underlying 4=some .bool:=tC
theorem Za:laidOutB Tryz.prog=true:=tC
theorem own:ownKnob Tryz.prog.godebug=none:=tC
theorem TC : Tryz.prog.globalNamed "math/bits.deBruijn64tab" = some 1 := by kernel_rfl
theorem GG:(Tryz.prog.globals[1]?).map (·.type)=some 395:=tC
theorem QB:Tryz.prog.underlying 395=some (.array 64 5):=tC
theorem XX:Tryz.prog.underlying 5=some (.int .u8):=tC
theorem GH:Tryz.prog.cellsOf 395=64:=tC
theorem QC:Tryz.prog.cellsOf 5=1:=tC
theorem TD {W : World} (h : laidMetH Tryz.prog PB W) : Lib.TabIs Tryz.prog W "math/bits.deBruijn64tab" .u8 GF := by
 have h1 := h.filter (fun x => x.1 == "math/bits.deBruijn64tab")
 have e : PB.filter (fun x => x.1 == "math/bits.deBruijn64tab") = [("math/bits.deBruijn64tab", Rows.laid_math_bits_deBruijn64tab)] := by kernel_rfl
 rw [e] at h1
 exact Lib.tabIs_of_head (rest:=[]) TC GG QB XX QC GH h1
theorem QD {W:World} (h:laidMetH Tryz.prog PB W):TabOk (xK W):=fun k v hv=>by
 have hk:k<GF.length:=by
  have:=(aS.1 hv).1
  simpa [Yz,GF] using this
 have h1:=(TD h).cell TC k hk
 have h2:=Ky h1
 rw [h2]
 have e:Yz=GF.map fun n=>.int .u8 n:=rfl
 rw [e,cK,aB hk] at hv
 rw [←hv,List.getD_eq_getElem?_getD,aB hk];rfl
def Rb (cs:Array Value):Obj→Obj
 | .cells _ t frozen=>.cells cs t frozen
 | o=>o
def He (os:Os):World:=
 { World.holding Tryz.prog os ⟨#[],#[],[]⟩ with heap:=((((World.holding Tryz.prog os ⟨#[],#[],[]⟩).heap.modify 0 (Rb #[.int .u8 0,.int .u8 1,.int .u8 28,.int .u8 2,.int .u8 29,.int .u8 14,.int .u8 24,.int .u8 3,.int .u8 30,.int .u8 22,.int .u8 20,.int .u8 15,.int .u8 25,.int .u8 17,.int .u8 4,.int .u8 8,.int .u8 31,.int .u8 27,.int .u8 13,.int .u8 23,.int .u8 21,.int .u8 19,.int .u8 16,.int .u8 7,.int .u8 26,.int .u8 12,.int .u8 18,.int .u8 6,.int .u8 11,.int .u8 5,.int .u8 10,.int .u8 9])).modify 1 (Rb Yz.toArray)).modify 2 (Rb (Go.Pinned.utf8FirstZ.map fun (n:Nat)=>Value.int .u8 (n:Int)).toArray)).modify 3 (Rb #[.int .u8 128,.int .u8 191,.int .u8 160,.int .u8 191,.int .u8 128,.int .u8 159,.int .u8 144,.int .u8 191,.int .u8 128,.int .u8 143,.int .u8 0,.int .u8 0,.int .u8 0,.int .u8 0,.int .u8 0,.int .u8 0,.int .u8 0,.int .u8 0,.int .u8 0,.int .u8 0,.int .u8 0,.int .u8 0,.int .u8 0,.int .u8 0,.int .u8 0,.int .u8 0,.int .u8 0,.int .u8 0,.int .u8 0,.int .u8 0,.int .u8 0,.int .u8 0]) }
end Go.Proofs.YtngphgeghfdjbaaGreatDoor
end
