/- sT of the proof (part 2): what the rows' text needs of the texts that lead to it. -/
import Derived.Test.YtngphgeghfdjbaaGreatDoorMAa
set_option linter.unusedVariables false
set_option linter.unusedSimpArgs false
set_option linter.unusedSectionVars false
set_option maxHeartbeats 4000000
noncomputable section
set_option maxRecDepth 100000
namespace Go.Sl
open Go
structure R2 where
 a:Int
 b:Int
 deriving DecidableEq
instance:Inhabited R2:=⟨⟨0,0⟩⟩
instance:Cells R2:=⟨2,fun i=>[.int .i64 i.a,.int .i64 i.b],fun _=>rfl,fun _=>rfl⟩
structure R6 where
 a:Int
 b:Int
 c:Int
 d:Int
 e:Int
 f:Int
 deriving DecidableEq
instance:Inhabited R6:=⟨⟨0,0,0,0,0,0⟩⟩
instance:Cells R6:=⟨6,fun i=>[.int .i64 i.a,.int .i64 i.b,.int .i64 i.c,.int .i64 i.d,.int .i64 i.e,.int .i64 i.f],fun _=>rfl,fun _=>rfl⟩
section scope
variable {P:Program} {b:Frame} {a:Act} {k:List Item} {cs:List Frame} {w:World} {Q:Exit→Act→World→Prop} {F:Fence} {n:Nat}
theorem uY {c:Code}:step P (lone (b.atR a (.code (.scope c) :: k)) cs w)=.next (lone (b.atR a (.code c :: .inScope c :: k)) cs w):=
 step_lone_go (by simp [stepG,stepG.exec,Frame.atR])
theorem Ko {c:Code}:step P (lone (b.atR a (.inScope c :: k)) cs w)=.next (lone (b.atR a k) cs w):=
 step_lone_go (by simp [stepG,stepG.exec,Frame.atR])
def Nl (Q:Exit→Act→World→Prop):Exit→Act→World→Prop
 | .goto _,_,_=>False
 | e,a,w=>Q e a w
theorem Hz {c:Code} (h:c.wpIn F n P (Nl Q) a w):(Code.scope c).wpIn F n P Q a w:=by
 intro b k cs hro hb hr
 have h0:(lone (b.atR a (.code (.scope c) :: k)) cs w).fenced P F:=lN hb hr rfl
 obtain ⟨e,a₁,w₁,hq,harr⟩:=h b (.inScope c :: k) cs hro hb hr
 cases e with
 | normal=>exact ⟨.normal,a₁,w₁,hq,.head h0 uY (qA harr (.one (lN hb hr rfl) Ko))⟩
 | exit id =>
   have hx:exitTo id (.inScope c :: k)=exitTo id k:=by simp [exitTo]
   exact ⟨.exit id,a₁,w₁,hq,fun k' hk=>.head h0 uY (harr.1 k' (by rw [hx];exact hk)),
    fun hr' hk=>let ⟨k₁,h1,h2⟩:=harr.2 hr' (by rw [hx];exact hk);⟨k₁,h1,.head h0 uY h2⟩⟩
 | goto l=>exact hq.elim
 | ret=>exact ⟨_,a₁,w₁,hq,.of_steps (.one h0 uY) harr⟩
 | panic ch=>exact ⟨_,a₁,w₁,hq,.of_steps (.one h0 uY) harr⟩
 | outgrown=>exact ⟨_,a₁,w₁,hq,.of_steps (.one h0 uY) harr⟩
end scope
section scopeS
variable {r:Option Nat} {P:Program} {B:Bs} {S:St} {Q:Exit→Act→World→Prop}
theorem Wc.scope {c:Code} (h:Wc r P c B S (Nl Q)):Wc r P (.scope c) B S Q:=fun a w hh=>Hz (h a w hh)
theorem Xy (h:Ar Q .ret B S):Ar (Nl Q) .ret B S:=h
abbrev pY:=@Xy
end scopeS
section
variable {P:Program} {ops:Array Oper} {rest:List Oper} {B:Bs} {e:Env} {D:List Deferred} {H H0:Hp} {G:Imm} {K:Act→World→Prop}
 {ty:TypeId} {pos:String} {after:Array Edge} {d:Nat} {f:Nat} {listed:Array Bool}
theorem Dt {Q:Exit→Act→World→Prop} {x:Exit} (t:Nat) (o:Obj) (h:Ar Q x B ⟨e,D,(t,none,o) :: H,G⟩):Ar Q x B ⟨e,D,H,G⟩:=fun a w hh=>h a w (hh.noBlock t o)
theorem Ia {o:Op} {j:Nat} {want:Bool} {t:Nat} (hj:(ops[j]?).bind (·.dst)=some t) (he:e.get t=some undef) (hn:Nat.ble (d+1) B.n=true)
 (h:Wl P ops rest B ⟨(d,undef) :: e,D,H,G⟩ K):Wl P ops (⟨some d,o,ty,pos,after,some (j,want)⟩ :: rest) B ⟨e,D,H,G⟩ K:=by
 intro a w hh
 unfold rZ
 have hy:yielded ops a.tmps j=none:=by simp [yielded,hj,hh.env t _ he,undef]
 rw [aK (by simp [Region.wanted,hy])]
 exact h _ _ (hh.put hn undef)
end
def Hp.pick (H:Hp):Nat→List Nat→Hp
 | _,[]=>[]
 | i,t :: ts=>match H.get t with | some x=>(i,x) :: Hp.pick H (i+1) ts | none=>Hp.pick H (i+1) ts
theorem Fc (H:Hp):∀ (ts:List Nat) (i j:Nat) (x:Option Nat×Obj),(H.pick i ts).get j=some x→i≤j∧∃ t,ts[j - i]?=some t∧H.get t=some x
 | [],i,j,x,h=>by simp [Hp.pick,Hp.get] at h
 | t :: ts,i,j,x,h=>by
   unfold Hp.pick at h
   have rec':(H.pick (i+1) ts).get j=some x→i≤j∧∃ t',(t :: ts)[j - i]?=some t'∧H.get t'=some x:=fun h=>by
    obtain ⟨h1,t',h2,h3⟩:=Fc H ts (i+1) j x h
    refine ⟨by omega,t',?_,h3⟩
    rw [show j - i=(j - (i+1))+1 by omega]
    simpa using h2
   split at h
   · rename_i y hy
     have h':Hp.get ((i,y) :: H.pick (i+1) ts) j=some x:=h
     rw [cE] at h'
     split at h'
     · rename_i e;subst e;cases h';exact ⟨aH _,t,by simp,hy⟩
     exact rec' h'
   exact rec' h
theorem Hold.pick {B:Bs} {e:Env} {D:List Deferred} {H:Hp} {G:Imm} {a:Act} {w:World} (hh:Hold B ⟨e,D,H,G⟩ a w) {ts:List Nat} (hn:ts.Nodup):Hold B ⟨e,D,H.pick 0 ts,G⟩ a w:=by
 have key:∀ t x,(H.pick 0 ts).get t=some x→∃ t',ts[t]?=some t'∧H.get t'=some x:=fun t x hx=>by
  obtain ⟨_,t',h1,h2⟩:=Fc H ts 0 t x hx
  exact ⟨t',by simpa using h1,h2⟩
 refine ⟨hh.size,hh.defers,hh.env,⟨?_,?_,hh.mem.imm,?_⟩,hh.upd,?_,hh.le,hh.new⟩
 · intro t b o hx;obtain ⟨t',_,h2⟩:=key _ _ hx;exact hh.mem.own _ b o h2
 · intro t u b o o' hx hy
   obtain ⟨t',h1,h2⟩:=key _ _ hx
   obtain ⟨u',h3,h4⟩:=key _ _ hy
   have:=hh.mem.one _ _ b _ _ h2 h4
   subst this
   obtain ⟨h5,h6⟩:=aV.1 h1
   obtain ⟨h7,h8⟩:=aV.1 h3
   rcases Nat.lt_trichotomy t u with h | h | h
   · exact absurd (h6.trans h8.symm) (List.pairwise_iff_getElem.1 hn t u h5 h7 h)
   · exact h
   exact absurd (h8.trans h6.symm) (List.pairwise_iff_getElem.1 hn u t h7 h5 h)
 · intro t b o hx;obtain ⟨t',_,h2⟩:=key _ _ hx;exact hh.mem.off _ b o h2
 intro t b o hx;obtain ⟨t',_,h2⟩:=key _ _ hx;exact hh.mine _ b o h2
section
variable {P:Program} {ops:Array Oper} {rest:List Oper} {B:Bs} {e:Env} {D:List Deferred} {H H0:Hp} {G:Imm} {K:Act→World→Prop}
 {ty:TypeId} {pos:String} {after:Array Edge} {d:Nat} {f:Nat} {listed:Array Bool}
theorem Ar.pick {Q:Exit→Act→World→Prop} {x:Exit} (ts:List Nat) (hn:ts.Nodup) (h:Ar Q x B ⟨e,D,H.pick 0 ts,G⟩):Ar Q x B ⟨e,D,H,G⟩:=fun a w hh=>h a w (hh.pick hn)
def LN {ι:Type} (B:Bs) (I:ι→St) (φ:ι→Prop):Act→World→Prop:=fun a w=>∃ j,φ j∧Hold B (I j) a w
theorem HZ {ι:Type} {r:Option Nat} {x y:Code} {Q:Exit→Act→World→Prop} (I:ι→Env×Hp) (φ:ι→Prop)
 (h1:Wc r P x B ⟨e,D,H,G⟩ (Exit.then (LN B (fun i=>⟨(I i).1,D,(I i).2,G⟩) φ) Q)) (h2:∀ i,φ i→Wc r P y B ⟨(I i).1,D,(I i).2,G⟩ Q):Wc r P (.seq x y) B ⟨e,D,H,G⟩ Q:=by
 refine dN fun a w hh b k cs hro hb hr=>?_
 obtain ⟨ex,a',w',hq,ha⟩:=h1 a w hh b k cs hro hb hr
 refine ⟨ex,a',w',?_,ha⟩
 cases ex with
 | normal=>obtain ⟨j,hj,hI⟩:=hq;exact h2 j hj a' w' hI
 | exit id=>exact hq
 | goto l=>exact hq
 | ret=>exact hq
 | panic ch=>exact hq
 | outgrown=>exact hq
abbrev pT:=@HZ
theorem Bz {ι:Type} {I:ι→St} {φ:ι→Prop} {Q:Exit→Act→World→Prop} (j:ι) (hφ:φ j)
 (hI:I j=⟨(I j).e,D,(I j).H,G⟩) (he:e.sub (I j).e) (hH:H.sub (I j).H):Ar (Exit.then (LN B I φ) Q) .normal B ⟨e,D,H,G⟩:=
 fun a w hh=>⟨j,hφ,by rw [hI];exact hh.sub he hH⟩
def Nm (H:Hp) (Gx:Imm):Prop:=∀ t b o,H.get t=some (some b,o)→Gx b=some o
theorem HoldH.lend {H:Hp} {G:Imm} {w:World} (h:HoldH H G w):∃ Gx:Imm,G.le Gx∧Nm H Gx∧HoldH [] Gx w∧(∀ b,Gx b≠none→G b=none→∃ t o,H.get t=some (some b,o)):=by
 classical
 refine ⟨fun b=>if hx:∃ o,∃ t,H.get t=some (some b,o) then some (Classical.choose hx) else G b,?_,?_,⟨?_,?_,?_,?_⟩,?_⟩
 · intro b o hb
   have hn:¬∃ o,∃ t,H.get t=some (some b,o):=fun ⟨o',t,ht⟩=>by rw [h.off t b o' ht] at hb;cases hb
   simp only [hn,dif_neg,qL];exact hb
 · intro t b o ht
   have hx:∃ o,∃ t,H.get t=some (some b,o):=⟨o,t,ht⟩
   simp only [hx,dif_pos]
   obtain ⟨t',ht'⟩:=pK hx
   have:=h.one _ _ b _ _ ht ht'
   subst this
   rw [ht] at ht'
   simp only [bY,dO,true_and] at ht'
   rw [←ht']
 · intro t b o hx;simp [Hp.get] at hx
 · intro t t' b o o' hx;simp [Hp.get] at hx
 · intro b o hb
   try simp only at hb
   split at hb
   · rename_i hx
     obtain ⟨t',ht'⟩:=pK hx
     cases hb
     exact h.own t' b _ ht'
   exact h.imm b o hb
 · intro t b o hx;simp [Hp.get] at hx
 intro b hb hg
 try simp only at hb
 split at hb
 · rename_i hx;exact ⟨_,_,(pK hx).choose_spec⟩
 exact absurd hg hb
theorem Arr.own {α:Type} [Cells α] {Gx:Imm} {a:Option Addr} {c:Nat} {E:TypeId} {xs:List α} {junk:List Value} (hb:Nm H Gx) (t:Nat) (ht:H.get t=some (a.map (·.block),rV E xs junk)) (ho:OwnA a c xs junk):Arr Gx a xs:=by
 rcases ho with ⟨rfl,rfl,rfl,_⟩ | ⟨b,rfl,_⟩
 · exact oK Gx
 exact Vc (E:=E) (junk:=junk) (hb t b _ ht)
abbrev mN:=@Arr.own
theorem BT {fn:FuncId} {xs:Array Operand} {ats:Array TypeId} {vs:List Value} {post:Imm→Value→Imm→Hp→Prop} (k:Nat)
 (hn:Nat.ble (d+1) B.n=true) (hf:uH P fn) (hx:e.evs xs.toList=some vs)
 (hF:∀ Gx,G.le Gx→Nm H Gx→Does P fn vs Gx [] (post Gx))
 (h:∀ v Gx G' Ho,G.le Gx→post Gx v G' Ho→Wl P ops rest B ⟨(d,v) :: e,D,Ho.shift k++H,G⟩ K) :
 Wl P ops (⟨some d,.call { callee:=.value (.func fn),args:=xs,argTypes:=ats },ty,pos,after,none⟩ :: rest) B ⟨e,D,H,G⟩ K:=by
 intro a w hh
 obtain ⟨f,h1,h2,h3⟩:=hf
 unfold rZ
 rw [aR (by simp [Region.wanted])]
 unfold wD
 have hrun:(execOp a.eval ⟨some d,.call { callee:=.value (.func fn),args:=xs,argTypes:=ats },ty,pos,after,none⟩).run P w=.ok (.enter fn vs.toArray) w:=by
  simp [execOp,resolve,Deferred.ofValue,invoke,Act.eval,hh.args hx,wO w _ h1 h2 h3]
 rw [hrun]
 obtain ⟨Gx,g1,g2,g3,_⟩:=hh.mem.lend
 refine (hF Gx g1 g2 w g3).mono fun x w' ⟨v,G',Ho,q1,q2,q3,q4,q5,q6,q7⟩=>⟨v,q1,?_⟩
 refine h v Gx G' Ho g1 q7 _ _ (Hold.put ?_ hn v)
 have hno:∀ b,¬Hp.has [] b:=fun b ⟨t,o,hx⟩=>by simp [Hp.get] at hx
 have hup:Upd (fun _=>False) w w':=q4.mono (fun k _ hk=>hno k hk)
 have hg:=hh.grow hup
 have hfr:∀ t b o,Ho.get t=some (some b,o)→w.heap.size≤b:=fun t b o hx=>(q6 t b o hx).resolve_right (hno b)
 have hsplit:∀ i b o,(Ho.shift k++H).get i=some (some b,o)→(k≤i∧Ho.get (i - k)=some (some b,o))∨H.get i=some (some b,o):=by
  intro i b o hx
  rw [qB,Bw] at hx
  by_cases hi:k≤i
  · rw [aR hi] at hx
    cases hgg:Ho.get (i - k) with
    | some x=>rw [hgg] at hx;exact .inl ⟨hi,by simpa using hx⟩
    | none=>rw [hgg] at hx;simp only [nQ] at hx;exact .inr hx
  rw [aK hi] at hx;simp only [nQ] at hx;exact .inr hx
 refine ⟨hg.size,hg.defers,hg.env,⟨?_,?_,hg.mem.imm,?_⟩,hg.upd,?_,hg.le,hg.new⟩
 · intro i b o hx
   rcases hsplit i b o hx with ⟨_,h'⟩ | h'
   · exact q2.own _ b o h'
   exact hg.mem.own i b o h'
 · intro i j b o o' hx hy
   rcases hsplit i b o hx with ⟨hi,h'⟩ | h' <;> rcases hsplit j b o' hy with ⟨hj,h''⟩ | h''
   · have:=q2.one _ _ b _ _ h' h'';omega
   · have:=hfr _ b o h';have h4:b<w.heap.size:=hh.mem.lt h'';omega
   · have:=hfr _ b o' h'';have h4:b<w.heap.size:=hh.mem.lt h';omega
   exact hg.mem.one _ _ b _ _ h' h''
 · intro i b o hx
   rcases hsplit i b o hx with ⟨_,h'⟩ | h'
   · have hb:=hfr _ b o h'
     cases hgb:G b with
     | none=>exact hgb
     | some y=>have:b<w.heap.size:=hh.mem.ltG hgb;omega
   exact hg.mem.off i b o h'
 intro i b o hx
 rcases hsplit i b o hx with ⟨_,h'⟩ | h'
 · exact .inl (aP hh.upd.size (hfr _ b o h'))
 exact hh.mine i b o h'
abbrev nP:=@BT
def Vf (H:Hp) (k:Nat):Hp→Prop
 | []=>True
 | (t,x) :: L=>H.get (k+t)=some x∧Vf H k L
theorem sR {k:Nat}:∀ {Hi:Hp},Vf H k Hi→∀ t x,Hi.get t=some x→H.get (k+t)=some x
 | [],_,t,x,h=>by simp [Hp.get] at h
 | (j,y) :: L,⟨h1,h2⟩,t,x,h=>by
   rw [cE] at h
   split at h
   · rename_i hj;subst hj;cases h;exact h1
   exact sR h2 t x h
section own
variable {α:Type} [Cells α] {a:Option Addr} {c:Nat} {xs:List α} {junk:List Value}
theorem OwnA.addr (h:OwnA a c xs junk) (hn:0<xs.length):a=some ⟨ab a,0,none⟩:=by
 rcases h with ⟨_,h,_⟩ | ⟨b,rfl,_⟩
 · subst h;simp at hn
 rfl
theorem OwnA.blk (h:OwnA a c xs junk) (hn:0<xs.length):a.map (·.block)=some (ab a):=by rw [h.addr hn];rfl
theorem OwnA.le (h:OwnA a c xs junk):xs.length≤c:=by
 rcases h with ⟨_,rfl,_,rfl⟩ | ⟨b,_,_,h,_⟩
 · simp
 exact h
theorem Kp {T:TypeId} {x i:Operand} {k:IntKind} {m:Int} {E:Nat} (hT:rS P T E (Cells.sz α)) (hx:e.ev x=some (.slice a xs.length c)) (hi:e.ev i=some (.int k m)) (ho:OwnA a c xs junk) (hb:0≤m∧m<xs.length) :
 Qy P (.indexAddr T x i) ty e H G (.pointer (some ⟨ab a,0+m.toNat*Cells.sz α,none⟩)):=by
 have ha:=ho.addr rG
 rw [ha] at hx
 exact dF hT hx hi hb
abbrev kX:=@Kp
theorem Ca [Inhabited α] {T:TypeId} {x:Operand} {E:TypeId} {m:Int} {v:Value} (t k:Nat) (h1:tZ P T=true) (hx:e.ev x=some (.pointer (some ⟨ab a,0+m.toNat*Cells.sz α+k,none⟩)))
 (ht:H.get t=some (a.map (·.block),rV E xs junk)) (ho:OwnA a c xs junk) (hm:0≤m∧m<xs.length) (hk:Nat.ble (k+1) (Cells.sz α)=true) (hv:(Cells.enc (xs[m.toNat]?.getD default))[k]?=some v):Qy P (.load T x) ty e H G v:=by
 rw [ho.blk rG] at ht
 exact Ps t k h1 hx ht hm hk hv
theorem Xz [Inhabited α] {T:TypeId} {x:Operand} {E:TypeId} {m:Int} (t:Nat) (h1:uS P T (Cells.sz α)=true) (hx:e.ev x=some (.pointer (some ⟨ab a,0+m.toNat*Cells.sz α,none⟩)))
 (ht:H.get t=some (a.map (·.block),rV E xs junk)) (ho:OwnA a c xs junk) (hm:0≤m∧m<xs.length):Qy P (.load T x) ty e H G (.agg (Cells.enc (xs[m.toNat]?.getD default)).toArray):=by
 rw [ho.blk rG] at ht
 exact Lq t h1 hx ht hm
theorem IA {T:TypeId} {x y:Operand} {E:TypeId} {m:Int} {v:Value} {z:α} (t:Nat) (hs:(P.info? T).map (·.size)=some (Cells.sz α))
 (hx:e.ev x=some (.pointer (some ⟨ab a,0+m.toNat*Cells.sz α,none⟩))) (hy:e.ev y=some v) (ht:H.get t=some (a.map (·.block),rV E xs junk)) (ho:OwnA a c xs junk) (hm:0≤m∧m<xs.length) (hv:v.cells=(Cells.enc z).toArray)
 (h:OwnA a c (xs.set m.toNat z) junk→Wl P ops rest B ⟨e,D,(t,a.map (·.block),rV E (xs.set m.toNat z) junk) :: H,G⟩ K):Wl P ops (⟨none,.store T x y,ty,pos,after,none⟩ :: rest) B ⟨e,D,H,G⟩ K:=by
 have h':=h (by
  rcases ho with ⟨_,h,_⟩ | ⟨b,h1,h2,h3,h4⟩
  · subst h;simp at hm;omega
  exact .inr ⟨b,h1,by simpa using h2,by simpa using h3,h4⟩)
 have hb:=ho.blk rG
 rw [hb] at ht h'
 exact Ve t hs hx hy hv ht hm h'
abbrev eT:=@IA
theorem Kq {sz:Nat} (ho:OwnA a c xs junk):subA a c 0 sz=a:=by
 rcases ho with ⟨rfl,_⟩ | ⟨b,rfl,_⟩
 · unfold subA;split <;> rfl
 unfold subA;split <;> simp [add_lit]
end own
end
section
variable {P:Program} {ops:Array Oper} {rest:List Oper} {B:Bs} {e:Env} {D:List Deferred} {H:Hp} {G:Imm} {K:Act→World→Prop} {ty:TypeId} {pos:String} {after:Array Edge}
end
def lrec (q:Loop) (s:LoopState) (p:Option Code):Obj:=.loop { q with state:=s,pending:=p }
def BU (K:Nat):Hp→Bool
 | []=>true
 | (t,_) :: h=>Nat.ble (t+1) K && BU K h
section
variable {P:Program} {ops:Array Oper} {rest:List Oper} {B:Bs} {e:Env} {D:List Deferred} {H:Hp} {G:Imm} {K:Act→World→Prop}
 {ty:TypeId} {pos:String} {after:Array Edge} {d:Nat}
def mark (b:Nat):Deferred:={ target:=.collected b,args:=#[] }
theorem wZ (w:World) (b:Nat) (o:Obj):Upd (·=b) w (w.putObj b o):=⟨rfl,rfl,rfl,by simp,fun k _ hk=>World.putObj_heap_other hk⟩
section out
variable {fn:Func} {G0:Imm} {Hi:Hp} {w0:World} {post:Value→Imm→Hp→Prop} {x:Exit}
end out
def Env.ps:List Nat→List Value→Env→Env
 | t :: ts,v :: vs,e=>Env.ps ts vs ((t,v) :: e)
 | _,_,e=>e
section round
variable {ι:Type} {x:Exit} {l n:Nat} {w0:World} {Hi:Hp} {G0:Imm} {post:Value→Imm→Hp→Prop} {q:Loop} {p:Option Code}
end round
section stmt
variable {β ι:Type} {Q:Exit→Act→World→Prop} {f:FuncId} {fst caps:List Value} {enc:β→List Value} {xs:List β} {ps:List Nat} {assign body:Code} {g:Operand}
def LO:Option Code→LoopState | none=>.ready | some _=>.done
end stmt
end
section
variable {P:Program} {e:Env} {H:Hp} {G:Imm} {ty:TypeId}
def Cb (P:Program) (t:TypeId):Bool:=match P.underlying t with | some (.func _ _ _)=>true | _=>false
theorem wM {t:TypeId} {f:Fn} {fs cs:Array Value} (ht:Cb P t=true) (d:Nat) (w:World):(Op.equalIn (d+1) t (.func f fs cs) .nilFunc).run P w=.ok false w:=by
 unfold Cb at ht
 split at ht
 · rename_i a1 a2 a3 hu
   simp [Op.equalIn,aS hu]
 cases ht
theorem Kr {t t':TypeId} {x y:Operand} {f:Fn} {fs cs:Array Value} (ht:Cb P t=true) (hx:e.ev x=some (.func f fs cs)) (hy:e.ev y=some .nilFunc):Qy P (.binOp .eql t x y t') ty e H G (.bool false):=fun a w _ _ _ _ hh=>by
 have:=wM (P:=P) (f:=f) (fs:=fs) (cs:=cs) ht 9999 w
 simp [execOp,hh.eval hx,hh.eval hy,binOp,eqGuard,Op.equal,Op.maxDepth,this]
theorem Ks {t t':TypeId} {x y:Operand} {f:Fn} {fs cs:Array Value} (ht:Cb P t=true) (hx:e.ev x=some (.func f fs cs)) (hy:e.ev y=some .nilFunc):Qy P (.binOp .neq t x y t') ty e H G (.bool true):=fun a w _ _ _ _ hh=>by
 have:=wM (P:=P) (f:=f) (fs:=fs) (cs:=cs) ht 9999 w
 simp [execOp,hh.eval hx,hh.eval hy,binOp,eqGuard,Op.equal,Op.maxDepth,this]
theorem wF {t E:TypeId} {a:Option Addr} {n c:Nat} (ht:P.underlying t=some (.slice E)) (d:Nat) (w:World):(Op.equalIn (d+1) t (.slice a n c) (.slice none 0 0)).run P w=.ok a.isNone w:=by
 cases a <;> simp [Op.equalIn,aS ht]
theorem Ib {t t':TypeId} {x y:Operand} {a:Option Addr} {n c E sz:Nat} (ht:rS P t E sz) (hx:e.ev x=some (.slice a n c)) (hy:e.ev y=some (.slice none 0 0)):Qy P (.binOp .eql t x y t') ty e H G (.bool (decide (a=none))):=fun w0 w _ _ _ _ hh=>by
 have:=wF (P:=P) (a:=a) (n:=n) (c:=c) ht.1 9999 w
 simp [execOp,hh.eval hx,hh.eval hy,binOp,eqGuard,Op.equal,Op.maxDepth,this]
 cases a <;> rfl
abbrev gH:=@Ib
theorem zF {t t':TypeId} {x y:Operand} {a:Option Addr} {n c E sz:Nat} (ht:rS P t E sz) (hx:e.ev x=some (.slice a n c)) (hy:e.ev y=some (.slice none 0 0)):Qy P (.binOp .neq t x y t') ty e H G (.bool (decide (a≠none))):=fun w0 w _ _ _ _ hh=>by
 have:=wF (P:=P) (a:=a) (n:=n) (c:=c) ht.1 9999 w
 simp [execOp,hh.eval hx,hh.eval hy,binOp,eqGuard,Op.equal,Op.maxDepth,this]
 cases a <;> rfl
theorem Ku {T:TypeId} {x i:Operand} {b o n sz:Nat} {zs:List Value} {k:IntKind} {m:Int} (j:Nat) (hT:ArrayOf P T n sz zs) (hx:e.ev x=some (.pointer (some ⟨b,o,none⟩))) (hi:e.ev i=some (.int k m))
 (hb:decide (0≤m∧m<n)=true) (hj:Nat.beq (m.toNat*sz) j=true):Qy P (.indexAddr T x i) ty e H G (.pointer (some ⟨b,o+j,none⟩)):=fun a w _ _ _ _ hh=>by
 obtain ⟨z,E,hu,_,_,hs⟩:=hT
 have hb':=qK hb
 have hj':=aD hj
 simp [execOp,Instr.indexAt,Instr.sureAddr,hh.eval hx,hh.eval hi,asIntOf,aS hu,hb',run_sizeOf w hs,add_lit,hj']
abbrev iE:=@Ku
end
section
variable {P:Program} {B:Bs} {e:Env} {D:List Deferred} {H:Hp} {G:Imm}
theorem Hold.base {a:Act} {w:World} (hh:Hold B ⟨e,D,H,G⟩ a w):Hold B ⟨e,D,H,B.G0⟩ a w:=by
 refine ⟨hh.size,hh.defers,hh.env,⟨hh.mem.own,hh.mem.one,fun b o h=>hh.mem.imm b o (hh.le b o h),fun t b o h=>?_⟩,hh.upd,hh.mine,cD _,fun b h h0=>(h h0).elim⟩
 have h1:G b=none:=hh.mem.off t b o h
 show B.G0 b=none
 cases hg:B.G0 b with
 | none=>rfl
 | some x=>have h2:G b=some x:=hh.le b x hg;rw [h1] at h2;cases h2
theorem Ar.base {Q:Exit→Act→World→Prop} {x:Exit} (h:Ar Q x B ⟨e,D,H,B.G0⟩):Ar Q x B ⟨e,D,H,G⟩:=fun a w hh=>h a w hh.base
end
def Du (r:Option Nat) (P:Program) (c:Code) (Q:Exit→Act→World→Prop) (a:Act) (w:World):Prop:=
 ∀ (b:Frame) (k:List Item) (cs:List Frame),b.roundOf=(FF r).round→(FF r).fn b.fn→(FF r).room (cs.length+1+0)→
  ∃ e a' w',Q e a' w'∧ArrivesIn (Machine.fenced P (FF r)) P (lone (b.atR a (.code c :: .inLoop c :: k)) cs w) b k cs e a' w'
def La (r:Option Nat) (P:Program) (c:Code) (B:Bs) (S:St) (Q:Exit→Act→World→Prop):Prop:=∀ a w,Hold B S a w→Du r P c Q a w
section
variable {r:Option Nat} {P:Program} {B:Bs} {S:St} {Q:Exit→Act→World→Prop} {c:Code}
theorem BV (h:La r P c B S Q):Wc r P (.loop c) B S Q:=by
 intro a w hh b k cs hro hb' hr
 obtain ⟨e,a',w',hq,harr⟩:=h a w hh b k cs hro hb' hr
 exact ⟨e,a',w',hq,.of_steps (.one (lN hb' hr rfl) stepR_loop) harr⟩
theorem La.round (h:Wc r P c B S (Exit.then (Du r P c Q) Q)):La r P c B S Q:=by
 intro a w hh b k cs hro hb' hr
 obtain ⟨x,a₁,w₁,hq,harr⟩:=h a w hh b (.inLoop c :: k) cs hro hb' hr
 cases x with
 | normal =>
   obtain ⟨e₂,a₂,w₂,hq₂,harr₂⟩:=hq b k cs hro hb' hr
   exact ⟨e₂,a₂,w₂,hq₂,.of_steps (qA harr (.one (lN hb' hr rfl) stepR_inLoop)) harr₂⟩
 | exit id=>exact ⟨_,a₁,w₁,hq,.pass (x:=.inLoop c) rfl (fun _ _=>.inl sI) harr⟩
 | goto l=>exact ⟨_,a₁,w₁,hq,.pass (x:=.inLoop c) rfl (fun _ _=>.inl sI) harr⟩
 | ret=>exact ⟨_,a₁,w₁,hq,.pass (x:=.inLoop c) rfl (fun _ _=>.inl sI) harr⟩
 | panic ch=>exact ⟨_,a₁,w₁,hq,.pass (x:=.inLoop c) rfl (fun _ _=>.inl sI) harr⟩
 | outgrown=>exact ⟨_,a₁,w₁,hq,.pass (x:=.inLoop c) rfl (fun _ _=>.inl sI) harr⟩
theorem Nn (h:La r P c B S Q):Ar (Exit.then (Du r P c Q) Q) .normal B S:=h
end
def BW (P:Program):List (Nat×Nat×Nat)→Prop
 | []=>True
 | x :: l=>Gi P x.1 x.2.1 x.2.2∧BW P l
def AllSl (P:Program):List Nat→Prop
 | []=>True
 | x :: l=>(∃ E sz,rS P x E sz)∧AllSl P l
def AllOne (P:Program):List Nat→Prop
 | []=>True
 | x :: l=>tZ P x=true∧AllOne P l
def AllAgg (P:Program):List (Nat×Nat)→Prop
 | []=>True
 | x :: l=>(uS P x.1 x.2=true∧(P.info? x.1).map (·.size)=some x.2)∧AllAgg P l
def AllFn (P:Program):List Nat→Prop
 | []=>True
 | x :: l=>uH P x∧AllFn P l
class Tab (P:Program) where
 fn:List Nat
 fnP:AllFn P fn
 one:List Nat
 agg:List (Nat×Nat)
 sl:List Nat
 fa:List (Nat×Nat×Nat)
 oneP:AllOne P one
 aggP:AllAgg P agg
 slP:AllSl P sl
 faP:BW P fa
def No:List Nat→Nat→Bool
 | [],_=>false
 | x :: l,t=>bif Nat.beq x t then true else No l t
def lookN:List (Nat×Nat)→Nat→Option Nat
 | [],_=>none
 | (x,y) :: l,t=>bif Nat.beq x t then some y else lookN l t
def BX:List (Nat×Nat×Nat)→Nat→Nat→Option Nat
 | [],_,_=>none
 | (x,y,z) :: l,s,f=>bif Nat.beq x s && Nat.beq y f then some z else BX l s f
theorem rK {α:Type} {b:Bool} {x y z:α} (h:(bif b then x else y)=z):(b=true∧x=z)∨(b=false∧y=z):=by cases b <;> simp_all
theorem Ic {P:Program}:∀ {l:List Nat} {t:Nat},AllOne P l→No l t=true→tZ P t=true
 | [],t,_,h=>wW
 | x :: l,t,ha,h=>by
   rcases rK h with ⟨h1,_⟩ | ⟨_,h2⟩
   · have:=aD h1;subst this;exact ha.1
   exact Ic ha.2 h2
theorem Np {P:Program}:∀ {l:List Nat} {t:Nat},AllFn P l→No l t=true→uH P t
 | [],t,_,h=>wW
 | x :: l,t,ha,h=>by
   rcases rK h with ⟨h1,_⟩ | ⟨_,h2⟩
   · have:=aD h1;subst this;exact ha.1
   exact Np ha.2 h2
theorem Vg {P:Program}:∀ {l:List Nat} {t:Nat},AllSl P l→No l t=true→∃ E sz,rS P t E sz
 | [],t,_,h=>wW
 | x :: l,t,ha,h=>by
   rcases rK h with ⟨h1,_⟩ | ⟨_,h2⟩
   · have:=aD h1;subst this;exact ha.1
   exact Vg ha.2 h2
theorem Dv {P:Program}:∀ {l:List (Nat×Nat)} {t k:Nat},AllAgg P l→lookN l t=some k→uS P t k=true∧(P.info? t).map (·.size)=some k
 | [],t,k,_,h=>wW
 | (x,y) :: l,t,k,ha,h=>by
   rcases rK h with ⟨h1,h2⟩ | ⟨_,h2⟩
   · have:=aD h1;subst this;cases h2;exact ha.1
   exact Dv ha.2 h2
theorem Pv {P:Program}:∀ {l:List (Nat×Nat×Nat)} {s f k:Nat},BW P l→BX l s f=some k→Gi P s f k
 | [],s,f,k,_,h=>wW
 | (x,y,z) :: l,s,f,k,ha,h=>by
   rcases rK h with ⟨h1,h2⟩ | ⟨_,h2⟩
   · simp only [aB] at h1
     have h3:=aD h1.1
     have h4:=aD h1.2
     subst h3;subst h4;cases h2;exact ha.1
   exact Pv ha.2 h2
def AX:IntKind→IntKind→Bool
 | .i8,.i8 | .i16,.i16 | .i32,.i32 | .i64,.i64 | .u8,.u8 | .u16,.u16 | .u32,.u32 | .u64,.u64=>true
 | _,_=>false
theorem Dw {a b:IntKind} (h:AX a b=true):a=b:=by cases a <;> cases b <;> first | rfl | cases h
def Br {α:Type}:List α→Nat→Option α
 | [],_=>none
 | x :: l,n=>bif Nat.beq n 0 then some x else Br l (Nat.pred n)
theorem vE {α:Type}:∀ (l:List α) (n:Nat),Br l n=l[n]?
 | [],n=>by simp [Br]
 | x :: l,n=>by
   unfold Br
   cases n with
   | zero=>rfl
   | succ n=>simp only [Nat.beq,lG,Nat.pred_succ,vE l n,gE]
abbrev Rz:=Value×List Nat×Prop
inductive IOp | eql | neq | lss | leq | gtr | geq | add | sub
def iop:BinOp→Option IOp
 | .eql=>some .eql | .neq=>some .neq | .lss=>some .lss | .leq=>some .leq | .gtr=>some .gtr | .geq=>some .geq | .add=>some .add | .sub=>some .sub
 | _=>none
def SN (o:IOp) (k:IntKind) (m n:Int) (hs:List Nat):Option Rz:=
 match o with
 | .eql=>some (.bool (decide (m=n)),hs,True)
 | .neq=>some (.bool (decide (m≠n)),hs,True)
 | .lss=>some (.bool (decide (m<n)),hs,True)
 | .leq=>some (.bool (decide (m≤n)),hs,True)
 | .gtr=>some (.bool (decide (n<m)),hs,True)
 | .geq=>some (.bool (decide (n≤m)),hs,True)
 | .add=>bif AX k .i64 then some (.int .i64 (m+n),hs,-9223372036854775808≤m+n∧m+n≤9223372036854775807) else none
 | .sub=>bif AX k .i64 then some (.int .i64 (m - n),hs,-9223372036854775808≤m - n∧m - n≤9223372036854775807) else none
def RX (P:Program) [Tab P] (e:Env) (H:Hp) (hs:List Nat):Op→Option Rz
 | .move x=>match e.ev x with | some v=>some (v,hs,True) | none=>none
 | .assign x=>match e.ev x with | some v=>some (v,hs,True) | none=>none
 | .pick c x y=>match e.ev c with
   | some (.bool b)=>match e.ev (bif b then x else y) with | some v=>some (v,hs,True) | none=>none
   | _=>none
 | .unOp .not _ x=>match e.ev x with | some (.bool b)=>some (.bool (!b),hs,True) | _=>none
 | .binOp o _ x y _=>match iop o with
   | some o=>match e.ev x with
     | some (.int k m)=>match e.ev y with
       | some (.int k' n)=>bif AX k k' then SN o k m n hs else none
       | _=>none
     | _=>none
   | none=>none
 | .extract x i=>match e.ev x with
   | some (.tuple ⟨vs⟩)=>match Br vs i with | some v=>some (v,hs,True) | none=>none
   | _=>none
 | .nilCheck x=>match e.ev x with
   | some (.pointer (some ad))=>some (.pointer (some ad),hs,True)
   | _=>none
 | .fieldAddr s x f=>match BX (Tab.fa P) s f with
   | some k=>match e.ev x with
     | some (.pointer (some ⟨b,o,none⟩))=>some (.pointer (some ⟨b,o+k,none⟩),hs,True)
     | _=>none
   | none=>none
 | .load T x=>match hs with
   | t :: hs=>match e.ev x with
     | some (.pointer (some ⟨b,off,none⟩))=>match H.get t with
       | some (some b',.cells ⟨cs⟩ _ _)=>match No (Tab.one P) T with
         | true=>match Br cs off with | some v=>some (v,hs,b=b') | none=>none
         | false=>match lookN (Tab.agg P) T with
           | some k=>bif Nat.beq off 0 && Nat.beq cs.length k then some (.agg cs.toArray,hs,b=b') else none
           | none=>none
       | _=>none
     | _=>none
   | []=>none
 | .call ⟨.builtin .len,⟨[x]⟩,⟨[T]⟩⟩=>match No (Tab.sl P) T with
   | true=>match e.ev x with | some (.slice _ n _)=>some (.int .i64 n,hs,True) | _=>none
   | false=>none
 | _=>none
theorem LP {P:Program} {e:Env} {H:Hp} {G:Imm} {ty t t':TypeId} {hs hs':List Nat} {bo:BinOp} {o:IOp} {x y:Operand} {k:IntKind} {m n:Int} {v:Value} {ob:Prop} (ho:iop bo=some o) (hx:e.ev x=some (.int k m)) (hy:e.ev y=some (.int k n))
 (h:SN o k m n hs=some (v,hs',ob)) (hob:ob):Qy P (.binOp bo t x y t') ty e H G v:=by
 cases bo <;> first | (cases ho;done) | skip
 all_goals
  cases ho
  unfold SN at h
  first
   | (cases h;first | exact Qy.eql hx hy | exact Qy.neq hx hy | exact Qy.lss hx hy | exact Qy.leq hx hy | exact Qy.gtr hx hy | exact Qy.geq hx hy)
   | (rcases rK h with ⟨hk,h⟩ | ⟨_,h⟩
      · have:=Dw hk
        subst this
        cases h
        first | exact Qy.add hx hy hob | exact Qy.sub hx hy hob
      cases h)
theorem Sw {P:Program} [T:Tab P] {e:Env} {H:Hp} {G:Imm} {ty:TypeId} {hs hs':List Nat} {o:Op} {v:Value} {ob:Prop} (h:RX P e H hs o=some (v,hs',ob)) (hob:ob):Qy P o ty e H G v:=by
 unfold RX at h
 split at h
 · split at h
   · rename_i hx;cases h;exact Qy.move hx
   cases h
 · split at h
   · rename_i hx;cases h;exact Qy.assign hx
   cases h
 · split at h
   · rename_i hc
     split at h
     · rename_i hv;cases h;exact Qy.pick hc hv
     cases h
   cases h
 · split at h
   · rename_i hx;cases h;exact Qy.not hx
   cases h
 · split at h
   · rename_i o' ho
     split at h
     · rename_i k m hx
       split at h
       · rename_i k' n hy
         rcases rK h with ⟨hk,h9⟩ | ⟨_,h9⟩
         · have h8:=Dw hk
           subst h8
           exact LP ho hx hy h9 hob
         cases h9
       cases h
     cases h
   cases h
 · split at h
   · rename_i hx
     split at h
     · rename_i hv;cases h;rw [vE] at hv;exact Qy.extract hx hv
     cases h
   cases h
 · split at h
   · rename_i hx;cases h;exact Qy.nilCheck hx
   cases h
 · split at h
   · rename_i k hk
     split at h
     · rename_i hx;cases h;exact Qy.fieldAddr (Pv T.faP hk) hx
     cases h
   cases h
 · split at h
   · split at h
     · rename_i hx
       split at h
       · rename_i hH
         split at h
         · rename_i h1
           split at h
           · rename_i hv
             cases h
             subst hob
             rw [vE] at hv
             exact Qy.load _ (Ic T.oneP h1) hx hH hv
           cases h
         split at h
         · rename_i k hk
           rcases rK h with ⟨hc,h⟩ | ⟨_,h⟩
           · cases h
             subst hob
             simp only [aB] at hc
             have h0:=aD hc.1
             subst h0
             exact Ss _ (Dv T.aggP hk).1 hx hH (aD hc.2)
           cases h
         cases h
       cases h
     cases h
   cases h
 · split at h
   · rename_i h1
     split at h
     · rename_i hx
       cases h
       obtain ⟨E,sz,hT⟩:=Vg T.slP h1
       exact Qy.len hT hx
     cases h
   cases h
 cases h
inductive Fr where
 | seq (y:Code)
 | thn (K:Act→World→Prop)
 | blk (id:Nat)
def Gj (P:Program) (r:Option Nat) (Q0:Exit→Act→World→Prop):List Fr→Exit→Act→World→Prop
 | []=>Q0
 | .seq y :: k=>Exit.then (y.wpIn (FF r) 0 P (Gj P r Q0 k)) (Gj P r Q0 k)
 | .thn K :: k=>Exit.then K (Gj P r Q0 k)
 | .blk id :: k=>Exit.inBlock id (Gj P r Q0 k)
def Reify (P:Program) (r:Option Nat) (Q:Exit→Act→World→Prop) (k:List Fr) (Q0:Exit→Act→World→Prop):Prop:=Q=Gj P r Q0 k
theorem Reify.seq {P:Program} {r:Option Nat} {Q Q0:Exit→Act→World→Prop} {k:List Fr} {y:Code} (h:Reify P r Q k Q0):Reify P r (Exit.then (y.wpIn (FF r) 0 P Q) Q) (.seq y :: k) Q0:=by
 unfold Reify at *;subst h;rfl
abbrev kP:=@Reify.seq
theorem Reify.thn {P:Program} {r:Option Nat} {Q Q0:Exit→Act→World→Prop} {k:List Fr} {K:Act→World→Prop} (h:Reify P r Q k Q0):Reify P r (Exit.then K Q) (.thn K :: k) Q0:=by
 unfold Reify at *;subst h;rfl
abbrev kO:=@Reify.thn
theorem Reify.blk {P:Program} {r:Option Nat} {Q Q0:Exit→Act→World→Prop} {k:List Fr} {id:Nat} (h:Reify P r Q k Q0):Reify P r (Exit.inBlock id Q) (.blk id :: k) Q0:=by
 unfold Reify at *;subst h;rfl
abbrev kQ:=@Reify.blk
theorem Sx {P:Program} {r r':Option Nat} {Q0 Q1:Exit→Act→World→Prop} {k:List Fr} (h:Reify P r Q0 k Q1):Reify P r (Gj P r' Q0 []) k Q1:=h
abbrev kG:=@Sx
theorem Sy {P:Program} {r:Option Nat} {Q0 Q1:Exit→Act→World→Prop} {k k':List Fr} {y:Code} (h:Reify P r (Gj P r Q0 k) k' Q1):Reify P r (Gj P r Q0 (.seq y :: k)) (.seq y :: k') Q1:=kP h
abbrev kF:=@Sy
theorem Sz {P:Program} {r:Option Nat} {Q0 Q1:Exit→Act→World→Prop} {k k':List Fr} {K:Act→World→Prop} (h:Reify P r (Gj P r Q0 k) k' Q1):Reify P r (Gj P r Q0 (.thn K :: k)) (.thn K :: k') Q1:=kO h
abbrev kE:=@Sz
theorem Ta {P:Program} {r:Option Nat} {Q0 Q1:Exit→Act→World→Prop} {k k':List Fr} {id:Nat} (h:Reify P r (Gj P r Q0 k) k' Q1):Reify P r (Gj P r Q0 (.blk id :: k)) (.blk id :: k') Q1:=kQ h
abbrev kH:=@Ta
theorem Reify.none {P:Program} {Q:Exit→Act→World→Prop}:Reify P .none Q [] Q:=rfl
abbrev kD:=@Reify.none
theorem Reify.any {P:Program} {r:Option Nat} {Q:Exit→Act→World→Prop}:Reify P r Q [] Q:=rfl
abbrev lQ:=@Reify.any
inductive Fo where
 | c (c:Code)
 | l (ops:Array Oper) (l:List Oper)
 | a (x:Exit)
def xT:List Oper→Nat→Option Nat
 | [],_=>none
 | x :: l,n=>bif Nat.beq n 0 then x.dst else xT l (Nat.pred n)
theorem yM:∀ (l:List Oper) (n:Nat),xT l n=(l[n]?).bind (·.dst)
 | [],n=>by simp [xT]
 | x :: l,n=>by
   unfold xT
   cases n with
   | zero=>rfl
   | succ n=>simp only [Nat.beq,lG,Nat.pred_succ,yM l n,gE]
abbrev Cf:=Fo×List Fr×Env×Hp×List Nat
def BY (P:Program) [Tab P] (n:Nat) (ops:Array Oper) (k:List Fr) (e:Env) (H:Hp) (hs:List Nat) (rest:List Oper):Oper→Option (Cf×Prop)
 | ⟨some d,o,_,_,_,none⟩=>match Nat.ble (d+1) n with
   | true=>match RX P e H hs o with
     | some (v,hs,ob)=>some ((.l ops rest,k,(d,v) :: e,H,hs),ob)
     | none=>none
   | false=>none
 | ⟨none,.store T x y,_,_,_,none⟩=>match hs with
   | t :: hs=>match e.ev x with
     | some (.pointer (some ⟨b,off,none⟩))=>match H.get t with
       | some (some b',.cells ⟨cs⟩ bt (0,0))=>match e.ev y with
         | some v=>match No (Tab.one P) T with
           | true=>bif v.oneCell' && Nat.ble (off+1) cs.length then some ((.l ops rest,k,e,(t,some b',.cells (cs.set off v).toArray bt (0,0)) :: H,hs),b=b') else none
           | false=>match lookN (Tab.agg P) T with
             | some m=>match v with
               | .agg ⟨vs⟩=>bif Nat.beq off 0 && (Nat.beq vs.length m && (Nat.beq vs.length cs.length && vs.all (·.oneCell'))) then some ((.l ops rest,k,e,(t,some b',.cells vs.toArray bt (0,0)) :: H,hs),b=b') else none
               | _=>none
             | none=>none
         | none=>none
       | _=>none
     | _=>none
   | []=>none
 | ⟨dst,o,ty,pos,after,some (j,w)⟩=>match xT ops.toList j with
   | some t=>match e.get t with
     | some (.bool b)=>bif (match b,w with | true,true=>true | false,false=>true | _,_=>false) then some ((.l ops (⟨dst,o,ty,pos,after,none⟩ :: rest),k,e,H,hs),True)
       else match dst with
        | some d=>bif Nat.ble (d+1) n then some ((.l ops rest,k,(d,undef) :: e,H,hs),True) else none
        | none=>none
     | _=>none
   | none=>none
 | _=>none
def SO (P:Program) [Tab P] (n:Nat):Fo→List Fr→Env→Hp→List Nat→Option (Cf×Prop)
 | .c (.seq x y),k,e,H,hs=>some ((.c x,.seq y :: k,e,H,hs),True)
 | .c .skip,k,e,H,hs=>some ((.a .normal,k,e,H,hs),True)
 | .c (.label _),k,e,H,hs=>some ((.a .normal,k,e,H,hs),True)
 | .c (.exit id),k,e,H,hs=>some ((.a (.exit id),k,e,H,hs),True)
 | .c .ret,k,e,H,hs=>some ((.a .ret,k,e,H,hs),True)
 | .c (.block id c),k,e,H,hs=>some ((.c c,.blk id :: k,e,H,hs),True)
 | .c (.region _ ⟨l⟩ false),k,e,H,hs=>bif l.all sM then some ((.l l.toArray l,k,e,H,hs),True) else none
 | .c (.cond c x y),k,e,H,h :: hs=>match e.ev c with
   | some (.bool b)=>bif Nat.beq h 1 then some ((.c x,k,e,H,hs),b=true) else some ((.c y,k,e,H,hs),b=false)
   | _=>none
 | .a .normal,.seq y :: k,e,H,hs=>some ((.c y,k,e,H,hs),True)
 | .a .normal,.blk _ :: k,e,H,hs=>some ((.a .normal,k,e,H,hs),True)
 | .a (.exit id),.blk j :: k,e,H,hs=>bif Nat.beq id j then some ((.a .normal,k,e,H,hs),True) else some ((.a (.exit id),k,e,H,hs),True)
 | .a (.exit id),_ :: k,e,H,hs=>some ((.a (.exit id),k,e,H,hs),True)
 | .a .ret,_ :: k,e,H,hs=>some ((.a .ret,k,e,H,hs),True)
 | .l _ [],k,e,H,hs=>some ((.a .normal,k,e,H,hs),True)
 | .l ops (o :: rest),k,e,H,hs=>BY P n ops k e H hs rest o
 | _,_,_,_,_=>none
def run (P:Program) [Tab P] (n:Nat):Nat→Fo→List Fr→Env→Hp→List Nat→Option (Cf×Prop)
 | 0,f,k,e,H,hs=>some ((f,k,e,H,hs),True)
 | m+1,f,k,e,H,hs=>match SO P n f k e H hs with
   | some ((f,k,e,H,hs),ob)=>match run P n m f k e H hs with
     | some (c,obs)=>some (c,ob∧obs)
     | none=>none
   | none=>none
section
variable {P:Program} {r:Option Nat} {B:Bs} {D:List Deferred} {G:Imm} {Q0:Exit→Act→World→Prop}
def zY (P:Program) (r:Option Nat) (B:Bs) (D:List Deferred) (G:Imm) (Q0:Exit→Act→World→Prop):Cf→Prop
 | (.c c,k,e,H,_)=>Wc r P c B ⟨e,D,H,G⟩ (Gj P r Q0 k)
 | (.l ops l,k,e,H,_)=>Wl P ops l B ⟨e,D,H,G⟩ (Gj P r Q0 k .normal)
 | (.a x,k,e,H,_)=>Ar (Gj P r Q0 k) x B ⟨e,D,H,G⟩
theorem BZ [T:Tab P] {ops:Array Oper} {k:List Fr} {e:Env} {H:Hp} {hs:List Nat} {rest:List Oper} {o:Oper} {c:Cf} {ob:Prop} (h:BY P B.n ops k e H hs rest o=some (c,ob)) (hob:ob) (hg:zY P r B D G Q0 c) :
 zY P r B D G Q0 (.l ops (o :: rest),k,e,H,hs):=by
 unfold BY at h
 split at h
 · split at h
   · rename_i hn
     split at h
     · rename_i hq;cases h;exact lH hn (Sw hq hob) hg
     cases h
   cases h
 · split at h
   · split at h
     · rename_i hx
       split at h
       · rename_i hH
         split at h
         · rename_i v hy
           split at h
           · rename_i h1
             rcases rK h with ⟨hc,h⟩ | ⟨_,h⟩
             · cases h
               subst hob
               simp only [aB] at hc
               exact Wl.store _ (Ic T.oneP h1) hx hy hc.1 hH hc.2 hg
             cases h
           split at h
           · rename_i m hm
             split at h
             · rename_i vs
               rcases rK h with ⟨hc,h⟩ | ⟨_,h⟩
               · cases h
                 subst hob
                 simp only [aB] at hc
                 have h0:=aD hc.1
                 subst h0
                 exact Pp _ (Dv T.aggP hm).2 hx hy (aD hc.2.1) hc.2.2.2 hH hc.2.2.1 hg
               cases h
             cases h
           cases h
         cases h
       cases h
     cases h
   cases h
 · split at h
   · rename_i t ht
     rw [yM] at ht
     split at h
     · rename_i b hb
       rcases rK h with ⟨hw,h⟩ | ⟨hw,h⟩
       · cases h
         refine Wl.want (t:=t) (by simpa using ht) (hb.trans ?_) hg
         split at hw <;> first | rfl | cases hw
       split at h
       · rcases rK h with ⟨hn,h⟩ | ⟨_,h⟩
         · cases h
           refine Wl.pass (t:=t) (by simpa using ht) (hb.trans ?_) hn hg
           rename_i w _ _ _ _ _
           cases b <;> cases w <;> first | rfl | cases hw
         cases h
       cases h
     cases h
   cases h
 cases h
theorem LQ [T:Tab P] {f:Fo} {k:List Fr} {e:Env} {H:Hp} {hs:List Nat} {c:Cf} {ob:Prop} (h:SO P B.n f k e H hs=some (c,ob)) (hob:ob) (hg:zY P r B D G Q0 c) :
 zY P r B D G Q0 (f,k,e,H,hs):=by
 unfold SO at h
 split at h
 · cases h;exact dN hg
 · cases h;exact lY hg
 · cases h;exact Wc.label hg
 · cases h;exact Wc.exit hg
 · cases h;exact mR hg
 · cases h;exact Wc.block hg
 · rcases rK h with ⟨hd,h⟩ | ⟨_,h⟩
   · cases h;exact cW hd hg
   cases h
 · split at h
   · rename_i b hb
     rcases rK h with ⟨_,h⟩ | ⟨_,h⟩
     · cases h;subst hob;exact BD hb hg
     cases h;subst hob;exact BE hb hg
   cases h
 · cases h;exact cB hg
 · cases h;exact qW hg
 · rcases rK h with ⟨hd,h9⟩ | ⟨hd,h9⟩
   · have h8:=aD hd
     subst h8
     cases h9;exact Uz hg
   cases h9;exact Sr hd hg
 · rename_i id fr k hne
   cases h
   cases fr with
   | seq y=>exact pR hg
   | thn K=>exact pR hg
   | blk j=>exact (hne j rfl).elim
 · rename_i fr k
   cases h
   cases fr with
   | seq y=>exact pF hg
   | thn K=>exact pF hg
   | blk j=>exact Do hg
 · cases h;exact eB hg
 · exact BZ h hob hg
 cases h
theorem run_ok [T:Tab P]:∀ {m:Nat} {f:Fo} {k:List Fr} {e:Env} {H:Hp} {hs:List Nat} {c:Cf} {ob:Prop},run P B.n m f k e H hs=some (c,ob)→ob→zY P r B D G Q0 c→zY P r B D G Q0 (f,k,e,H,hs)
 | 0,f,k,e,H,hs,c,ob,h,hob,hg=>by cases h;exact hg
 | m+1,f,k,e,H,hs,c,ob,h,hob,hg=>by
   unfold run at h
   split at h
   · rename_i h1
     split at h
     · rename_i h2
       cases h
       exact LQ h1 hob.1 (run_ok h2 hob.2 hg)
     cases h
   cases h
end
section
variable {P:Program} [Tab P] {r:Option Nat} {B:Bs} {D:List Deferred} {G:Imm} {Q Q0:Exit→Act→World→Prop} {k k':List Fr} {e e':Env} {H H':Hp} {hs':List Nat} {ob:Prop} {c c':Code} {l l':List Oper} {ops ops':Array Oper} {x x':Exit}
theorem Wc.gc (n:Nat) (hs:List Nat) (hg:Wc r P c' B ⟨e',D,H',G⟩ (Gj P r Q0 k')) (hr:Reify P r Q k Q0:=by (repeat with_reducible (first | apply kG | apply kF | apply kH | apply kE | apply kP | apply kQ | apply kO));first | exact kD | exact lQ) (h:run P B.n n (.c c) k e H hs=some ((.c c',k',e',H',hs'),ob):=by exact rfl) (hob:ob:=by (repeat refine And.intro Kf ?_);exact trivial):Wc r P c B ⟨e,D,H,G⟩ Q:=by
 unfold Reify at hr;subst hr
 exact run_ok h hob hg
abbrev cJ:=@Wc.gc
theorem Wc.gl (n:Nat) (hs:List Nat) (hg:Wl P ops' l' B ⟨e',D,H',G⟩ (Gj P r Q0 k' .normal)) (hr:Reify P r Q k Q0:=by (repeat with_reducible (first | apply kG | apply kF | apply kH | apply kE | apply kP | apply kQ | apply kO));first | exact kD | exact lQ) (h:run P B.n n (.c c) k e H hs=some ((.l ops' l',k',e',H',hs'),ob):=by exact rfl) (hob:ob:=by (repeat refine And.intro Kf ?_);exact trivial):Wc r P c B ⟨e,D,H,G⟩ Q:=by
 unfold Reify at hr;subst hr
 exact run_ok h hob hg
abbrev aM:=@Wc.gl
theorem Wc.ga (n:Nat) (hs:List Nat) (hg:Ar (Gj P r Q0 k') x' B ⟨e',D,H',G⟩) (hr:Reify P r Q k Q0:=by (repeat with_reducible (first | apply kG | apply kF | apply kH | apply kE | apply kP | apply kQ | apply kO));first | exact kD | exact lQ) (h:run P B.n n (.c c) k e H hs=some ((.a x',k',e',H',hs'),ob):=by exact rfl) (hob:ob:=by (repeat refine And.intro Kf ?_);exact trivial):Wc r P c B ⟨e,D,H,G⟩ Q:=by
 unfold Reify at hr;subst hr
 exact run_ok h hob hg
abbrev bG:=@Wc.ga
theorem Wl.gc (n:Nat) (hs:List Nat) (hg:Wc r P c' B ⟨e',D,H',G⟩ (Gj P r Q0 k')) (hr:Reify P r Q k Q0:=by (repeat with_reducible (first | apply kG | apply kF | apply kH | apply kE | apply kP | apply kQ | apply kO));first | exact kD | exact lQ) (h:run P B.n n (.l ops l) k e H hs=some ((.c c',k',e',H',hs'),ob):=by exact rfl) (hob:ob:=by (repeat refine And.intro Kf ?_);exact trivial):Wl P ops l B ⟨e,D,H,G⟩ (Q .normal):=by
 unfold Reify at hr;subst hr
 exact run_ok h hob hg
abbrev bR:=@Wl.gc
theorem Wl.gl (n:Nat) (hs:List Nat) (hg:Wl P ops' l' B ⟨e',D,H',G⟩ (Gj P r Q0 k' .normal)) (hr:Reify P r Q k Q0:=by (repeat with_reducible (first | apply kG | apply kF | apply kH | apply kE | apply kP | apply kQ | apply kO));first | exact kD | exact lQ) (h:run P B.n n (.l ops l) k e H hs=some ((.l ops' l',k',e',H',hs'),ob):=by exact rfl) (hob:ob:=by (repeat refine And.intro Kf ?_);exact trivial):Wl P ops l B ⟨e,D,H,G⟩ (Q .normal):=by
 unfold Reify at hr;subst hr
 exact run_ok h hob hg
abbrev aL:=@Wl.gl
theorem Wl.ga (n:Nat) (hs:List Nat) (hg:Ar (Gj P r Q0 k') x' B ⟨e',D,H',G⟩) (hr:Reify P r Q k Q0:=by (repeat with_reducible (first | apply kG | apply kF | apply kH | apply kE | apply kP | apply kQ | apply kO));first | exact kD | exact lQ) (h:run P B.n n (.l ops l) k e H hs=some ((.a x',k',e',H',hs'),ob):=by exact rfl) (hob:ob:=by (repeat refine And.intro Kf ?_);exact trivial):Wl P ops l B ⟨e,D,H,G⟩ (Q .normal):=by
 unfold Reify at hr;subst hr
 exact run_ok h hob hg
abbrev aY:=@Wl.ga
theorem Ar.gc (n:Nat) (hs:List Nat) (hg:Wc r P c' B ⟨e',D,H',G⟩ (Gj P r Q0 k')) (hr:Reify P r Q k Q0:=by (repeat with_reducible (first | apply kG | apply kF | apply kH | apply kE | apply kP | apply kQ | apply kO));first | exact kD | exact lQ) (h:run P B.n n (.a x) k e H hs=some ((.c c',k',e',H',hs'),ob):=by exact rfl) (hob:ob:=by (repeat refine And.intro Kf ?_);exact trivial):Ar Q x B ⟨e,D,H,G⟩:=by
 unfold Reify at hr;subst hr
 exact run_ok h hob hg
abbrev oV:=@Ar.gc
theorem Ar.gl (n:Nat) (hs:List Nat) (hg:Wl P ops' l' B ⟨e',D,H',G⟩ (Gj P r Q0 k' .normal)) (hr:Reify P r Q k Q0:=by (repeat with_reducible (first | apply kG | apply kF | apply kH | apply kE | apply kP | apply kQ | apply kO));first | exact kD | exact lQ) (h:run P B.n n (.a x) k e H hs=some ((.l ops' l',k',e',H',hs'),ob):=by exact rfl) (hob:ob:=by (repeat refine And.intro Kf ?_);exact trivial):Ar Q x B ⟨e,D,H,G⟩:=by
 unfold Reify at hr;subst hr
 exact run_ok h hob hg
theorem Ar.ga (n:Nat) (hs:List Nat) (hg:Ar (Gj P r Q0 k') x' B ⟨e',D,H',G⟩) (hr:Reify P r Q k Q0:=by (repeat with_reducible (first | apply kG | apply kF | apply kH | apply kE | apply kP | apply kQ | apply kO));first | exact kD | exact lQ) (h:run P B.n n (.a x) k e H hs=some ((.a x',k',e',H',hs'),ob):=by exact rfl) (hob:ob:=by (repeat refine And.intro Kf ?_);exact trivial):Ar Q x B ⟨e,D,H,G⟩:=by
 unfold Reify at hr;subst hr
 exact run_ok h hob hg
abbrev iG:=@Ar.ga
theorem LS {K:Act→World→Prop} (n:Nat) (hs:List Nat) (hg:Wl P ops' l' B ⟨e',D,H',G⟩ K) (h:run P B.n n (.l ops l) [] e H hs=some ((.l ops' l',[],e',H',hs'),ob):=by exact rfl) (hob:ob:=by (repeat refine And.intro Kf ?_);exact trivial):Wl P ops l B ⟨e,D,H,G⟩ K:=
 run_ok (r:=none) (Q0:=fun _=>K) h hob hg
abbrev aA:=@LS
end
section
variable {P:Program} {B:Bs} {e:Env} {D:List Deferred} {H H0:Hp} {G G0:Imm} {K:Act→World→Prop} {ops:Array Oper} {l rest:List Oper} {f:Nat} {listed:Array Bool} {wr:List (Nat×Nat)} {ty:TypeId} {pos:String} {after:Array Edge} {d:Nat}
theorem Gm.o1 {o:Oper} (i:Nat) (h:Wl P l.toArray [o] B ⟨e,D,H,G⟩ (zB P l.toArray f (listed.setIfInBounds i true) wr H0 G0 K)) (hH:H.sub (H0.live wr listed):=by repeat (first | exact trivial | refine ⟨rfl,?_⟩)) (hG:G0.le G:=by first | exact cD _ | repeat (first | assumption | refine bA ?_ rH)) (hr:Region.ready .any l.toArray listed=[i]:=by kernel_rfl) (ho:l[i]?=some o:=by exact rfl) :
 Gm P l.toArray (f+1) listed wr H0 G0 B ⟨e,D,H,G⟩ K:=Gm.one i hH hG hr ho h
abbrev fE:=@Gm.o1
theorem Gm.o2 {o1 o2:Oper} (i j:Nat) (g1:Wl P l.toArray [o1] B ⟨e,D,H,G⟩ (zB P l.toArray f (listed.setIfInBounds i true) wr H0 G0 K)) (g2:Wl P l.toArray [o2] B ⟨e,D,H,G⟩ (zB P l.toArray f (listed.setIfInBounds j true) wr H0 G0 K))
 (hH:H.sub (H0.live wr listed):=by repeat (first | exact trivial | refine ⟨rfl,?_⟩)) (hG:G0.le G:=by first | exact cD _ | repeat (first | assumption | refine bA ?_ rH)) (hr:Region.ready .any l.toArray listed=[i,j]:=by kernel_rfl) (h1:l[i]?=some o1:=by exact rfl) (h2:l[j]?=some o2:=by exact rfl) :
 Gm P l.toArray (f+1) listed wr H0 G0 B ⟨e,D,H,G⟩ K:=LK i j hH hG hr h1 h2 g1 g2
abbrev oH:=@Gm.o2
theorem Gm.o3 {o1 o2 o3:Oper} (i j k:Nat) (g1:Wl P l.toArray [o1] B ⟨e,D,H,G⟩ (zB P l.toArray f (listed.setIfInBounds i true) wr H0 G0 K)) (g2:Wl P l.toArray [o2] B ⟨e,D,H,G⟩ (zB P l.toArray f (listed.setIfInBounds j true) wr H0 G0 K)) (g3:Wl P l.toArray [o3] B ⟨e,D,H,G⟩ (zB P l.toArray f (listed.setIfInBounds k true) wr H0 G0 K))
 (hH:H.sub (H0.live wr listed):=by repeat (first | exact trivial | refine ⟨rfl,?_⟩)) (hG:G0.le G:=by first | exact cD _ | repeat (first | assumption | refine bA ?_ rH)) (hr:Region.ready .any l.toArray listed=[i,j,k]:=by kernel_rfl) (h1:l[i]?=some o1:=by exact rfl) (h2:l[j]?=some o2:=by exact rfl) (h3:l[k]?=some o3:=by exact rfl) :
 Gm P l.toArray (f+1) listed wr H0 G0 B ⟨e,D,H,G⟩ K:=BL i j k hH hG hr h1 h2 h3 g1 g2 g3
theorem Gm.fin {Q:Exit→Act→World→Prop} {x:Exit} (h:Ar Q x B ⟨e,D,H,G⟩) (hr:Region.ready .any ops listed=[]:=by kernel_rfl) (hH:H.sub (H0.live wr listed):=by repeat (first | exact trivial | refine ⟨rfl,?_⟩)) (hG:G0.le G:=by first | exact cD _ | repeat (first | assumption | refine bA ?_ rH)):Gm P ops 0 listed wr H0 G0 B ⟨e,D,H,G⟩ (Q x):=
 BM hr hH hG h
abbrev dY:=@Gm.fin
theorem Gm.u {o:Op} {v:Value} (i:Nat) (ts:List Nat) (ho:l[i]?=some ⟨some d,o,ty,pos,after,none⟩) (hq:Qy P o ty e (H0.only ts) G0 v) (h:Gm P l.toArray f (listed.setIfInBounds i true) wr H0 G0 B ⟨(d,v) :: e,D,H,G⟩ K)
 (hn:Nat.ble (d+1) B.n=true:=by exact rfl) (hB:vQ l.toArray listed wr i ts=true:=by kernel_rfl):Gm P l.toArray (f+1) listed wr H0 G0 B ⟨e,D,H,G⟩ K:=
 Gm.q i ts hB ho hn hq h
abbrev gR:=@Gm.u
theorem Wl.k [T:Tab P] {f:FuncId} {xs:Array Operand} {ats:Array TypeId} {vs:List Value} {Hi:Hp} {post:Value→Imm→Hp→Prop} (k:Nat) (hx:e.evs xs.toList=some vs) (hF:Does P f vs G Hi post) (h:∀ v G' Ho,G.le G'→post v G' Ho→Wl P ops rest B ⟨(d,v) :: e,D,Ho.shift k++(Hi.kill k++H),G'⟩ K)
 (hn:Nat.ble (d+1) B.n=true:=by exact rfl) (hf:No (Tab.fn P) f=true:=by exact rfl) (hHi:∀ t x,Hi.get t=some x→H.get (k+t)=some x:=by first | exact sR trivial | exact sR ⟨rfl,trivial⟩ | exact sR ⟨rfl,rfl,trivial⟩ | exact sR ⟨rfl,rfl,rfl,trivial⟩) :
 Wl P ops (⟨some d,.call { callee:=.value (.func f),args:=xs,argTypes:=ats },ty,pos,after,none⟩ :: rest) B ⟨e,D,H,G⟩ K:=Wl.call k hn (Np T.fnP hf) hx hF hHi h
abbrev bU:=@Wl.k
theorem Wl.k0 [T:Tab P] {f:FuncId} {xs:Array Operand} {ats:Array TypeId} {vs:List Value} {r:Value} (hx:e.evs xs.toList=some vs) (hF:Does P f vs G [] (fun v G' Ho=>v=r∧G'=G∧Ho=[])) (h:Wl P ops rest B ⟨(d,r) :: e,D,H,G⟩ K)
 (hn:Nat.ble (d+1) B.n=true:=by exact rfl) (hf:No (Tab.fn P) f=true:=by exact rfl) :
 Wl P ops (⟨some d,.call { callee:=.value (.func f),args:=xs,argTypes:=ats },ty,pos,after,none⟩ :: rest) B ⟨e,D,H,G⟩ K:=BJ hn (Np T.fnP hf) hx hF h
abbrev cG:=@Wl.k0
end
section
variable {P:Program} {fn:Func} {G0:Imm} {Hi:Hp} {w0:World} {post:Value→Imm→Hp→Prop} {n:Nat} {e:Env} {H:Hp} {G:Imm} {x:Exit} {t1 t2 t3:Nat} {v1 v2 v3:Value}
theorem Ar.e1 (hp:post v1 G (H.only [])) (hx:x=.normal∨x=.ret:=by exact .inr rfl) (hres:fn.results=#[.tmp t1]:=by exact rfl) (h1:e.get t1=some v1:=by exact rfl):Ar (BK P fn G0 Hi w0 post) x ⟨n,w0,Hi.has,G0⟩ ⟨e,[],H,G⟩:=
 dQ hx hres (.tmp h1) (bP _ _) hp
abbrev bT:=@Ar.e1
theorem Ar.e2 (hp:post (.tuple #[v1,v2]) G (H.only [])) (hx:x=.normal∨x=.ret:=by exact .inr rfl) (hres:fn.results=#[.tmp t1,.tmp t2]:=by exact rfl) (h1:e.get t1=some v1:=by exact rfl) (h2:e.get t2=some v2:=by exact rfl):Ar (BK P fn G0 Hi w0 post) x ⟨n,w0,Hi.has,G0⟩ ⟨e,[],H,G⟩:=
 iO hx hres (.tmp h1) (.tmp h2) (bP _ _) hp
abbrev eJ:=@Ar.e2
theorem Ar.e3 (hp:post (.tuple #[v1,v2,v3]) G (H.only [])) (hx:x=.normal∨x=.ret:=by exact .inr rfl) (hres:fn.results=#[.tmp t1,.tmp t2,.tmp t3]:=by exact rfl) (h1:e.get t1=some v1:=by exact rfl) (h2:e.get t2=some v2:=by exact rfl) (h3:e.get t3=some v3:=by exact rfl) :
 Ar (BK P fn G0 Hi w0 post) x ⟨n,w0,Hi.has,G0⟩ ⟨e,[],H,G⟩:=pZ hx hres (.tmp h1) (.tmp h2) (.tmp h3) (bP _ _) hp
end
section
variable {P:Program} {B:Bs} {e:Env} {D:List Deferred} {H:Hp} {G:Imm}
end
section
variable {P:Program} {ops:Array Oper} {rest:List Oper} {B:Bs} {e:Env} {D:List Deferred} {H:Hp} {G:Imm} {K:Act→World→Prop} {ty:TypeId} {pos:String} {after:Array Edge} {d:Nat}
theorem Dx {α:Type} [Cells α] [Inhabited α] {T:TypeId} {x:Operand} {a:Option Addr} {c:Nat} {E bytes:Nat} {zs:List Value} {xs:List α} {junk:List Value} (t:Nat) (hT:rS P T E (Cells.sz α)) (hE:ElemOf P E (Cells.sz α) bytes zs) (hz:Cells.enc (default:α)=zs)
 (hx:e.ev x=some (.slice a xs.length c)) (ht:H.get t=some (a.map (·.block),rV E xs junk)) (ho:OwnA a c xs junk)
 (h:OwnA a c (List.replicate xs.length (default:α)) junk→Wl P ops rest B ⟨e,D,(t,a.map (·.block),rV E (List.replicate xs.length (default:α)) junk) :: H,G⟩ K) :
 Wl P ops (⟨none,.call { callee:=.builtin .clear,args:=#[x],argTypes:=#[T] },ty,pos,after,none⟩ :: rest) B ⟨e,D,H,G⟩ K:=by
 have hlen:(List.replicate xs.length (default:α)).length=xs.length:=sI
 have h':=h (by
  rcases ho with ⟨h1,h2,h3,h4⟩ | ⟨b,h1,h2,h3,h4⟩
  · subst h2;exact .inl ⟨h1,rfl,h3,h4⟩
  exact .inr ⟨b,h1,by rw [hlen];exact h2,by rw [hlen];exact h3,h4⟩)
 by_cases h0:xs=[]
 · subst h0
   intro a0 w hh
   unfold rZ
   rw [aR (by simp [Region.wanted])]
   unfold wD
   have hrun:(execOp a0.eval ⟨none,.call { callee:=.builtin .clear,args:=#[x],argTypes:=#[T] },ty,pos,after,none⟩).run P w=.ok (.value (.tuple #[])) w:=by
    have hev:a0.eval x=.slice a 0 c:=hh.eval hx
    cases a <;> simp [execOp,resolve,invoke,builtin,Builtin.clear_,hev,aS hT.1]
   rw [hrun]
   exact h' _ _ (hh.reH ht rfl)
 have hpos:0<xs.length:=nG.2 h0
 have ha:=ho.addr hpos
 have hbl:=ho.blk hpos
 rw [hbl] at ht h'
 rw [ha] at hx
 obtain ⟨i,z,hi,hz1,hz2,hs,hby,hzl,hsz⟩:=hE
 obtain ⟨n,hn⟩:∃ n,xs.length=n+1:=⟨xs.length - 1,by omega⟩
 intro a0 w hh
 unfold rZ
 rw [aR (by simp [Region.wanted])]
 unfold wD
 have hb:=hh.mem.own t (ab a) _ ht
 have hev:a0.eval x=.slice (some ⟨ab a,0,none⟩) xs.length c:=hh.eval hx
 have hzc:(Builtin.zeroCells z.cells xs.length).toList=rX (List.replicate xs.length (default:α)):=by
  have h1:z.cells.size=Cells.sz α:=by rw [hz2];simpa using hzl
  have h2:Builtin.zeroCells z.cells xs.length=madeCells zs.toArray (xs.length*Cells.sz α):=by
   have h3:zs.toArray.size=Cells.sz α:=by simpa using hzl
   unfold Builtin.zeroCells madeCells
   rw [hz2,h3]
  rw [h2,Lo hz hsz]
 have hfl:(rX (List.replicate xs.length (default:α))).length=(rX xs).length:=by rw [rT,rT,hlen]
 have hst:=lW P (ab a) 0 E (rX (List.replicate xs.length (default:α))) 0 (rX xs++junk).toArray w hb (by simp [hfl]) (by simpa using Hw _)
 have hrun:(execOp a0.eval ⟨none,.call { callee:=.builtin .clear,args:=#[x],argTypes:=#[T] },ty,pos,after,none⟩).run P w=.ok (.value (.tuple #[])) (w.setRow (ab a) (rX (List.replicate xs.length (default:α))++junk).toArray):=by
  have hzv:(zeroValue E).run P w=.ok z w:=by simp [zeroValue,typeInfo,hi,hz1]
  simp only [gU] at hst
  rw [hn] at hev
  simp only [execOp,resolve,invoke,builtin,Builtin.clear_,bE,bJ,aO,kS,bX,iT,hev]
  simp [aS hT.1,hzv]
  rw [←hn,hzc,hst]
  simp [hfl]
 rw [hrun]
 refine h' _ _ (hh.set ht (tM w (ab a) _) ?_)
 rw [lM w (ab a) _ _ E _ hb]
 rfl
end
section
variable {P:Program} {e:Env} {H:Hp} {G:Imm} {ty:TypeId} {t t':TypeId} {x y:Operand} {m n:Int}
theorem Ya (hx:e.ev x=some (.int .u32 m)) (hy:e.ev y=some (.int .u32 n)) (hb:0≤m+n∧m+n≤4294967295):Qy P (.binOp .add t x y t') ty e H G (.int .u32 (m+n)):=by
 have:=Fy (P:=P) (H:=H) (G:=G) (ty:=ty) (t:=t) (t':=t') hx hy;rwa [mF _ hb] at this
abbrev lS:=@Ya
theorem Yb (hx:e.ev x=some (.int .u64 m)) (hy:e.ev y=some (.int .u64 n)) (hb:0≤m+n∧m+n≤18446744073709551615):Qy P (.binOp .add t x y t') ty e H G (.int .u64 (m+n)):=by
 have:=Fy (P:=P) (H:=H) (G:=G) (ty:=ty) (t:=t) (t':=t') hx hy;rwa [iK _ hb] at this
abbrev fV:=@Yb
theorem Yc (hx:e.ev x=some (.int .u32 m)) (hy:e.ev y=some (.int .u32 n)) (hb:0≤m - n∧m - n≤4294967295):Qy P (.binOp .sub t x y t') ty e H G (.int .u32 (m - n)):=by
 have:=Bu (P:=P) (H:=H) (G:=G) (ty:=ty) (t:=t) (t':=t') hx hy;rwa [mF _ hb] at this
abbrev rB:=@Yc
theorem Ye (hx:e.ev x=some (.int .u64 m)) (hy:e.ev y=some (.int .u64 n)) (hb:0≤m - n∧m - n≤18446744073709551615):Qy P (.binOp .sub t x y t') ty e H G (.int .u64 (m - n)):=by
 have:=Bu (P:=P) (H:=H) (G:=G) (ty:=ty) (t:=t) (t':=t') hx hy;rwa [iK _ hb] at this
abbrev iR:=@Ye
theorem Yf (hx:e.ev x=some (.int .u32 m)) (hy:e.ev y=some (.int .u32 n)) (hb:0≤m*n∧m*n≤4294967295):Qy P (.binOp .mul t x y t') ty e H G (.int .u32 (m*n)):=by
 have:=lA (P:=P) (H:=H) (G:=G) (ty:=ty) (t:=t) (t':=t') hx hy;rwa [mF _ hb] at this
theorem Yg (hx:e.ev x=some (.int .u64 m)) (hy:e.ev y=some (.int .u64 n)) (hb:0≤m*n∧m*n≤18446744073709551615):Qy P (.binOp .mul t x y t') ty e H G (.int .u64 (m*n)):=by
 have:=lA (P:=P) (H:=H) (G:=G) (ty:=ty) (t:=t) (t':=t') hx hy;rwa [iK _ hb] at this
abbrev mS:=@Yg
theorem Ie {m n:Int} (h:0≤m):m.tdiv n=m / n:=Int.tdiv_eq_ediv_of_nonneg h
theorem CA {m n:Int} (h:0≤m):m.tmod n=m % n:=Int.tmod_eq_emod_of_nonneg h
theorem Nq {m n:Int} (h:0≤m) (hn:0<n):0≤m / n∧m / n≤m:=⟨lD h (bK hn),Int.ediv_le_self _ h⟩
theorem Yh (hx:e.ev x=some (.int .u32 m)) (hy:e.ev y=some (.int .u32 n)) (hb:0≤m∧m≤4294967295∧0<n):Qy P (.binOp .quo t x y t') ty e H G (.int .u32 (m / n)):=by
 have:=Fz (P:=P) (H:=H) (G:=G) (ty:=ty) (t:=t) (t':=t') hx hy rG
 have h1:=Nq hb.1 hb.2.2
 rwa [Ie hb.1,mF _ ⟨h1.1,Int.le_trans h1.2 hb.2.1⟩] at this
abbrev oO:=@Yh
theorem Yi (hx:e.ev x=some (.int .u64 m)) (hy:e.ev y=some (.int .u64 n)) (hb:0≤m∧m≤18446744073709551615∧0<n):Qy P (.binOp .quo t x y t') ty e H G (.int .u64 (m / n)):=by
 have:=Fz (P:=P) (H:=H) (G:=G) (ty:=ty) (t:=t) (t':=t') hx hy rG
 have h1:=Nq hb.1 hb.2.2
 rwa [Ie hb.1,iK _ ⟨h1.1,Int.le_trans h1.2 hb.2.1⟩] at this
abbrev nN:=@Yi
theorem IB (hx:e.ev x=some (.int .i64 m)) (hy:e.ev y=some (.int .i64 n)) (hb:0≤m∧m≤9223372036854775807∧0<n):Qy P (.binOp .quo t x y t') ty e H G (.int .i64 (m / n)):=by
 have h1:=Nq hb.1 hb.2.2
 have h2:m.tdiv n=m / n:=Ie hb.1
 have:=Qy.quo (P:=P) (H:=H) (G:=G) (ty:=ty) (t:=t) (t':=t') hx hy rG (by rw [h2];exact ⟨by omega,by omega⟩)
 rwa [h2] at this
abbrev mY:=@IB
theorem IC {k:IntKind} (hx:e.ev x=some (.int k m)) (hy:e.ev y=some (.int k n)) (hb:0≤m∧0<n):Qy P (.binOp .rem t x y t') ty e H G (.int k (m % n)):=by
 have:=Qy.rem (P:=P) (H:=H) (G:=G) (ty:=ty) (t:=t) (t':=t') hx hy rG
 rwa [CA hb.1] at this
abbrev jA:=@IC
theorem Yj {s:TypeId} {k:IntKind} (hs:(P.underlying s).isSome=true) (ht:P.underlying t=some (.int .u32)) (hx:e.ev x=some (.int k m)) (hb:0≤m∧m≤4294967295):Qy P (.convert s t x) ty e H G (.int .u32 m):=by
 have:=jX (P:=P) (H:=H) (G:=G) (ty:=ty) hs ht hx
 rwa [mF _ hb] at this
abbrev gB:=@Yj
theorem Yk {s:TypeId} {k:IntKind} (hs:(P.underlying s).isSome=true) (ht:P.underlying t=some (.int .u64)) (hx:e.ev x=some (.int k m)) (hb:0≤m∧m≤18446744073709551615):Qy P (.convert s t x) ty e H G (.int .u64 m):=by
 have:=jX (P:=P) (H:=H) (G:=G) (ty:=ty) hs ht hx
 rwa [iK _ hb] at this
abbrev bZ:=@Yk
end
theorem Yl {P:Program} {e:Env} {H:Hp} {G:Imm} {ty T:TypeId} {x:Operand} {i:Nat} {v0 v1 v:Value} (h:∀ (w:World) (v0 v1:Value),(Instr.field T (.agg #[v0,v1]) i).run P w=.ok (#[v0,v1][i]?.getD undef) w)
 (hx:e.ev x=some (.agg #[v0,v1])) (hv:#[v0,v1][i]?.getD undef=v):Qy P (.field T x i) ty e H G v:=fun a w _ _ _ _ hh=>by
 subst hv
 simp [execOp,hh.eval hx,h]
abbrev rC:=@Yl
theorem Dy (a b:Nat) (ha:a<4294967296) (hb:b<4294967296):bits .and .u32 (a:Int) (b:Int)=((a &&& b:Nat):Int):=by
 have hx:a &&& b<2 ^ 32:=Nat.and_lt_two_pow _ rG
 have h1:(BitVec.ofInt 32 (a:Int)).toNat=a:=by
  rw [gF,gS];exact gD rG
 have h2:(BitVec.ofInt 32 (b:Int)).toNat=b:=by
  rw [gF,gS];exact gD rG
 show IntKind.u32.wrap ((BitVec.ofInt 32 (a:Int) &&& BitVec.ofInt 32 (b:Int)).toNat:Int)=_
 rw [BitVec.toNat_and,h1,h2,oS]
 omega
theorem yU (a b:Nat) (ha:a<4294967296) (hb:b<4294967296):bits .or .u32 (a:Int) (b:Int)=((a ||| b:Nat):Int):=by
 have hx:a ||| b<2 ^ 32:=Nat.or_lt_two_pow rG rG
 have h1:(BitVec.ofInt 32 (a:Int)).toNat=a:=by
  rw [gF,gS];exact gD rG
 have h2:(BitVec.ofInt 32 (b:Int)).toNat=b:=by
  rw [gF,gS];exact gD rG
 show IntKind.u32.wrap ((BitVec.ofInt 32 (a:Int) ||| BitVec.ofInt 32 (b:Int)).toNat:Int)=_
 rw [BitVec.toNat_or,h1,h2,oS]
 omega
theorem Pw (x:Int) (h:0≤x∧x<4294967296):bits .and .u32 x 1=x % 2:=by
 have h1:=Dy x.toNat 1 rG rG
 rw [Nat.and_one_is_mod,cL h.1] at h1
 have h2:((x.toNat % 2:Nat):Int)=x % 2:=rG
 exact h1.trans h2
theorem Tb (x:Int) (s:Nat) (hx:0≤x∧x<65536) (hs:s<16) (hz:x % ((2 ^ (s+1):Nat):Int)=0):bits .or .u32 x ((2 ^ s:Nat):Int)=x+((2 ^ s:Nat):Int):=by
 have hp:2 ^ s<4294967296:=bN (Nat.pow_lt_pow_right rW hs) rW
 have h1:=yU x.toNat (2 ^ s) rG hp
 rw [cL hx.1] at h1
 rw [h1]
 have hz':x.toNat % 2 ^ (s+1)=0:=by
  have h2:((x.toNat % 2 ^ (s+1):Nat):Int)=0:=by rw [Int.natCast_emod,cL hx.1];exact hz
  exact Int.ofNat_eq_zero.1 h2
 have h3:=gZ x.toNat (2 ^ (s+1))
 rw [hz',gU] at h3
 have h4:=jY (b:=2 ^ s) (i:=s+1) (Nat.pow_lt_pow_right rW (cK s)) (x.toNat / 2 ^ (s+1))
 rw [h3] at h4
 rw [←h4,Int.natCast_add,cL hx.1]
structure IV where
 neg:Bool
 a:Option Addr
 n:Nat
 c:Nat
instance:Inhabited IV:=⟨⟨false,none,0,0⟩⟩
instance:Cells IV:=⟨2,fun x=>[.bool x.neg,.slice x.a x.n x.c],fun _=>rfl,fun _=>rfl⟩
structure SV where
 a:Option Addr
 n:Nat
 c:Nat
instance:Inhabited SV:=⟨⟨none,0,0⟩⟩
instance:Cells SV:=⟨1,fun x=>[.slice x.a x.n x.c],fun _=>rfl,fun _=>rfl⟩
def Digs (l:List U32):Prop:=∀ d∈l,0≤d.v∧d.v<65536
def rJ:List U32→Int
 | []=>0
 | d :: l=>d.v+65536*rJ l
def pw (n:Nat):Int:=((65536 ^ n:Nat):Int)
theorem Cc:pw 0=1:=rfl
theorem vF (n:Nat):pw (n+1)=65536*pw n:=by unfold pw;rw [nK,oZ,eW];rfl
theorem uW (n:Nat):0<pw n:=by unfold pw;exact Int.ofNat_lt.2 (oB rW)
theorem Tc (m n:Nat):pw (m+n)=pw m*pw n:=by unfold pw;rw [lT,eW]
theorem Lv {m n:Nat} (h:m≤n):pw m≤pw n:=by unfold pw;exact pA.2 (fK rW h)
theorem sV:rJ []=0:=rfl
theorem tL (d:U32) (l:List U32):rJ (d :: l)=d.v+65536*rJ l:=rfl
theorem Digs.nil:Digs []:=fun d h=>by simp at h
abbrev pQ:=@Digs.nil
theorem Digs.tail {d:U32} {l:List U32} (h:Digs (d :: l)):Digs l:=fun x hx=>h x (bB _ hx)
theorem Digs.head {d:U32} {l:List U32} (h:Digs (d :: l)):0≤d.v∧d.v<65536:=h d bL
theorem Digs.append {l m:List U32} (h:Digs l) (h':Digs m):Digs (l++m):=fun x hx=>by
 rcases eV.1 hx with h1 | h1
 · exact h x h1
 exact h' x h1
theorem Digs.one {d:Int} (h:0≤d∧d<65536):Digs [⟨d⟩]:=fun x hx=>by
 have:x=⟨d⟩:=by simpa using hx
 subst this;exact h
abbrev oT:=@Digs.one
theorem Digs.take {l:List U32} (h:Digs l) (n:Nat):Digs (l.take n):=fun x hx=>h x (List.mem_of_mem_take hx)
theorem Digs.at {l:List U32} (h:Digs l) {m:Int} (hm:0≤m∧m<l.length):0≤(l[m.toNat]?.getD default).v∧(l[m.toNat]?.getD default).v<65536:=by
 have hl:m.toNat<l.length:=rG
 rw [aC hl];exact h _ (dA hl)
theorem sQ:∀ {l:List U32},Digs l→0≤rJ l
 | [],_=>Int.le_refl 0
 | d :: l,h=>by
   have h1:=sQ h.tail
   have h2:=h.head
   rw [tL];omega
theorem uU:∀ {l:List U32},Digs l→rJ l<pw l.length
 | [],_=>rW
 | d :: l,h=>by
   have h1:=uU h.tail
   have h2:=h.head
   rw [tL,bV,vF];omega
theorem xO:∀ (l m:List U32),rJ (l++m)=rJ l+pw l.length*rJ m
 | [],m=>by rw [fM,sV,cT,Cc];omega
 | d :: l,m=>by
   rw [rE,tL,tL,xO l m,bV,vF,bI,←bM];omega
theorem Ce (d:U32):rJ [d]=d.v:=by rw [tL,sV];omega
theorem wR (l:List U32) (d:U32):rJ (l++[d])=rJ l+pw l.length*d.v:=by rw [xO,Ce]
theorem zG {l:List U32} {k:Nat} (h:k<l.length):rJ (l.take (k+1))=rJ (l.take k)+pw k*(l[((k:Nat):Int).toNat]?.getD default).v:=by
 rw [eG,aF,aC h]
 simp only [Option.toList_some,gN]
 rw [wR,bC,cS (Nat.le_of_lt h)]
theorem rQ {α:Type} {l:List α} {k:Nat} (h:l.length≤k):l.take k=l:=cZ h
theorem xA (n:Nat):rJ (List.replicate n ⟨0⟩)=0:=by
 induction n with
 | zero=>rfl
 | succ n ih=>rw [nF,tL,ih];rfl
theorem Td (n:Nat):Digs (List.replicate n ⟨0⟩):=fun x hx=>by
 have:=iY hx
 subst this;exact ⟨by decide,by decide⟩
abbrev qG:=@Td
theorem Ym {l:List U32} {n:Nat} (h:∀ j,n≤j→j<l.length→(l[j]?.getD default).v=0):rJ (l.take n)=rJ l:=by
 rcases aJ n l.length with hn | hn
 · have e:l=l.take n++l.drop n:=(cU n l).symm
   have hz:∀ (m:List U32),(∀ j,j<m.length→(m[j]?.getD default).v=0)→rJ m=0:=by
    intro m
    induction m with
    | nil=>intro _;rfl
    | cons d m ih =>
      intro h0
      have h1:=h0 0 sI
      simp only [oR,gN] at h1
      rw [tL,h1,ih fun j hj=>by have:=h0 (j+1) (by simpa using hj);simpa using this];rfl
   have h2:rJ (l.drop n)=0:=hz _ fun j hj=>by
    rw [eR]
    exact h (n+j) rG (by rw [dM] at hj;omega)
   have h3:rJ l=rJ (l.take n++l.drop n):=by rw [cU]
   rw [h3,xO,h2];omega
 rw [rQ hn]
def Top (l:List U32):Prop:=l=[]∨(l[l.length - 1]?.getD default).v≠0
theorem Top.nil:Top []:=.inl rfl
theorem Nr {l:List U32} (hd:Digs l) (ht:Top l) (h0:l≠[]):pw (l.length - 1)≤rJ l:=by
 have hl:0<l.length:=nG.2 h0
 have h1:(l[l.length - 1]?.getD default).v≠0:=by
  rcases ht with h | h
  · exact absurd h h0
  exact h
 have h2:=zG (l:=l) (k:=l.length - 1) rG
 rw [lI hl,rQ (aH _),aF] at h2
 have h3:=sQ (hd.take (l.length - 1))
 have h4:(1:Int)≤(l[l.length - 1]?.getD default).v:=by
  have:=hd.at (m:=((l.length - 1:Nat):Int)) rG
  rw [aF] at this
  omega
 have h5:=aW h4 (bK (uW (l.length - 1)))
 omega
theorem ID {l:List U32} (hd:Digs l) (ht:Top l) {m:Nat} (h:rJ l<pw m):l.length≤m:=by
 by_cases h0:l=[]
 · subst h0;exact aT _
 have h1:=Nr hd ht h0
 rcases aJ m l.length with h2 | h2
 · have h3:=Lv (show m≤l.length - 1 by omega)
   omega
 exact h2
theorem Gk {l:List U32} (hd:Digs l) (ht:Top l) (h0:l≠[]):0<rJ l:=iL (uW _) (Nr hd ht h0)
theorem xB {l m:List U32} (hl:Digs l) (hm:Digs m) (tm:Top m) (h:l.length<m.length):rJ l<rJ m:=by
 have h1:=uU hl
 have h2:=Nr hm tm (fun e=>by rw [e] at h;simp at h)
 have h3:=Lv (show l.length≤m.length - 1 by omega)
 omega
structure IsInt (neg:Bool) (l:List U32) (z:Int):Prop where
 digs:Digs l
 top:Top l
 sign:l=[]→neg=false
 val:z=if neg=true then -rJ l else rJ l
theorem IsInt.abs {neg:Bool} {l:List U32} {z:Int} (h:IsInt neg l z):rJ l=z.natAbs:=by
 have h1:=sQ h.digs
 have h2:=h.val
 split at h2 <;> omega
theorem IsInt.neg_iff {neg:Bool} {l:List U32} {z:Int} (h:IsInt neg l z):neg=decide (z<0):=by
 have h2:=h.val
 by_cases h0:l=[]
 · have h3:=h.sign h0
   subst h0
   rw [h3] at h2 ⊢
   rw [sV] at h2
   have:¬z<0:=by simp at h2;omega
   simp [this]
 have h1:=Gk h.digs h.top h0
 cases neg with
 | true =>
   rw [aR rfl] at h2
   have:z<0:=rG
   simp [this]
 | false =>
   rw [aK (by decide)] at h2
   have:¬z<0:=rG
   simp [this]
theorem IsInt.zero_iff {neg:Bool} {l:List U32} {z:Int} (h:IsInt neg l z):l.length=0↔z=0:=by
 have h2:=h.val
 constructor
 · intro h0
   have h0:=bW h0
   subst h0
   rw [sV] at h2
   split at h2 <;> omega
 intro hz
 by_cases h0:l=[]
 · rw [h0];rfl
 have h1:=Gk h.digs h.top h0
 split at h2 <;> omega
theorem IsInt.len {neg:Bool} {l:List U32} {z:Int} (h:IsInt neg l z) {m:Nat} (hz:(z.natAbs:Int)<pw m):l.length≤m:=by
 refine ID h.digs h.top ?_
 rw [h.abs];exact hz
def Num (G:Imm) (x:IV) (z:Int):Prop:=∃ l:List U32,l.length=x.n∧x.n≤x.c∧Arr G x.a l∧IsInt x.neg l z
theorem Num.up {G G':Imm} {x:IV} {z:Int} (h:Num G x z) (hl:G.le G'):Num G' x z:=by
 obtain ⟨l,h1,h0,h2,h3⟩:=h
 exact ⟨l,h1,h0,h2.up hl,h3⟩
theorem Num.zero (G:Imm):Num G ⟨false,none,0,0⟩ 0:=⟨[],rfl,aH _,oK G,⟨pQ,Top.nil,fun _=>rfl,rfl⟩⟩
section
variable {P:Program} {B:Bs} {D:List Deferred}
theorem CC {ι:Type} {r:Option Nat} {c:Code} {Q:Exit→Act→World→Prop} {e:Env} {H:Hp} {G:Imm} (I:ι→Env×Hp) (g:ι→Imm) (φ:ι→Prop) (μ:ι→Nat) (i0:ι) (h0:φ i0) (hg:G=g i0)
 (he:e.sub (I i0).1) (hH:H.sub (I i0).2)
 (hb:∀ i,φ i→Wc r P c B ⟨(I i).1,D,(I i).2,g i⟩ (Exit.then (Hm B (fun i=>⟨(I i).1,D,(I i).2,g i⟩) φ μ (μ i)) Q)):Wc r P (.loop c) B ⟨e,D,H,G⟩ Q:=
 Pm (fun i=>⟨(I i).1,D,(I i).2,g i⟩) φ μ i0 h0 (fun _ _ h=>by rw [hg] at h;exact h.sub he hH) hb
abbrev jC:=@CC
end
def Nums (G:Imm) (l:List IV) (zs:List Int):Prop:=l.length=zs.length∧∀ i:Nat,i<l.length→Num G (l[i]?.getD default) (zs[i]?.getD 0)
theorem Nums.up {G G':Imm} {l:List IV} {zs:List Int} (h:Nums G l zs) (hl:G.le G'):Nums G' l zs:=⟨h.1,fun i hi=>(h.2 i hi).up hl⟩
theorem Nums.nil (G:Imm):Nums G [] []:=⟨rfl,fun i hi=>by simp at hi⟩
theorem Nums.at {G:Imm} {l:List IV} {zs:List Int} (h:Nums G l zs) {m:Int} (hm:0≤m∧m<l.length):Num G (l[m.toNat]?.getD default) (zs[m.toNat]?.getD 0):=h.2 _ rG
theorem Nums.snoc {G:Imm} {l:List IV} {zs:List Int} (h:Nums G l zs) {x:IV} {z:Int} (hx:Num G x z):Nums G (l++[x]) (zs++[z]):=by
 refine ⟨by simp [h.1],fun i hi=>?_⟩
 rw [aI,gM] at hi
 by_cases hc:i<l.length
 · rw [aZ hc,aZ (by rw [←h.1];exact hc)]
   exact h.2 i hc
 have e:i=l.length:=rG
 subst e
 rw [jZ,h.1,jZ]
 exact hx
def Below (m:Nat) (zs:List Int):Prop:=∀ z∈zs,(z.natAbs:Int)<pw m
theorem Below.at {m:Nat} {zs:List Int} (h:Below m zs) (i:Nat):((zs[i]?.getD 0).natAbs:Int)<pw m:=by
 cases hx:zs[i]? with
 | none=>exact uW m
 | some z=>exact h z (List.mem_of_getElem? hx)
theorem Below.mono {m k:Nat} {zs:List Int} (h:Below m zs) (hk:m≤k):Below k zs:=fun z hz=>iL (h z hz) (Lv hk)
def fnB (P : Program) (f : Nat) : Bool := match P.funcs[f]? with | some fn => fn.body.isSome && !(fn.name == "runtime.NumGoroutine") | none => false
theorem AllFn.of {P:Program}:∀ {l:List Nat},l.all (fnB P)=true→AllFn P l
 | [],_=>trivial
 | f :: l,h=>by
   rw [iZ,aB] at h
   refine ⟨?_,AllFn.of h.2⟩
   have h1:=h.1
   unfold fnB at h1
   split at h1
   · rename_i fn hf
     rw [aB] at h1
     exact ⟨fn,hf,h1.1,by simpa using h1.2⟩
   cases h1
theorem AllOne.of {P:Program}:∀ {l:List Nat},l.all (tZ P)=true→AllOne P l
 | [],_=>trivial
 | f :: l,h=>by
   rw [iZ,aB] at h
   exact ⟨h.1,AllOne.of h.2⟩
def agB (P:Program) (x:Nat×Nat):Bool:=uS P x.1 x.2 && (match P.info? x.1 with | some i=>Nat.beq i.size x.2 | none=>false)
theorem AllAgg.of {P:Program}:∀ {l:List (Nat×Nat)},l.all (agB P)=true→AllAgg P l
 | [],_=>trivial
 | x :: l,h=>by
   rw [iZ,aB] at h
   have h1:=h.1
   unfold agB at h1
   rw [aB] at h1
   refine ⟨⟨h1.1,?_⟩,AllAgg.of h.2⟩
   have h2:=h1.2
   split at h2
   · rename_i i hi
     rw [hi,←aD h2];rfl
   cases h2
def slB (P:Program) (t:Nat):Bool:=match P.underlying t with | some (.slice E)=>(P.info? E).isSome | _=>false
theorem AllSl.of {P:Program}:∀ {l:List Nat},l.all (slB P)=true→AllSl P l
 | [],_=>trivial
 | t :: l,h=>by
   rw [iZ,aB] at h
   refine ⟨?_,AllSl.of h.2⟩
   have h1:=h.1
   unfold slB at h1
   split at h1
   · rename_i E hE
     cases hi:P.info? E with
     | none=>rw [hi] at h1;cases h1
     | some i=>exact ⟨E,i.size,hE,by rw [hi];rfl⟩
   cases h1
def IE:List (List Nat)→Nat→Nat
 | [],f=>f
 | _ :: s,f=>IE s f+1
def Px:List (List Nat)→Array Bool→Array Bool
 | [],L=>L
 | [] :: s,L=>Px s L
 | (i :: _) :: s,L=>Px s (L.setIfInBounds i true)
def Cg (ops:Array Oper) (wr:List (Nat×Nat)):List (List Nat)→Array Bool→Bool
 | [],_=>true
 | [] :: _,_=>false
 | (i :: ts) :: s,L=>vQ ops L wr i ts && Cg ops wr s (L.setIfInBounds i true)
def eqb (b w:Bool):Bool:=bif b then w else !w
def gmg (l:List Oper) (e:Env):Option (Nat×Bool)→Option Bool
 | none=>some true
 | some (j,w)=>match xT l j with
   | some t=>match e.get t with
     | some (.bool b)=>some (eqb b w)
     | _=>none
   | none=>none
def NW (P:Program) [Tab P] (n:Nat) (l:List Oper) (H0:Hp):List (List Nat)→Env→Option (Env×Prop)
 | [],e=>some (e,True)
 | [] :: _,_=>none
 | (i :: ts) :: s,e=>match Br l i with
   | some ⟨some d,o,_,_,_,g⟩=>match Nat.ble (d+1) n with
     | true=>match gmg l e g with
       | some true=>match RX P e (H0.only ts) ts o with
         | some (v,_,ob)=>match NW P n l H0 s ((d,v) :: e) with
           | some (e',obs)=>some (e',ob∧obs)
           | none=>none
         | none=>none
       | some false=>match ts with
         | []=>NW P n l H0 s ((d,undef) :: e)
         | _ :: _=>none
       | none=>none
     | false=>none
   | _=>none
theorem Py {l:List Oper} {e:Env} {j:Nat} {w x:Bool} (h:gmg l e (some (j,w))=some x):∃ t,(l[j]?).bind (·.dst)=some t∧e.get t=some (.bool (bif x then w else !w)):=by
 replace h:(match xT l j with
  | some t=>match e.get t with
    | some (.bool b)=>some (eqb b w)
    | _=>none
  | none=>none)=some x:=h
 split at h
 · rename_i t ht
   rw [yM] at ht
   split at h
   · rename_i b hb
     refine ⟨t,ht,hb.trans ?_⟩
     cases b <;> cases w <;> cases h <;> rfl
   cases h
 cases h
theorem Ns {P:Program} [T:Tab P] {B:Bs} {D:List Deferred} {H H0:Hp} {G G0:Imm} {K:Act→World→Prop} {l:List Oper} {f:Nat} {wr:List (Nat×Nat)} {e':Env}:∀ {steps:List (List Nat)} {listed:Array Bool} {e:Env} {ob:Prop},NW P B.n l H0 steps e=some (e',ob)→ob→Cg l.toArray wr steps listed=true→Gm P l.toArray f (Px steps listed) wr H0 G0 B ⟨e',D,H,G⟩ K→Gm P l.toArray (IE steps f) listed wr H0 G0 B ⟨e,D,H,G⟩ K
 | [],listed,e,ob,h,_,_,hg=>by cases h;exact hg
 | [] :: s,listed,e,ob,h,_,_,_=>wW
 | (i :: ts) :: s,listed,e,ob,h,hob,hB,hg=>by
   unfold Cg at hB
   rw [aB] at hB
   unfold NW at h
   split at h
   · rename_i d o ty pos after g hi
     rw [vE] at hi
     split at h
     · rename_i hn
       split at h
       · rename_i hgm
         split at h
         · rename_i v hs' ob1 hq
           split at h
           · rename_i e1 obs h2
             cases h
             have hr:=Ns h2 hob.2 hB.2 hg
             cases g with
             | none=>exact Gm.q i ts hB.1 hi hn (Sw hq hob.1) hr
             | some jw =>
               obtain ⟨j,w⟩:=jw
               obtain ⟨t,ht,he⟩:=Py hgm
               exact Va (t:=t) i ts hB.1 hi ht he hn (Sw hq hob.1) hr
           cases h
         cases h
       · rename_i hgm
         split at h
         · have hr:=Ns h hob hB.2 hg
           cases g with
           | none=>cases hgm
           | some jw =>
             obtain ⟨j,w⟩:=jw
             obtain ⟨t,ht,he⟩:=Py hgm
             exact LJ (t:=t) i hB.1 hi ht he hn hr
         cases h
       cases h
     cases h
   cases h
section
variable {P:Program} {B:Bs} {e e':Env} {D:List Deferred} {H H0:Hp} {G G0:Imm} {K:Act→World→Prop} {ops:Array Oper} {l rest:List Oper} {f:Nat} {listed:Array Bool} {wr:List (Nat×Nat)} {ty:TypeId} {pos:String} {after:Array Edge} {d:Nat} {ob:Prop}
theorem Gm.r [T:Tab P] (steps:List (List Nat)) (h:Gm P l.toArray f (Px steps listed) wr H0 G0 B ⟨e',D,H,G⟩ K) (hr:NW P B.n l H0 steps e=some (e',ob):=by exact rfl) (hob:ob:=by (repeat refine And.intro KR ?_);exact trivial) (hB:Cg l.toArray wr steps listed=true:=by kernel_rfl) :
 Gm P l.toArray (IE steps f) listed wr H0 G0 B ⟨e,D,H,G⟩ K:=Ns hr hob hB h
abbrev eD:=@Gm.r
theorem Gm.y {o:Op} {v:Value} {j:Nat} {want:Bool} {t:Nat} (i:Nat) (ts:List Nat) (ho:l[i]?=some ⟨some d,o,ty,pos,after,some (j,want)⟩) (hq:Qy P o ty e (H0.only ts) G0 v) (h:Gm P l.toArray f (listed.setIfInBounds i true) wr H0 G0 B ⟨(d,v) :: e,D,H,G⟩ K)
 (hj:(l[j]?).bind (·.dst)=some t:=by exact rfl) (he:e.get t=some (.bool want):=by exact rfl) (hn:Nat.ble (d+1) B.n=true:=by exact rfl) (hB:vQ l.toArray listed wr i ts=true:=by kernel_rfl):Gm P l.toArray (f+1) listed wr H0 G0 B ⟨e,D,H,G⟩ K:=
 Va i ts hB ho hj he hn hq h
abbrev pC:=@Gm.y
theorem Wl.p {o:Op} {v:Value} (hq:Qy P o ty e H G v) (h:Wl P ops rest B ⟨(d,v) :: e,D,H,G⟩ K) (hn:Nat.ble (d+1) B.n=true:=by exact rfl):Wl P ops (⟨some d,o,ty,pos,after,none⟩ :: rest) B ⟨e,D,H,G⟩ K:=lH hn hq h
abbrev aN:=@Wl.p
theorem Wl.b {e0:Env} {H0:Hp} {v:Value} (n m:Nat) (he:e.drop n=e0:=by exact rfl) (hf:e0.fresh (e.take n)=true:=by exact rfl) (hH:H.drop m=H0:=by exact rfl) (hg:H0.fresh (H.take m)=true:=by exact rfl) (hv:e.get d=some v:=by exact rfl) :
 Wl P ops [] B ⟨e,D,H,G⟩ (Hold B ⟨(d,v) :: e0,D,H0,G⟩):=Wl.back n m he hf hH hg hv
abbrev cQ:=@Wl.b
theorem Wl.x {T:TypeId} {x:Operand} {v:Value} {cs:List Value} (t:Nat) (h:∀ b,Wl P ops rest B ⟨(d,.pointer (some ⟨b,0,none⟩)) :: e,D,(t,some b,.cells cs.toArray T (0,0)) :: H,G⟩ K) (hn:Nat.ble (d+1) B.n=true:=by exact rfl) (hx:e.ev x=some v:=by exact rfl) (hv:v.cells=cs.toArray:=by exact rfl) :
 Wl P ops (⟨some d,.box T x,ty,pos,after,none⟩ :: rest) B ⟨e,D,H,G⟩ K:=Wl.box t hn hx hv h
abbrev cV:=@Wl.x
variable {α:Type} [Cells α]
theorem Wl.at {T:TypeId} {x i:Operand} {c:Nat} {k:IntKind} {m:Int} {E:Nat} {a:Option Addr} {xs:List α} (hT:rS P T E (Cells.sz α)) (h:Wl P ops rest B ⟨(d,.pointer (some ⟨ab a,ao a+m.toNat*Cells.sz α,none⟩)) :: e,D,H,G⟩ K)
 (hx:e.ev x=some (.slice a xs.length c):=by exact rfl) (hi:e.ev i=some (.int k m):=by exact rfl) (hs:Arr G a xs:=by assumption) (hb:0≤m∧m<xs.length:=by omega) (hn:Nat.ble (d+1) B.n=true:=by exact rfl):Wl P ops (⟨some d,.indexAddr T x i,ty,pos,after,none⟩ :: rest) B ⟨e,D,H,G⟩ K:=
 lH hn (qP hT hx hi hs hb) h
abbrev dI:=@Wl.at
theorem OB {T:TypeId} {x i:Operand} {c:Nat} {k:IntKind} {m:Int} {E:Nat} {a:Option Addr} {xs:List α} {junk:List Value} (hT:rS P T E (Cells.sz α)) (h:Wl P ops rest B ⟨(d,.pointer (some ⟨ab a,0+m.toNat*Cells.sz α,none⟩)) :: e,D,H,G⟩ K)
 (hx:e.ev x=some (.slice a xs.length c):=by exact rfl) (hi:e.ev i=some (.int k m):=by exact rfl) (hs:OwnA a c xs junk:=by assumption) (hb:0≤m∧m<xs.length:=by omega) (hn:Nat.ble (d+1) B.n=true:=by exact rfl):Wl P ops (⟨some d,.indexAddr T x i,ty,pos,after,none⟩ :: rest) B ⟨e,D,H,G⟩ K:=
 lH hn (kX hT hx hi hs hb) h
abbrev fP:=@OB
theorem Wl.lc [Inhabited α] {T:TypeId} {x:Operand} {a:Option Addr} {xs:List α} {m:Int} {v:Value} (k:Nat) (h1:tZ P T=true) (h:Wl P ops rest B ⟨(d,v) :: e,D,H,G⟩ K) (hx:e.ev x=some (.pointer (some ⟨ab a,ao a+m.toNat*Cells.sz α+k,none⟩)):=by exact rfl)
 (hs:Arr G a xs:=by assumption) (hm:0≤m∧m<xs.length:=by omega) (hk:Nat.ble (k+1) (Cells.sz α)=true:=by exact rfl) (hv:(Cells.enc (xs[m.toNat]?.getD default))[k]?=some v:=by exact rfl) (hn:Nat.ble (d+1) B.n=true:=by exact rfl):Wl P ops (⟨some d,.load T x,ty,pos,after,none⟩ :: rest) B ⟨e,D,H,G⟩ K:=
 lH hn (eS h1 hx (hs.cell hm k hk hv)) h
abbrev fJ:=@Wl.lc
theorem Wl.le [Inhabited α] {T k:TypeId} {x:Operand} {a:Option Addr} {xs:List α} {m:Int} (h1:uS P T k=true) (h:Wl P ops rest B ⟨(d,.agg (Cells.enc (xs[m.toNat]?.getD default)).toArray) :: e,D,H,G⟩ K) (hx:e.ev x=some (.pointer (some ⟨ab a,ao a+m.toNat*Cells.sz α,none⟩)):=by exact rfl)
 (hs:Arr G a xs:=by assumption) (hm:0≤m∧m<xs.length:=by omega) (hl:(Cells.enc (xs[m.toNat]?.getD default)).length=k:=by exact rfl) (hn:Nat.ble (d+1) B.n=true:=by exact rfl):Wl P ops (⟨some d,.load T x,ty,pos,after,none⟩ :: rest) B ⟨e,D,H,G⟩ K:=
 lH hn (mT h1 hx (hs.elem hm) hl) h
abbrev lP:=@Wl.le
theorem Wl.lo [Inhabited α] {T:TypeId} {x:Operand} {E:TypeId} {a:Option Addr} {c:Nat} {xs:List α} {junk:List Value} {m:Int} {v:Value} (t k:Nat) (h1:tZ P T=true) (h:Wl P ops rest B ⟨(d,v) :: e,D,H,G⟩ K) (hx:e.ev x=some (.pointer (some ⟨ab a,0+m.toNat*Cells.sz α+k,none⟩)):=by exact rfl)
 (ht:H.get t=some (a.map (·.block),rV E xs junk):=by exact rfl) (ho:OwnA a c xs junk:=by assumption) (hm:0≤m∧m<xs.length:=by omega) (hk:Nat.ble (k+1) (Cells.sz α)=true:=by exact rfl) (hv:(Cells.enc (xs[m.toNat]?.getD default))[k]?=some v:=by exact rfl) (hn:Nat.ble (d+1) B.n=true:=by exact rfl) :
 Wl P ops (⟨some d,.load T x,ty,pos,after,none⟩ :: rest) B ⟨e,D,H,G⟩ K:=lH hn (Ca t k h1 hx ht ho hm hk hv) h
abbrev mZ:=@Wl.lo
theorem Gm.at {T:TypeId} {x i:Operand} {c:Nat} {k:IntKind} {m:Int} {E:Nat} {a:Option Addr} {xs:List α} (q:Nat) (hT:rS P T E (Cells.sz α)) (h:Gm P l.toArray f (listed.setIfInBounds q true) wr H0 G0 B ⟨(d,.pointer (some ⟨ab a,ao a+m.toNat*Cells.sz α,none⟩)) :: e,D,H,G⟩ K)
 (ho:l[q]?=some ⟨some d,.indexAddr T x i,ty,pos,after,none⟩:=by exact rfl) (hx:e.ev x=some (.slice a xs.length c):=by exact rfl) (hi:e.ev i=some (.int k m):=by exact rfl) (hs:Arr G0 a xs:=by assumption) (hb:0≤m∧m<xs.length:=by omega) (hn:Nat.ble (d+1) B.n=true:=by exact rfl) (hB:vQ l.toArray listed wr q []=true:=by kernel_rfl) :
 Gm P l.toArray (f+1) listed wr H0 G0 B ⟨e,D,H,G⟩ K:=gR q [] ho (qP hT hx hi hs hb) h hn hB
abbrev iM:=@Gm.at
theorem OC {T:TypeId} {x i:Operand} {c:Nat} {k:IntKind} {m:Int} {E:Nat} {a:Option Addr} {xs:List α} {junk:List Value} (q:Nat) (hT:rS P T E (Cells.sz α)) (h:Gm P l.toArray f (listed.setIfInBounds q true) wr H0 G0 B ⟨(d,.pointer (some ⟨ab a,0+m.toNat*Cells.sz α,none⟩)) :: e,D,H,G⟩ K)
 (ho:l[q]?=some ⟨some d,.indexAddr T x i,ty,pos,after,none⟩:=by exact rfl) (hx:e.ev x=some (.slice a xs.length c):=by exact rfl) (hi:e.ev i=some (.int k m):=by exact rfl) (hs:OwnA a c xs junk:=by assumption) (hb:0≤m∧m<xs.length:=by omega) (hn:Nat.ble (d+1) B.n=true:=by exact rfl) (hB:vQ l.toArray listed wr q []=true:=by kernel_rfl) :
 Gm P l.toArray (f+1) listed wr H0 G0 B ⟨e,D,H,G⟩ K:=gR q [] ho (kX hT hx hi hs hb) h hn hB
abbrev kB:=@OC
theorem Gm.lc [Inhabited α] {T:TypeId} {x:Operand} {a:Option Addr} {xs:List α} {m:Int} {v:Value} (q:Nat) (ts:List Nat) (k:Nat) (h1:tZ P T=true) (h:Gm P l.toArray f (listed.setIfInBounds q true) wr H0 G0 B ⟨(d,v) :: e,D,H,G⟩ K) (ho:l[q]?=some ⟨some d,.load T x,ty,pos,after,none⟩:=by exact rfl)
 (hx:e.ev x=some (.pointer (some ⟨ab a,ao a+m.toNat*Cells.sz α+k,none⟩)):=by exact rfl) (hs:Arr G0 a xs:=by assumption) (hm:0≤m∧m<xs.length:=by omega) (hk:Nat.ble (k+1) (Cells.sz α)=true:=by exact rfl) (hv:(Cells.enc (xs[m.toNat]?.getD default))[k]?=some v:=by exact rfl) (hn:Nat.ble (d+1) B.n=true:=by exact rfl) (hB:vQ l.toArray listed wr q ts=true:=by kernel_rfl) :
 Gm P l.toArray (f+1) listed wr H0 G0 B ⟨e,D,H,G⟩ K:=gR q ts ho (eS h1 hx (hs.cell hm k hk hv)) h hn hB
abbrev nW:=@Gm.lc
theorem Gm.le [Inhabited α] {T k:TypeId} {x:Operand} {a:Option Addr} {xs:List α} {m:Int} (q:Nat) (h1:uS P T k=true) (h:Gm P l.toArray f (listed.setIfInBounds q true) wr H0 G0 B ⟨(d,.agg (Cells.enc (xs[m.toNat]?.getD default)).toArray) :: e,D,H,G⟩ K) (ho:l[q]?=some ⟨some d,.load T x,ty,pos,after,none⟩:=by exact rfl)
 (hx:e.ev x=some (.pointer (some ⟨ab a,ao a+m.toNat*Cells.sz α,none⟩)):=by exact rfl) (hs:Arr G0 a xs:=by assumption) (hm:0≤m∧m<xs.length:=by omega) (hl:(Cells.enc (xs[m.toNat]?.getD default)).length=k:=by exact rfl) (hn:Nat.ble (d+1) B.n=true:=by exact rfl) (hB:vQ l.toArray listed wr q []=true:=by kernel_rfl) :
 Gm P l.toArray (f+1) listed wr H0 G0 B ⟨e,D,H,G⟩ K:=gR q [] ho (mT h1 hx (hs.elem hm) hl) h hn hB
abbrev oI:=@Gm.le
theorem Gm.lo [Inhabited α] {T:TypeId} {x:Operand} {E:TypeId} {a:Option Addr} {c:Nat} {xs:List α} {junk:List Value} {m:Int} {v:Value} (q t k:Nat) (h1:tZ P T=true) (h:Gm P l.toArray f (listed.setIfInBounds q true) wr H0 G0 B ⟨(d,v) :: e,D,H,G⟩ K) (ho:l[q]?=some ⟨some d,.load T x,ty,pos,after,none⟩:=by exact rfl)
 (hx:e.ev x=some (.pointer (some ⟨ab a,0+m.toNat*Cells.sz α+k,none⟩)):=by exact rfl) (ht:(H0.only [t]).get t=some (a.map (·.block),rV E xs junk):=by exact rfl) (hw:OwnA a c xs junk:=by assumption) (hm:0≤m∧m<xs.length:=by omega) (hk:Nat.ble (k+1) (Cells.sz α)=true:=by exact rfl)
 (hv:(Cells.enc (xs[m.toNat]?.getD default))[k]?=some v:=by exact rfl) (hn:Nat.ble (d+1) B.n=true:=by exact rfl) (hB:vQ l.toArray listed wr q [t]=true:=by kernel_rfl):Gm P l.toArray (f+1) listed wr H0 G0 B ⟨e,D,H,G⟩ K:=gR q [t] ho (Ca t k h1 hx ht hw hm hk hv) h hn hB
abbrev lV:=@Gm.lo
theorem Wl.ap {s x:Operand} {T E bytes:Nat} {zs:List Value} {a ad:Option Addr} {c c2:Nat} {xs ys:List α} {junk:List Value} (t:Nat) (hT:rS P T E (Cells.sz α)) (hE:ElemOf P E (Cells.sz α) bytes zs) (hsrc:Src H G ad ys)
 (h:∀ a' c' junk',OwnA a' c' (xs++ys) junk'→Wl P ops rest B ⟨(d,.slice a' (xs++ys).length c') :: e,D,(t,a'.map (·.block),rV E (xs++ys) junk') :: H,G⟩ K) (hs:e.ev s=some (.slice a xs.length c):=by exact rfl) (hx:e.ev x=some (.slice ad ys.length c2):=by exact rfl)
 (ht:H.get t=some (a.map (·.block),rV E xs junk):=by exact rfl) (ho:OwnA a c xs junk:=by first | assumption | exact fF | exact iS sI) (hb:(xs.length+ys.length)*bytes≤140737488355328:=by first | omega | (simp only [aI,bV,cT,maxLen];omega)) (hl:xs.length+ys.length≤maxLen:=by first | omega | (simp only [aI,bV,cT,maxLen];omega)) (hn:Nat.ble (d+1) B.n=true:=by exact rfl) :
 Wl P ops (⟨some d,.call { callee:=.builtin .append,args:=#[s,x],argTypes:=#[T,T] },ty,pos,after,none⟩ :: rest) B ⟨e,D,H,G⟩ K:=oN t hn hT hE hs hx ht ho hsrc hb hl h
abbrev jW:=@Wl.ap
end
section
variable {P:Program} {B:Bs} {e:Env} {D:List Deferred} {H H0:Hp} {G G0:Imm} {K:Act→World→Prop} {l:List Oper} {f:Nat} {listed:Array Bool} {wr:List (Nat×Nat)} {Q:Exit→Act→World→Prop} {ops:Array Oper} {p:Prop} [Decidable p]
theorem OD {ι:Type} {I:ι→St} {φ:ι→Prop} {μ:ι→Nat} {m:Nat} (j:ι) (hφ:φ j) (hμ:μ j<m) (hI:I j=⟨(I j).e,D,(I j).H,G⟩:=by exact rfl) (he:e.sub (I j).e:=by repeat (first | exact trivial | refine ⟨rfl,?_⟩)) (hH:H.sub (I j).H:=by repeat (first | exact trivial | refine ⟨rfl,?_⟩)):Ar (Exit.then (Hm B I φ μ m) Q) .normal B ⟨e,D,H,G⟩:=Ar.again j hφ hμ hI he hH
abbrev cP:=@OD
theorem Ar.mt {ι:Type} {I:ι→St} {φ:ι→Prop} (j:ι) (hφ:φ j) (hI:I j=⟨(I j).e,D,(I j).H,G⟩:=by exact rfl) (he:e.sub (I j).e:=by repeat (first | exact trivial | refine ⟨rfl,?_⟩)) (hH:H.sub (I j).H:=by repeat (first | exact trivial | refine ⟨rfl,?_⟩)):Ar (Exit.then (LN B I φ) Q) .normal B ⟨e,D,H,G⟩:=Bz j hφ hI he hH
abbrev qX:=@Ar.mt
theorem Wc.lp {ι:Type} {r:Option Nat} {c:Code} (I:ι→Env×Hp) (φ:ι→Prop) (μ:ι→Nat) (i0:ι) (h0:φ i0) (hb:∀ i,φ i→Wc r P c B ⟨(I i).1,D,(I i).2,G⟩ (Exit.then (Hm B (fun i=>⟨(I i).1,D,(I i).2,G⟩) φ μ (μ i)) Q)) (he:e.sub (I i0).1:=by repeat (first | exact trivial | refine ⟨rfl,?_⟩)) (hH:H.sub (I i0).2:=by repeat (first | exact trivial | refine ⟨rfl,?_⟩)) :
 Wc r P (.loop c) B ⟨e,D,H,G⟩ Q:=pU I φ μ i0 h0 he hH hb
abbrev fS:=@Wc.lp
theorem Wc.lg {ι:Type} {r:Option Nat} {c:Code} (I:ι→Env×Hp) (g:ι→Imm) (φ:ι→Prop) (μ:ι→Nat) (i0:ι) (h0:φ i0) (hb:∀ i,φ i→Wc r P c B ⟨(I i).1,D,(I i).2,g i⟩ (Exit.then (Hm B (fun i=>⟨(I i).1,D,(I i).2,g i⟩) φ μ (μ i)) Q)) (hg:G=g i0:=by exact rfl) (he:e.sub (I i0).1:=by repeat (first | exact trivial | refine ⟨rfl,?_⟩)) (hH:H.sub (I i0).2:=by repeat (first | exact trivial | refine ⟨rfl,?_⟩)) :
 Wc r P (.loop c) B ⟨e,D,H,G⟩ Q:=jC I g φ μ i0 h0 hg he hH hb
abbrev qN:=@Wc.lg
theorem Fe (t:Nat) (h:Wl P ops l B ⟨(t,.bool true) :: e,D,H,G⟩ K) (he:e.get t=some (.bool (decide p)):=by exact rfl) (hp:p:=by first | assumption | omega):Wl P ops l B ⟨e,D,H,G⟩ K:=Ng t he hp h
theorem Wl.ne (t:Nat) (h:Wl P ops l B ⟨(t,.bool false) :: e,D,H,G⟩ K) (he:e.get t=some (.bool (decide p)):=by exact rfl) (hp:¬p:=by first | assumption | omega):Wl P ops l B ⟨e,D,H,G⟩ K:=Vb t he hp h
abbrev jH:=@Wl.ne
theorem Wl.o1 {o:Oper} (i:Nat) (h:Wl P l.toArray [o] B ⟨e,D,H,G⟩ (zB P l.toArray f (listed.setIfInBounds i true) wr H0 G0 K)) (hH:H.sub (H0.live wr listed):=by repeat (first | exact trivial | refine ⟨rfl,?_⟩)) (hG:G0.le G:=by first | exact cD _ | repeat (first | assumption | refine bA ?_ rH)) (hr:Region.ready .any l.toArray listed=[i]:=by kernel_rfl) (ho:l[i]?=some o:=by exact rfl) :
 Wl P l.toArray [] B ⟨e,D,H,G⟩ (zB P l.toArray (f+1) listed wr H0 G0 K):=eE (fE i h hH hG hr ho)
abbrev bO:=@Wl.o1
theorem OE {x:Exit} (h:Ar Q x B ⟨e,D,H,G⟩) (hr:Region.ready .any ops listed=[]:=by kernel_rfl) (hH:H.sub (H0.live wr listed):=by repeat (first | exact trivial | refine ⟨rfl,?_⟩)) (hG:G0.le G:=by first | exact cD _ | repeat (first | assumption | refine bA ?_ rH)):Wl P ops [] B ⟨e,D,H,G⟩ (zB P ops 0 listed wr H0 G0 (Q x)):=eE (dY h hr hH hG)
abbrev fO:=@OE
theorem OF [Tab P] {r:Option Nat} {id:Nat} {e':Env} {ob:Prop} (ts:List Nat) (wr:List (Nat×Nat)) (hm:P.follows .mixedOrders=true) (steps:List (List Nat)) {f:Nat} (h:Gm P l.toArray f (Px steps (Array.replicate l.length false)) wr (H.only ts) G B ⟨e',D,H,G⟩ (Q .normal)) (hf:l.length=IE steps f:=by exact rfl)
 (hr:NW P B.n l (H.only ts) steps e=some (e',ob):=by exact rfl) (hob:ob:=by (repeat refine And.intro KR ?_);exact trivial) (hB:Cg l.toArray wr steps (Array.replicate l.length false)=true:=by kernel_rfl) (hd:l.all sM=true:=by exact rfl) :
 Wc r P (.region id l.toArray true) B ⟨e,D,H,G⟩ Q:=Wc.draw ts wr hm hd (by have:=Ns hr hob hB h;rw [←hf] at this;exact this)
abbrev dT:=@OF
end
theorem D0 {P:Program} {G:Imm} {f:FuncId} {fn:Func} {c:Code} {n:Nat} {args:List Value} {Hi:Hp} {post:Value→Imm→Hp→Prop} (hf:P.funcs[f]?=some fn) (hn:fn.ntmps=n) (h:∀ w,Wc none P c ⟨n,w,Hi.has,G⟩ ⟨tX 0 args,[],Hi,G⟩ (BK P fn G Hi w post)) (hb:fn.body=some c:=by exact rfl)
 (hl:Nat.ble args.length n=true:=by exact rfl):Does P f args G Hi post:=pD hf hb hn hl h
section
variable {P:Program} {fn:Func} {G0:Imm} {Hi:Hp} {w0:World} {post:Value→Imm→Hp→Prop} {n:Nat} {e:Env} {H:Hp} {G:Imm} {x:Exit} {t1 t2:Nat} {v1 v2:Value}
theorem Ar.p1 (L:List Nat) (hp:post v1 G (H.only L)) (hx:x=.normal∨x=.ret:=by exact .inr rfl) (hres:fn.results=#[.tmp t1]:=by exact rfl) (h1:e.get t1=some v1:=by exact rfl):Ar (BK P fn G0 Hi w0 post) x ⟨n,w0,Hi.has,G0⟩ ⟨e,[],H,G⟩:=
 dQ hx hres (.tmp h1) (bP _ _) hp
abbrev pJ:=@Ar.p1
theorem Ar.p2 (L:List Nat) (hp:post (.tuple #[v1,v2]) G (H.only L)) (hx:x=.normal∨x=.ret:=by exact .inr rfl) (hres:fn.results=#[.tmp t1,.tmp t2]:=by exact rfl) (h1:e.get t1=some v1:=by exact rfl) (h2:e.get t2=some v2:=by exact rfl):Ar (BK P fn G0 Hi w0 post) x ⟨n,w0,Hi.has,G0⟩ ⟨e,[],H,G⟩:=
 iO hx hres (.tmp h1) (.tmp h2) (bP _ _) hp
abbrev qV:=@Ar.p2
end
theorem Wc.i {P:Program} {r:Option Nat} {B:Bs} {S:St} {Q:Exit→Act→World→Prop} {c:Operand} {x y:Code} {p:Prop} [Decidable p] (ht:p→Wc r P x B S Q) (hf:¬p→Wc r P y B S Q) (hc:S.e.ev c=some (.bool (decide p)):=by exact rfl):Wc r P (.cond c x y) B S Q:=Wc.cond hc ht hf
abbrev dL:=@Wc.i
end Go.Sl
namespace Go.Proofs.YtngphgeghfdjbaaGreatDoor.T
open Go Go.Sl
theorem u2:Tryz.prog.underlying 2=some (.int .i64):=rR
theorem one3:tZ Tryz.prog 3=true:=rR
theorem zero3:ZeroOf Tryz.prog 3 [.int .i64 0]:=lO rR
theorem el3:ElemOf Tryz.prog 3 1 8 [.int .i64 0]:=kU rR rfl
theorem u3:Tryz.prog.underlying 3=some (.int .i64):=rR
theorem u4:Tryz.prog.underlying 4=some .bool:=rR
theorem one5:tZ Tryz.prog 5=true:=rR
theorem one22:tZ Tryz.prog 22=true:=rR
theorem sl22:rS Tryz.prog 22 51 2:=⟨by kernel_rfl,by kernel_rfl⟩
theorem sl23:rS Tryz.prog 23 211 5:=⟨by kernel_rfl,by kernel_rfl⟩
theorem sl24:rS Tryz.prog 24 3 1:=⟨by kernel_rfl,by kernel_rfl⟩
theorem agg26:uS Tryz.prog 26 4=true:=rR
theorem size26:(Tryz.prog.info? 26).map (·.size)=some 4:=rR
theorem zero26:ZeroOf Tryz.prog 26 [.int .i64 0,.int .i64 0,.slice none 0 0,.slice none 0 0]:=lO rR
theorem el26:ElemOf Tryz.prog 26 4 64 [.int .i64 0,.int .i64 0,.slice none 0 0,.slice none 0 0]:=kU rR rfl
theorem agg28:uS Tryz.prog 28 15=true:=rR
theorem zero28:ZeroOf Tryz.prog 28 [.int .i64 0,.int .i64 0,.slice none 0 0,.int .i64 0,.int .i64 0,.slice none 0 0,.slice none 0 0,.int .i64 0,.int .i64 0,.slice none 0 0,.slice none 0 0,.int .i64 0,.int .i64 0,.slice none 0 0,.slice none 0 0]:=lO rR
theorem st28:StructOf Tryz.prog 28 [(0,1),(1,1),(2,1),(3,4),(7,4),(11,4)] [.int .i64 0,.int .i64 0,.slice none 0 0,.int .i64 0,.int .i64 0,.slice none 0 0,.slice none 0 0,.int .i64 0,.int .i64 0,.slice none 0 0,.slice none 0 0,.int .i64 0,.int .i64 0,.slice none 0 0,.slice none 0 0]:=jI (Tryz.prog.fieldsOf 28) rR rR rR
theorem one39:tZ Tryz.prog 39=true:=rR
theorem size39:(Tryz.prog.info? 39).map (·.size)=some 1:=rR
theorem sl39:rS Tryz.prog 39 89 2:=⟨by kernel_rfl,by kernel_rfl⟩
theorem el39:ElemOf Tryz.prog 39 1 24 [.slice none 0 0]:=kU rR rfl
theorem sl44:rS Tryz.prog 44 93 2:=⟨by kernel_rfl,by kernel_rfl⟩
theorem agg51:uS Tryz.prog 51 2=true:=rR
theorem zero51:ZeroOf Tryz.prog 51 [.int .i64 0,.int .i64 0]:=lO rR
theorem el51:ElemOf Tryz.prog 51 2 16 [.int .i64 0,.int .i64 0]:=kU rR rfl
theorem st51:StructOf Tryz.prog 51 [(0,1),(1,1)] [.int .i64 0,.int .i64 0]:=jI (Tryz.prog.fieldsOf 51) rR rR rR
theorem ai51:yL Tryz.prog 51 2:=⟨by kernel_rfl,by kernel_rfl,by kernel_rfl,by kernel_rfl⟩
theorem sl86:rS Tryz.prog 86 39 1:=⟨by kernel_rfl,by kernel_rfl⟩
theorem sl87:rS Tryz.prog 87 166 1:=⟨by kernel_rfl,by kernel_rfl⟩
theorem agg89:uS Tryz.prog 89 2=true:=rR
theorem size89:(Tryz.prog.info? 89).map (·.size)=some 2:=rR
theorem zero89:ZeroOf Tryz.prog 89 [.bool false,.slice none 0 0]:=lO rR
theorem el89:ElemOf Tryz.prog 89 2 32 [.bool false,.slice none 0 0]:=kU rR rfl
theorem st89:StructOf Tryz.prog 89 [(0,1),(1,1)] [.bool false,.slice none 0 0]:=jI (Tryz.prog.fieldsOf 89) rR rR rR
theorem agg93:uS Tryz.prog 93 2=true:=rR
theorem size93:(Tryz.prog.info? 93).map (·.size)=some 2:=rR
theorem zero93:ZeroOf Tryz.prog 93 [.bool false,.slice none 0 0]:=lO rR
theorem el93:ElemOf Tryz.prog 93 2 32 [.bool false,.slice none 0 0]:=kU rR rfl
theorem st93:StructOf Tryz.prog 93 [(0,1),(1,1)] [.bool false,.slice none 0 0]:=jI (Tryz.prog.fieldsOf 93) rR rR rR
theorem sl122:rS Tryz.prog 122 26 4:=⟨by kernel_rfl,by kernel_rfl⟩
theorem st127:StructOf Tryz.prog 127 [(0,15)] [.int .i64 0,.int .i64 0,.slice none 0 0,.int .i64 0,.int .i64 0,.slice none 0 0,.slice none 0 0,.int .i64 0,.int .i64 0,.slice none 0 0,.slice none 0 0,.int .i64 0,.int .i64 0,.slice none 0 0,.slice none 0 0]:=jI (Tryz.prog.fieldsOf 127) rR rR rR
theorem st134:StructOf Tryz.prog 134 [(0,1),(1,1),(2,1)] [.int .i64 0,.int .i64 0,.slice none 0 0]:=jI (Tryz.prog.fieldsOf 134) rR rR rR
theorem u165:Tryz.prog.underlying 165=some (.int .u64):=rR
theorem one166:tZ Tryz.prog 166=true:=rR
theorem size166:(Tryz.prog.info? 166).map (·.size)=some 1:=rR
theorem el166:ElemOf Tryz.prog 166 1 4 [.int .u32 0]:=kU rR rfl
theorem u166:Tryz.prog.underlying 166=some (.int .u32):=rR
theorem sl199:rS Tryz.prog 199 203 5:=⟨by kernel_rfl,by kernel_rfl⟩
theorem agg203:uS Tryz.prog 203 5=true:=rR
theorem zero203:ZeroOf Tryz.prog 203 [.int .i64 0,.int .i64 0,.slice none 0 0,.slice none 0 0,.nilFunc]:=lO rR
theorem el203:ElemOf Tryz.prog 203 5 72 [.int .i64 0,.int .i64 0,.slice none 0 0,.slice none 0 0,.nilFunc]:=kU rR rfl
theorem st203:StructOf Tryz.prog 203 [(0,4),(4,1)] [.int .i64 0,.int .i64 0,.slice none 0 0,.slice none 0 0,.nilFunc]:=jI (Tryz.prog.fieldsOf 203) rR rR rR
theorem ar205:ArrayOf Tryz.prog 205 3 1 [.pointer none,.pointer none,.pointer none]:=ArrayOf.of 150 rR rR rR
theorem agg211:uS Tryz.prog 211 5=true:=rR
theorem zero211:ZeroOf Tryz.prog 211 [.int .i64 0,.int .i64 0,.int .i64 0,.int .i64 0,.int .i64 0]:=lO rR
theorem el211:ElemOf Tryz.prog 211 5 40 [.int .i64 0,.int .i64 0,.int .i64 0,.int .i64 0,.int .i64 0]:=kU rR rfl
theorem ai211:yL Tryz.prog 211 5:=⟨by kernel_rfl,by kernel_rfl,by kernel_rfl,by kernel_rfl⟩
theorem sl212:rS Tryz.prog 212 218 1:=⟨by kernel_rfl,by kernel_rfl⟩
theorem one218:tZ Tryz.prog 218=true:=rR
theorem size218:(Tryz.prog.info? 218).map (·.size)=some 1:=rR
theorem sl218:rS Tryz.prog 218 93 2:=⟨by kernel_rfl,by kernel_rfl⟩
theorem el218:ElemOf Tryz.prog 218 1 24 [.slice none 0 0]:=kU rR rfl
theorem st251:StructOf Tryz.prog 251 [(0,1),(1,1),(2,1)] [.int .i64 0,.int .i64 0,.slice none 0 0]:=jI (Tryz.prog.fieldsOf 251) rR rR rR
theorem agg352:uS Tryz.prog 352 5=true:=rR
theorem zero352:ZeroOf Tryz.prog 352 [.nilFunc,.nilFunc,.nilFunc,.nilFunc,.nilFunc]:=lO rR
theorem st352:StructOf Tryz.prog 352 [(0,1),(1,1),(2,1),(3,1),(4,1)] [.nilFunc,.nilFunc,.nilFunc,.nilFunc,.nilFunc]:=jI (Tryz.prog.fieldsOf 352) rR rR rR
theorem one361:tZ Tryz.prog 361=true:=rR
theorem fn18:uH Tryz.prog 18:=⟨Tryz.f18,Tryz.func18,rfl,by kernel_rfl⟩
theorem fn28:uH Tryz.prog 28:=⟨Tryz.f28,Tryz.func28,rfl,by kernel_rfl⟩
theorem fn42:uH Tryz.prog 42:=⟨Tryz.f42,Tryz.func42,rfl,by kernel_rfl⟩
theorem fn55:uH Tryz.prog 55:=⟨Tryz.f55,Tryz.func55,rfl,by kernel_rfl⟩
theorem fn65:uH Tryz.prog 65:=⟨Tryz.f65,Tryz.func65,rfl,by kernel_rfl⟩
theorem fn106:uH Tryz.prog 106:=⟨Tryz.f106,Tryz.func106,rfl,by kernel_rfl⟩
theorem fn127:uH Tryz.prog 127:=⟨Tryz.f127,Tryz.func127,rfl,by kernel_rfl⟩
theorem fn128:uH Tryz.prog 128:=⟨Tryz.f128,Tryz.func128,rfl,by kernel_rfl⟩
theorem fn139:uH Tryz.prog 139:=⟨Tryz.f139,Tryz.func139,rfl,by kernel_rfl⟩
theorem fn159:uH Tryz.prog 159:=⟨Tryz.f159,Tryz.func159,rfl,by kernel_rfl⟩
theorem fn166:uH Tryz.prog 166:=⟨Tryz.f166,Tryz.func166,rfl,by kernel_rfl⟩
theorem fn168:uH Tryz.prog 168:=⟨Tryz.f168,Tryz.func168,rfl,by kernel_rfl⟩
theorem fn170:uH Tryz.prog 170:=⟨Tryz.f170,Tryz.func170,rfl,by kernel_rfl⟩
theorem fn171:uH Tryz.prog 171:=⟨Tryz.f171,Tryz.func171,rfl,by kernel_rfl⟩
theorem fn252:uH Tryz.prog 252:=⟨Tryz.f252,Tryz.func252,rfl,by kernel_rfl⟩
theorem fn269:uH Tryz.prog 269:=⟨Tryz.f269,Tryz.func269,rfl,by kernel_rfl⟩
theorem fn293:uH Tryz.prog 293:=⟨Tryz.f293,Tryz.func293,rfl,by kernel_rfl⟩
theorem fn294:uH Tryz.prog 294:=⟨Tryz.f294,Tryz.func294,rfl,by kernel_rfl⟩
theorem fn296:uH Tryz.prog 296:=⟨Tryz.f296,Tryz.func296,rfl,by kernel_rfl⟩
theorem fn298:uH Tryz.prog 298:=⟨Tryz.f298,Tryz.func298,rfl,by kernel_rfl⟩
theorem fn299:uH Tryz.prog 299:=⟨Tryz.f299,Tryz.func299,rfl,by kernel_rfl⟩
theorem fn318:uH Tryz.prog 318:=⟨Tryz.f318,Tryz.func318,rfl,by kernel_rfl⟩
theorem fn335:uH Tryz.prog 335:=⟨Tryz.f335,Tryz.func335,rfl,by kernel_rfl⟩
theorem mixed:Tryz.prog.follows .mixedOrders=true:=rR
end Go.Proofs.YtngphgeghfdjbaaGreatDoor.T
namespace Go.Proofs.YtngphgeghfdjbaaGreatDoor
open Go Go.Sl
instance:Tab Tryz.prog where
 fn:=[16,17,25,26,27,42,43,48,52,55,56,57,58,59,65,69,70,74,75,76,77,78,79,96,97,98,99,100,105,106,109,110,112,113,114,115,116,120,122,123,124,125,126,127,128,129,130,131,132,133,134,135,136,137,138,150,151,153,156,158,159,160,163,164,165,166,167,169,172,173,174,175,176,177,178,179,180,184,198,202,203,204,205,206,207,208,209,210,211,212,213,214,215,216,217,218,219,220,221,222,226,247,248,249,250,251,253,254,255,256,257,290,291,292,295,297,300,316,317,318,319]
 fnP:=.of rR
 one:=[3,4,22,23,24,39,87,201,306,348,349,350]
 agg:=[(26,4),(28,15),(51,2),(89,2),(93,2),(203,5),(211,5),(352,5)]
 sl:=[22,23,24,39,86,87,122,199,212,218]
 fa:=[(26,0,0),(26,1,1),(26,2,2),(26,3,3),(28,0,0),(28,1,1),(28,2,2),(28,3,3),(28,4,7),(28,5,11),(51,0,0),(51,1,1),(89,0,0),(89,1,1),(93,0,0),(93,1,1),(127,0,0),(134,0,0),(134,1,1),(134,2,2),(203,0,0),(203,1,4),(211,0,0),(211,1,1),(211,2,2),(211,3,3),(211,4,4),(352,0,0),(352,1,1),(352,2,2),(352,3,3),(352,4,4)]
 oneP:=.of rR
 aggP:=.of rR
 slP:=.of rR
 faP:=⟨fun _ _ _=>by kernel_rfl,fun _ _ _=>by kernel_rfl,fun _ _ _=>by kernel_rfl,fun _ _ _=>by kernel_rfl,fun _ _ _=>by kernel_rfl,fun _ _ _=>by kernel_rfl,fun _ _ _=>by kernel_rfl,fun _ _ _=>by kernel_rfl,fun _ _ _=>by kernel_rfl,fun _ _ _=>by kernel_rfl,fun _ _ _=>by kernel_rfl,fun _ _ _=>by kernel_rfl,fun _ _ _=>by kernel_rfl,fun _ _ _=>by kernel_rfl,fun _ _ _=>by kernel_rfl,fun _ _ _=>by kernel_rfl,fun _ _ _=>by kernel_rfl,fun _ _ _=>by kernel_rfl,fun _ _ _=>by kernel_rfl,fun _ _ _=>by kernel_rfl,fun _ _ _=>by kernel_rfl,fun _ _ _=>by kernel_rfl,fun _ _ _=>by kernel_rfl,fun _ _ _=>by kernel_rfl,fun _ _ _=>by kernel_rfl,fun _ _ _=>by kernel_rfl,fun _ _ _=>by kernel_rfl,fun _ _ _=>by kernel_rfl,fun _ _ _=>by kernel_rfl,fun _ _ _=>by kernel_rfl,fun _ _ _=>by kernel_rfl,fun _ _ _=>by kernel_rfl,trivial⟩
end Go.Proofs.YtngphgeghfdjbaaGreatDoor
namespace Go.Proofs.YtngphgeghfdjbaaGreatDoor.T
open Go Go.Sl
theorem ar395:ArrayOf Tryz.prog 395 64 1 (List.replicate 64 (.int .u8 0)):=ArrayOf.of 5 rR rR rR
end Go.Proofs.YtngphgeghfdjbaaGreatDoor.T
namespace Go.Proofs.YtngphgeghfdjbaaGreatDoor
open Go Go.Sl
def Yn (c:Int):Int:=if c=2 then 1 else if c=4 then 2 else if c=8 then 3 else if c=16 then 4 else if c=32 then 5 else if c=64 then 6 else if c=128 then 7 else if c=256 then 8 else if c=512 then 9 else 0
def Vh:List Value:=[0,1,56,2,57,49,28,3,61,58,42,50,38,29,17,4,62,47,59,36,45,43,51,22,53,39,33,30,24,18,12,5,63,55,48,27,60,41,37,16,46,35,44,21,52,32,23,11,54,26,40,15,34,20,31,10,25,14,19,9,13,8,7,6].map fun n=>.int .u8 n
def TabOk (G:Imm):Prop:=∀ k v,Vh[k]?=some v→G.cell 1 k=some v
theorem TabOk.cell {G:Imm} (h:TabOk G) (k:Nat) (v:Value) (hv:Vh[k]?=some v):G.cell 1 k=some v:=h k v hv
theorem Yo {c:Int} (h:Yn c≠0):c=2∨c=4∨c=8∨c=16∨c=32∨c=64∨c=128∨c=256∨c=512:=by
 unfold Yn at h
 repeat' split at h
 all_goals omega
theorem SP (G:Imm) (hT:TabOk G) (c:Int) (h:Yn c≠0):Does Tryz.prog 269 [.int .u64 c] G [] (fun v G' Ho=>v=.int .i64 (Yn c)∧G'=G∧Ho=[]):=by
 refine D0 Tryz.func269 Tryz.ntmps269 fun w=>?_
 rcases Yo h with rfl | rfl | rfl | rfl | rfl | rfl | rfl | rfl | rfl
 · have hcell:=hT.cell 1 (.int .u8 1) rfl
   refine dN ?_
   refine cW rfl ?_
   refine aA 1 [] ?_
   refine eB ?_
   refine cB ?_
   refine dN ?_
   refine dN ?_
   refine cW rfl ?_
   refine aA 2 [] ?_
   refine eB ?_
   refine cB ?_
   refine nA rfl tU ?_
   refine lY ?_
   refine cB ?_
   refine dN ?_
   refine cW rfl ?_
   refine aA 2 [] ?_
   refine aN (mA rfl) ?_
   refine aN (lB rfl rfl) ?_
   refine aN (lA rfl rfl) ?_
   refine aN (nE rfl rfl rG) ?_
   refine jO 10 rfl (show _=Value.int .u64 1 by kernel_rfl) ?_
   refine aN (iE 1 T.ar395 rfl rfl rfl rfl) ?_
   refine aN (eS T.one5 rfl rH) ?_
   refine aN (jX rfl T.u3 rfl) ?_
   refine aA 1 [] ?_
   refine eB ?_
   refine cB ?_
   refine mR ?_
   refine bT ?_
   exact ⟨rfl,rfl,rfl⟩
 · have hcell:=hT.cell 3 (.int .u8 2) rfl
   refine dN ?_
   refine cW rfl ?_
   refine aA 1 [] ?_
   refine eB ?_
   refine cB ?_
   refine dN ?_
   refine dN ?_
   refine cW rfl ?_
   refine aA 2 [] ?_
   refine eB ?_
   refine cB ?_
   refine nA rfl tU ?_
   refine lY ?_
   refine cB ?_
   refine dN ?_
   refine cW rfl ?_
   refine aA 2 [] ?_
   refine aN (mA rfl) ?_
   refine aN (lB rfl rfl) ?_
   refine aN (lA rfl rfl) ?_
   refine aN (nE rfl rfl rG) ?_
   refine jO 10 rfl (show _=Value.int .u64 3 by kernel_rfl) ?_
   refine aN (iE 3 T.ar395 rfl rfl rfl rfl) ?_
   refine aN (eS T.one5 rfl rH) ?_
   refine aN (jX rfl T.u3 rfl) ?_
   refine aA 1 [] ?_
   refine eB ?_
   refine cB ?_
   refine mR ?_
   refine bT ?_
   exact ⟨rfl,rfl,rfl⟩
 · have hcell:=hT.cell 7 (.int .u8 3) rfl
   refine dN ?_
   refine cW rfl ?_
   refine aA 1 [] ?_
   refine eB ?_
   refine cB ?_
   refine dN ?_
   refine dN ?_
   refine cW rfl ?_
   refine aA 2 [] ?_
   refine eB ?_
   refine cB ?_
   refine nA rfl tU ?_
   refine lY ?_
   refine cB ?_
   refine dN ?_
   refine cW rfl ?_
   refine aA 2 [] ?_
   refine aN (mA rfl) ?_
   refine aN (lB rfl rfl) ?_
   refine aN (lA rfl rfl) ?_
   refine aN (nE rfl rfl rG) ?_
   refine jO 10 rfl (show _=Value.int .u64 7 by kernel_rfl) ?_
   refine aN (iE 7 T.ar395 rfl rfl rfl rfl) ?_
   refine aN (eS T.one5 rfl rH) ?_
   refine aN (jX rfl T.u3 rfl) ?_
   refine aA 1 [] ?_
   refine eB ?_
   refine cB ?_
   refine mR ?_
   refine bT ?_
   exact ⟨rfl,rfl,rfl⟩
 · have hcell:=hT.cell 15 (.int .u8 4) rfl
   refine dN ?_
   refine cW rfl ?_
   refine aA 1 [] ?_
   refine eB ?_
   refine cB ?_
   refine dN ?_
   refine dN ?_
   refine cW rfl ?_
   refine aA 2 [] ?_
   refine eB ?_
   refine cB ?_
   refine nA rfl tU ?_
   refine lY ?_
   refine cB ?_
   refine dN ?_
   refine cW rfl ?_
   refine aA 2 [] ?_
   refine aN (mA rfl) ?_
   refine aN (lB rfl rfl) ?_
   refine aN (lA rfl rfl) ?_
   refine aN (nE rfl rfl rG) ?_
   refine jO 10 rfl (show _=Value.int .u64 15 by kernel_rfl) ?_
   refine aN (iE 15 T.ar395 rfl rfl rfl rfl) ?_
   refine aN (eS T.one5 rfl rH) ?_
   refine aN (jX rfl T.u3 rfl) ?_
   refine aA 1 [] ?_
   refine eB ?_
   refine cB ?_
   refine mR ?_
   refine bT ?_
   exact ⟨rfl,rfl,rfl⟩
 · have hcell:=hT.cell 31 (.int .u8 5) rfl
   refine dN ?_
   refine cW rfl ?_
   refine aA 1 [] ?_
   refine eB ?_
   refine cB ?_
   refine dN ?_
   refine dN ?_
   refine cW rfl ?_
   refine aA 2 [] ?_
   refine eB ?_
   refine cB ?_
   refine nA rfl tU ?_
   refine lY ?_
   refine cB ?_
   refine dN ?_
   refine cW rfl ?_
   refine aA 2 [] ?_
   refine aN (mA rfl) ?_
   refine aN (lB rfl rfl) ?_
   refine aN (lA rfl rfl) ?_
   refine aN (nE rfl rfl rG) ?_
   refine jO 10 rfl (show _=Value.int .u64 31 by kernel_rfl) ?_
   refine aN (iE 31 T.ar395 rfl rfl rfl rfl) ?_
   refine aN (eS T.one5 rfl rH) ?_
   refine aN (jX rfl T.u3 rfl) ?_
   refine aA 1 [] ?_
   refine eB ?_
   refine cB ?_
   refine mR ?_
   refine bT ?_
   exact ⟨rfl,rfl,rfl⟩
 · have hcell:=hT.cell 63 (.int .u8 6) rfl
   refine dN ?_
   refine cW rfl ?_
   refine aA 1 [] ?_
   refine eB ?_
   refine cB ?_
   refine dN ?_
   refine dN ?_
   refine cW rfl ?_
   refine aA 2 [] ?_
   refine eB ?_
   refine cB ?_
   refine nA rfl tU ?_
   refine lY ?_
   refine cB ?_
   refine dN ?_
   refine cW rfl ?_
   refine aA 2 [] ?_
   refine aN (mA rfl) ?_
   refine aN (lB rfl rfl) ?_
   refine aN (lA rfl rfl) ?_
   refine aN (nE rfl rfl rG) ?_
   refine jO 10 rfl (show _=Value.int .u64 63 by kernel_rfl) ?_
   refine aN (iE 63 T.ar395 rfl rfl rfl rfl) ?_
   refine aN (eS T.one5 rfl rH) ?_
   refine aN (jX rfl T.u3 rfl) ?_
   refine aA 1 [] ?_
   refine eB ?_
   refine cB ?_
   refine mR ?_
   refine bT ?_
   exact ⟨rfl,rfl,rfl⟩
 · have hcell:=hT.cell 62 (.int .u8 7) rfl
   refine dN ?_
   refine cW rfl ?_
   refine aA 1 [] ?_
   refine eB ?_
   refine cB ?_
   refine dN ?_
   refine dN ?_
   refine cW rfl ?_
   refine aA 2 [] ?_
   refine eB ?_
   refine cB ?_
   refine nA rfl tU ?_
   refine lY ?_
   refine cB ?_
   refine dN ?_
   refine cW rfl ?_
   refine aA 2 [] ?_
   refine aN (mA rfl) ?_
   refine aN (lB rfl rfl) ?_
   refine aN (lA rfl rfl) ?_
   refine aN (nE rfl rfl rG) ?_
   refine jO 10 rfl (show _=Value.int .u64 62 by kernel_rfl) ?_
   refine aN (iE 62 T.ar395 rfl rfl rfl rfl) ?_
   refine aN (eS T.one5 rfl rH) ?_
   refine aN (jX rfl T.u3 rfl) ?_
   refine aA 1 [] ?_
   refine eB ?_
   refine cB ?_
   refine mR ?_
   refine bT ?_
   exact ⟨rfl,rfl,rfl⟩
 · have hcell:=hT.cell 61 (.int .u8 8) rfl
   refine dN ?_
   refine cW rfl ?_
   refine aA 1 [] ?_
   refine eB ?_
   refine cB ?_
   refine dN ?_
   refine dN ?_
   refine cW rfl ?_
   refine aA 2 [] ?_
   refine eB ?_
   refine cB ?_
   refine nA rfl tU ?_
   refine lY ?_
   refine cB ?_
   refine dN ?_
   refine cW rfl ?_
   refine aA 2 [] ?_
   refine aN (mA rfl) ?_
   refine aN (lB rfl rfl) ?_
   refine aN (lA rfl rfl) ?_
   refine aN (nE rfl rfl rG) ?_
   refine jO 10 rfl (show _=Value.int .u64 61 by kernel_rfl) ?_
   refine aN (iE 61 T.ar395 rfl rfl rfl rfl) ?_
   refine aN (eS T.one5 rfl rH) ?_
   refine aN (jX rfl T.u3 rfl) ?_
   refine aA 1 [] ?_
   refine eB ?_
   refine cB ?_
   refine mR ?_
   refine bT ?_
   exact ⟨rfl,rfl,rfl⟩
 have hcell:=hT.cell 59 (.int .u8 9) rfl
 refine dN ?_
 refine cW rfl ?_
 refine aA 1 [] ?_
 refine eB ?_
 refine cB ?_
 refine dN ?_
 refine dN ?_
 refine cW rfl ?_
 refine aA 2 [] ?_
 refine eB ?_
 refine cB ?_
 refine nA rfl tU ?_
 refine lY ?_
 refine cB ?_
 refine dN ?_
 refine cW rfl ?_
 refine aA 2 [] ?_
 refine aN (mA rfl) ?_
 refine aN (lB rfl rfl) ?_
 refine aN (lA rfl rfl) ?_
 refine aN (nE rfl rfl rG) ?_
 refine jO 10 rfl (show _=Value.int .u64 59 by kernel_rfl) ?_
 refine aN (iE 59 T.ar395 rfl rfl rfl rfl) ?_
 refine aN (eS T.one5 rfl rH) ?_
 refine aN (jX rfl T.u3 rfl) ?_
 refine aA 1 [] ?_
 refine eB ?_
 refine cB ?_
 refine mR ?_
 refine bT ?_
 exact ⟨rfl,rfl,rfl⟩
end Go.Proofs.YtngphgeghfdjbaaGreatDoor
namespace Go.Sl
open Go Go.ChangeShapes Go.WideShapes Go.RowKit
def vN (W:World):Imm:=fun b=>W.heap[b]?
theorem OG (W:World):HoldH [] (vN W) W:=
 ⟨fun t b o h=>by simp [Hp.get] at h,fun t t' b o o' h=>by simp [Hp.get] at h,fun b o h=>h,fun t b o h=>by simp [Hp.get] at h⟩
theorem Yp {W W':World} (h:Upd (Hp.has []) W W'):Go.RowKit.Below W.heap.size W W':=
 ⟨h.os,h.tape,h.output,h.size,fun k hk=>h.same k hk (fun ⟨t,o,hx⟩=>by simp [Hp.get] at hx)⟩
section
variable {H:Type} {enc:TypeId×Value→H} {P:Program}
theorem Am (hl:laidOutB P=true) {W W':World} {sp':Nat→Bool}:∀ {ts:List TypeId} {vs:List Value} {ds:List (DataW H)} {ps:List MemPlace},(ts.all fun t=>P.readableRec t && decide (t<P.types.size))=true→
 DataW.TrodAll enc P W 0 (fun _=>true) true ts vs ds ps→(∀ p∈ps,W.sameAt W' p)→(∀ p∈ps,sp' p.block=true)→DataW.TrodAll enc P W' 0 sp' true ts vs ds ps
 | [],_,_,_,_,h,_,_=>by
   obtain ⟨rfl,rfl,rfl⟩:=trodAll_nil h
   exact trodAll_mk0
 | t :: ts,_,_,_,hr,h,hs,hp=>by
   obtain ⟨v,vs,d,ds,p,q,rfl,rfl,rfl,h1,h2⟩:=trodAll_cons h
   simp only [iZ,aB,aQ] at hr
   exact ⟨p,q,WideElems.Trod_stays hl hr.1.1 hr.1.2 h1 (fun x hx=>hs x (by simp [hx])) (fun x hx=>hp x (by simp [hx])),
    Am hl hr.2 h2 (fun x hx=>hs x (by simp [hx])) (fun x hx=>hp x (by simp [hx])),rfl⟩
theorem Ff {w:World} {base:Nat} {sp:Nat→Bool} {hd:Bool}:∀ {ts:List TypeId} {vs:List Value} {ds:List (DataW H)} {ps:List MemPlace},DataW.TrodAll enc P w base sp hd ts vs ds ps→ds.length=ts.length
 | [],_,_,_,h=>by obtain ⟨rfl,rfl,rfl⟩:=trodAll_nil h;rfl
 | t :: ts,_,_,_,h=>by
   obtain ⟨v,vs,d,ds,p,q,rfl,rfl,rfl,h1,h2⟩:=trodAll_cons h
   simp [Ff h2]
theorem Yq {f:Func} {n:FuncId} {s:ChangeSpec} {tb:TypeId} {apart fresh handsOn again:Bool} (hl:laidOutB P=true) (hr:(f.params.toList.all fun t=>P.readableRec t && decide (t<P.types.size))=true) (hres:f.resultTypes=#[tb]) (hb:P.underlying tb=some .bool)
 (hv:s.vars=[]) (hs:∀ ds:List (DataW H),ds.length=f.params.toList.length→s.fn H ds={ results:=[.lit (.bool true)],args:=ds }) {W:World} {args:Array Value} {ds gs:List (DataW H)} {before:List MemPlace}
 (hW:DataW.Whole enc P f.params.toList s.vars apart W args.toList ds gs before) (hd:Does P n args.toList (vN W) [] (fun v _ _=>v=.bool true)) :
 Calls P n args W fun e W'=>∃ v,e=.returned v∧s.post enc P f apart fresh handsOn again W args v W':=by
 refine (hd W (OG W)).mono fun e W' ⟨v,G',Ho,he,q1,q2,q3,q4,q5,hvv⟩=>⟨v,he,?_⟩
 subst hvv
 have hbel:=Yp q3
 have hW':=hW
 have hlt:=hW.lt
 obtain ⟨p,q,hA,hV,rfl,hz,hn⟩:=hW
 rw [hv] at hV
 obtain ⟨rfl,rfl⟩:=trodVars_none hV
 simp only [fN] at hW' hlt hz hn
 have hlen:=Ff hA
 have hspec:=hs ds hlen
 have hres':∀ (b:Nat) (sp:Nat→Bool) (hd:Bool),DataW.TrodAll enc P W' b sp hd f.resultTypes.toList ((Value.bool true).resultList f.resultTypes.size) (s.fn H (ds++[])).results []:=fun b sp hd=>by
  rw [fN,hspec,hres]
  exact ⟨[],[],shut_bool hb _,trodAll_mk0,rfl⟩
 have hargs:∀ sp:Nat→Bool,(∀ x∈p,sp x.block=true)→DataW.TrodAll enc P W' 0 sp true f.params.toList args.toList (s.fn H (ds++[])).args p:=fun sp hsp=>by
  rw [fN,hspec]
  exact Am hl hr hA (fun x hx=>hbel.same (hlt x hx)) hsp
 have hvars:∀ sp:Nat→Bool,DataW.TrodVars enc P W' sp s.vars (s.fn H (ds++[])).vars []:=fun sp=>by
  rw [fN,hspec,hv];exact rfl
 have hold:∀ x∈p,(fun b=>decide (b<W.heap.size)) x.block=true:=fun x hx=>by simpa using hlt x hx
 refine ⟨ds,[],p,[],p,[],by simpa using hW',hres' _ _ _,hargs _ hold,hvars _,World.keptBut_mono (fun x hx=>⟨hx,.inr (by simpa using hx)⟩) (hbel.frame _),fun _=>?_⟩
 refine ⟨ok_one hres rfl (okWide_bool_mk hb _),_,_,([]++p)++[],⟨[]++p,[],trodAll_append (hargs _ (fun _ _=>rfl)) (hres' _ _ _),hvars _,rfl,?_,?_⟩,?_⟩
 · intro b off hp
   have hp':MemPlace.cell b off∈p:=by simpa using hp
   rw [hbel.frozen (by exact hlt _ hp')]
   exact hz b off hp'
 · intro ha
   simpa using hn ha
 intro x hx _
 simpa using hx
end
theorem If {W:World} {b o:Nat} {v:Value} (h:W.cell? ⟨b,o,none⟩=some v):(vN W).cell b o=some v:=by
 unfold World.cell? at h
 unfold Imm.cell vN
 split at h
 · rename_i c t fz hb
   rw [show W.heap[b]?=some (.cells c t fz) from hb]
   exact h
 cases h
theorem Lw {W:World} {a:Addr} {v:Value} (h:W.cell? a=some v):a.spot=none:=by
 unfold World.cell? at h
 split at h
 · cases hs:a.spot with
   | none=>rfl
   | some x=>simp [hs] at h
 cases h
theorem CD {a:Addr} {i:Nat} (h:(a.add i).spot=none) (ha:i=0∨True):a.add i=⟨a.block,a.off+i,none⟩:=by
 unfold Addr.add at h ⊢
 split
 · rename_i h0
   subst h0
   rw [aR rfl] at h
   cases a
   simp_all
 rfl
section
variable {H:Type} {enc:TypeId×Value→H} {P:Program} {α:Type} [Cells α] [Inhabited α]
def RY (enc:TypeId×Value→H) (P:Program) (W:World) (E:TypeId) (Good:α→DataW H→Prop):Prop:=
 ∀ (n:Nat) (cs:List Value) (x:DataW H×List MemPlace),DataW.trod enc P W 0 (fun _=>true) true n E cs=some x→∃ y:α,cs=Cells.enc y∧Good y x.1
theorem Nt {W:World} {b o:Nat} {xs:List α} (h:∀ i,i<xs.length→∀ j,j<Cells.sz α→W.cell? ⟨b,o+(i*Cells.sz α+j),none⟩=(Cells.enc (xs[i]?.getD default))[j]?) (h0:0<Cells.sz α):(vN W).row b o (rX xs):=by
 intro q v hq
 have hlt:q<(rX xs).length:=(aV.1 hq).1
 rw [rT] at hlt
 have h1:q=(q / Cells.sz α)*Cells.sz α+q % Cells.sz α:=by rw [oZ];exact (gZ q _).symm
 have h2:q % Cells.sz α<Cells.sz α:=nR _ h0
 have h3:q / Cells.sz α<xs.length:=(Nat.div_lt_iff_lt_mul h0).2 hlt
 have h4:=zC xs _ _ h3 h2
 rw [←h1,hq] at h4
 have h5:=h _ h3 _ h2
 rw [←h1,←h4] at h5
 exact If h5
theorem Ig {W:World} {T E:TypeId} {Good:α→DataW H→Prop} {fuel:Nat} {cs:List Value} {x:DataW H×List MemPlace} (ht:P.underlying T=some (.slice E)) (hsz:P.cellsOf E=Cells.sz α) (h0:0<Cells.sz α)
 (dec:RY (α:=α) enc P W E Good) (h:DataW.trod enc P W 0 (fun _=>true) true fuel T cs=some x) :
 ∃ (a:Option Addr) (cap:Nat) (xs:List α),cs=[.slice a xs.length cap]∧Arr (vN W) a xs∧xs.length≤cap∧
  ((x.1=.nil∧xs=[])∨∃ l r,x.1=.slice l r∧l.length=xs.length∧∀ i,i<xs.length→∃ d,l[i]?=some d∧Good (xs[i]?.getD default) d):=by
 rcases Deep.open_slice ht h with ⟨rfl,rfl⟩ | ⟨a,len,cap,m,n,D,Pl,rfl,hb,hlc,hm,hmm,rfl,hx⟩
 · exact ⟨none,0,[],rfl,oK _,aH _,.inl ⟨rfl,rfl⟩⟩
 have hml:m=cap:=by rw [hmm];simp
 have hel:∀ i,i<len→∃ y:α,W.cells? 0 (a.add (i*Cells.sz α)) (Cells.sz α)=some (Cells.enc y)∧Good y (D i):=fun i hi=>by
  obtain ⟨cs',h1,h2⟩:=hx i rG
  obtain ⟨y,rfl,hg⟩:=dec _ _ _ h2
  rw [hsz] at h1
  exact ⟨y,h1,hg⟩
 obtain ⟨Y,hY⟩:=Deep.choose_lt hel
 have hlen:((List.range len).map Y).length=len:=sI
 have hget:∀ i,i<len→((List.range len).map Y)[i]?.getD default=Y i:=fun i hi=>by simp [hi]
 refine ⟨some a,cap,(List.range len).map Y,by rw [hlen],⟨rT _,?_⟩,by rw [hlen];exact hlc,.inr ⟨_,_,rfl,by simp,fun i hi=>?_⟩⟩
 · rw [hlen]
   rcases eQ len with h00 | hpos
   · exact .inl h00
   refine .inr ⟨a.block,a.off,?_,?_⟩
   · have h1:=(World.cells?_some (hY 0 hpos).1).2.2 0 h0
     rw [nJ] at h1
     have h2:∃ v,(Cells.enc (Y 0))[0]?=some v:=⟨_,aC (by rw [Cells.len];exact h0)⟩
     obtain ⟨v,hv⟩:=h2
     rw [hv] at h1
     have h3:=Lw h1
     cases a
     simp only [Addr.add] at h3
     simp_all
   refine Nt (fun i hi j hj=>?_) h0
   rw [hlen] at hi
   rw [hget i hi]
   have h1:=(World.cells?_some (hY i hi).1).2.2 j hj
   have h2:∃ v,(Cells.enc (Y i))[j]?=some v:=⟨_,aC (by rw [Cells.len];exact hj)⟩
   obtain ⟨v,hv⟩:=h2
   rw [hv] at h1 ⊢
   rw [Deep.add_add] at h1
   have h3:=Lw h1
   rw [CD h3 (.inr trivial)] at h1
   exact h1
 rw [hlen] at hi
 rw [hget i hi]
 exact ⟨D i,by simp [hi],(hY i hi).2⟩
theorem IF {W:World} {E:TypeId} (he:P.underlying E=some (.int .i64)):RY (α:=Int) enc P W E (fun y d=>d=.lit (.int .i64 y)∧(Lit.int .i64 y).wf=true):=fun n cs x h=>by
 obtain ⟨k,rfl,rfl,hw⟩:=fX he h
 exact ⟨k,rfl,rfl,hw⟩
theorem Yr {W:World} {E Ti:TypeId} {f0 f1 f2 f3 f4:Field} (hi:P.underlying Ti=some (.int .i64)) (hs:P.underlying E=some (.struct #[f0,f1,f2,f3,f4]))
 (h0:f0.type=Ti∧f0.offset=0) (h1:f1.type=Ti∧f1.offset=1) (h2:f2.type=Ti∧f2.offset=2) (h3:f3.type=Ti∧f3.offset=3) (h4:f4.type=Ti∧f4.offset=4) (hc:P.cellsOf Ti=1) (hcE:P.cellsOf E=5) :
 RY (α:=Instr) enc P W E (fun _ _=>True):=fun n cs x h=>by
 obtain ⟨xs,m,_,_,hl,hxl,hf⟩:=oJ hs h
 rw [hcE] at hl
 match cs,hl with
 | [v0,v1,v2,v3,v4],_ =>
   have hxl':xs.length=5:=hxl
   match xs,hxl' with
   | [y0,y1,y2,y3,y4],_ =>
     have k0:=hf 0 f0 rfl;have k1:=hf 1 f1 rfl;have k2:=hf 2 f2 rfl;have k3:=hf 3 f3 rfl;have k4:=hf 4 f4 rfl
     rw [h0.1,h0.2,hc] at k0;rw [h1.1,h1.2,hc] at k1;rw [h2.1,h2.2,hc] at k2;rw [h3.1,h3.2,hc] at k3;rw [h4.1,h4.2,hc] at k4
     obtain ⟨a0,e0,_,_⟩:=fX hi k0
     obtain ⟨a1,e1,_,_⟩:=fX hi k1
     obtain ⟨a2,e2,_,_⟩:=fX hi k2
     obtain ⟨a3,e3,_,_⟩:=fX hi k3
     obtain ⟨a4,e4,_,_⟩:=fX hi k4
     simp at e0 e1 e2 e3 e4
     exact ⟨⟨a0,a1,a2,a3,a4⟩,by rw [e0,e1,e2,e3,e4];rfl,trivial⟩
end
end Go.Sl
namespace Go.Proofs.YtngphgeghfdjbaaGreatDoor
open Go Go.Sl Go.ChangeShapes Go.WideShapes Go.RowKit Go.Joins
abbrev KS : List (String × DataW Unit) := [("math/bits.deBruijn32tab", Rows.laid_math_bits_deBruijn32tab), ("math/bits.deBruijn64tab", Rows.laid_math_bits_deBruijn64tab), ("unicode/utf8.acceptRanges", Rows.laid_unicode_utf8_acceptRanges), ("unicode/utf8.first", Rows.laid_unicode_utf8_first)]
def CE:List Int:=[0,1,56,2,57,49,28,3,61,58,42,50,38,29,17,4,62,47,59,36,45,43,51,22,53,39,33,30,24,18,12,5,63,55,48,27,60,41,37,16,46,35,44,21,52,32,23,11,54,26,40,15,34,20,31,10,25,14,19,9,13,8,7,6]
theorem SQ:Tryz.prog.underlying 4=some .bool:=rR
theorem Vi:laidOutB Tryz.prog=true:=rR
theorem own:ownKnob Tryz.prog.godebug=none:=rR
theorem OH : Tryz.prog.globalNamed "math/bits.deBruijn64tab" = some 1 := by kernel_rfl
theorem CF:(Tryz.prog.globals[1]?).map (·.type)=some 395:=rR
theorem LU:Tryz.prog.underlying 395=some (.array 64 5):=rR
theorem SR:Tryz.prog.underlying 5=some (.int .u8):=rR
theorem CG:Tryz.prog.cellsOf 395=64:=rR
theorem LV:Tryz.prog.cellsOf 5=1:=rR
theorem OI {W : World} (h : laidMetH Tryz.prog KS W) : Lib.TabIs Tryz.prog W "math/bits.deBruijn64tab" .u8 CE := by
 have h1 := h.filter (fun x => x.1 == "math/bits.deBruijn64tab")
 have e : KS.filter (fun x => x.1 == "math/bits.deBruijn64tab") = [("math/bits.deBruijn64tab", Rows.laid_math_bits_deBruijn64tab)] := by kernel_rfl
 rw [e] at h1
 exact Lib.tabIs_of_head (rest:=[]) OH CF LU SR LV CG h1
theorem LW {W:World} (h:laidMetH Tryz.prog KS W):TabOk (vN W):=fun k v hv=>by
 have hk:k<CE.length:=by
  have:=(aV.1 hv).1
  simpa [Vh,CE] using this
 have h1:=(OI h).cell OH k hk
 have h2:=If h1
 rw [h2]
 have e:Vh=CE.map fun n=>.int .u8 n:=rfl
 rw [e,cF,aC hk] at hv
 rw [←hv,List.getD_eq_getElem?_getD,aC hk];rfl
def Nu (cs:Array Value):Obj→Obj
 | .cells _ t frozen=>.cells cs t frozen
 | o=>o
def Dz (os:Os):World:=
 { World.holding Tryz.prog os ⟨#[],#[],[]⟩ with heap:=((((World.holding Tryz.prog os ⟨#[],#[],[]⟩).heap.modify 0 (Nu #[.int .u8 0,.int .u8 1,.int .u8 28,.int .u8 2,.int .u8 29,.int .u8 14,.int .u8 24,.int .u8 3,.int .u8 30,.int .u8 22,.int .u8 20,.int .u8 15,.int .u8 25,.int .u8 17,.int .u8 4,.int .u8 8,.int .u8 31,.int .u8 27,.int .u8 13,.int .u8 23,.int .u8 21,.int .u8 19,.int .u8 16,.int .u8 7,.int .u8 26,.int .u8 12,.int .u8 18,.int .u8 6,.int .u8 11,.int .u8 5,.int .u8 10,.int .u8 9])).modify 1 (Nu Vh.toArray)).modify 2 (Nu (Go.Pinned.utf8FirstZ.map fun (n:Nat)=>Value.int .u8 (n:Int)).toArray)).modify 3 (Nu #[.int .u8 128,.int .u8 191,.int .u8 160,.int .u8 191,.int .u8 128,.int .u8 159,.int .u8 144,.int .u8 191,.int .u8 128,.int .u8 143,.int .u8 0,.int .u8 0,.int .u8 0,.int .u8 0,.int .u8 0,.int .u8 0,.int .u8 0,.int .u8 0,.int .u8 0,.int .u8 0,.int .u8 0,.int .u8 0,.int .u8 0,.int .u8 0,.int .u8 0,.int .u8 0,.int .u8 0,.int .u8 0,.int .u8 0,.int .u8 0,.int .u8 0,.int .u8 0]) }
end Go.Proofs.YtngphgeghfdjbaaGreatDoor
namespace Go.Sl
open Go
def Lims (l:List U32):Prop:=∀ d∈l,0≤d.v∧d.v<4294967296
def rI:List U32→Int
 | []=>0
 | d :: l=>d.v+4294967296*rI l
def pb (n:Nat):Int:=((4294967296 ^ n:Nat):Int)
theorem Gl:pb 0=1:=rfl
theorem uV (n:Nat):pb (n+1)=4294967296*pb n:=by unfold pb;rw [nK,oZ,eW];rfl
theorem vG (n:Nat):0<pb n:=by unfold pb;exact Int.ofNat_lt.2 (oB rW)
theorem Te (m n:Nat):pb (m+n)=pb m*pb n:=by unfold pb;rw [lT,eW]
theorem Lx {m n:Nat} (h:m≤n):pb m≤pb n:=by unfold pb;exact pA.2 (fK rW h)
theorem sH:rI []=0:=rfl
theorem sX (d:U32) (l:List U32):rI (d :: l)=d.v+4294967296*rI l:=rfl
theorem Lims.nil:Lims []:=fun d h=>by simp at h
theorem Lims.tail {d:U32} {l:List U32} (h:Lims (d :: l)):Lims l:=fun x hx=>h x (bB _ hx)
theorem Lims.head {d:U32} {l:List U32} (h:Lims (d :: l)):0≤d.v∧d.v<4294967296:=h d bL
theorem Lims.append {l m:List U32} (h:Lims l) (h':Lims m):Lims (l++m):=fun x hx=>by
 rcases eV.1 hx with h1 | h1
 · exact h x h1
 exact h' x h1
theorem Lims.one {d:Int} (h:0≤d∧d<4294967296):Lims [⟨d⟩]:=fun x hx=>by
 have:x=⟨d⟩:=by simpa using hx
 subst this;exact h
theorem Lims.take {l:List U32} (h:Lims l) (n:Nat):Lims (l.take n):=fun x hx=>h x (List.mem_of_mem_take hx)
theorem Lims.at {l:List U32} (h:Lims l) {m:Int} (hm:0≤m∧m<l.length):0≤(l[m.toNat]?.getD default).v∧(l[m.toNat]?.getD default).v<4294967296:=by
 have hl:m.toNat<l.length:=rG
 rw [aC hl];exact h _ (dA hl)
theorem sD:∀ {l:List U32},Lims l→0≤rI l
 | [],_=>Int.le_refl 0
 | d :: l,h=>by
   have h1:=sD h.tail
   have h2:=h.head
   rw [sX];omega
theorem tY:∀ {l:List U32},Lims l→rI l<pb l.length
 | [],_=>rW
 | d :: l,h=>by
   have h1:=tY h.tail
   have h2:=h.head
   rw [sX,bV,uV];omega
theorem sW:∀ (l m:List U32),rI (l++m)=rI l+pb l.length*rI m
 | [],m=>by rw [fM,sH,cT,Gl];omega
 | d :: l,m=>by
   rw [rE,sX,sX,sW l m,bV,uV,bI,←bM];omega
theorem zH (d:U32):rI [d]=d.v:=by rw [sX,sH];omega
theorem Ys (l:List U32) (d:U32):rI (l++[d])=rI l+pb l.length*d.v:=by rw [sW,zH]
theorem zI {l:List U32} {k:Nat} (h:k<l.length):rI (l.take (k+1))=rI (l.take k)+pb k*(l[((k:Nat):Int).toNat]?.getD default).v:=by
 rw [eG,aF,aC h]
 simp only [Option.toList_some,gN]
 rw [Ys,bC,cS (Nat.le_of_lt h)]
theorem xC (n:Nat):rI (List.replicate n ⟨0⟩)=0:=by
 induction n with
 | zero=>rfl
 | succ n ih=>rw [nF,sX,ih];rfl
theorem Tf (n:Nat):Lims (List.replicate n ⟨0⟩):=fun x hx=>by
 have:=iY hx
 subst this;exact ⟨by decide,by decide⟩
abbrev mU:=@Tf
theorem Yt {l:List U32} {n:Nat} (h:∀ j,n≤j→j<l.length→(l[j]?.getD default).v=0):rI (l.take n)=rI l:=by
 rcases aJ n l.length with hn | hn
 · have e:l=l.take n++l.drop n:=(cU n l).symm
   have hz:∀ (m:List U32),(∀ j,j<m.length→(m[j]?.getD default).v=0)→rI m=0:=by
    intro m
    induction m with
    | nil=>intro _;rfl
    | cons d m ih =>
      intro h0
      have h1:=h0 0 sI
      simp only [oR,gN] at h1
      rw [sX,h1,ih fun j hj=>by have:=h0 (j+1) (by simpa using hj);simpa using this];rfl
   have h2:rI (l.drop n)=0:=hz _ fun j hj=>by
    rw [eR]
    exact h (n+j) rG (by rw [dM] at hj;omega)
   have h3:rI l=rI (l.take n++l.drop n):=by rw [cU]
   rw [h3,sW,h2];omega
 rw [rQ hn]
theorem Gn {l:List U32} (hd:Lims l) (ht:Top l) (h0:l≠[]):pb (l.length - 1)≤rI l:=by
 have hl:0<l.length:=nG.2 h0
 have h1:(l[l.length - 1]?.getD default).v≠0:=by
  rcases ht with h | h
  · exact absurd h h0
  exact h
 have h2:=zI (l:=l) (k:=l.length - 1) rG
 rw [lI hl,rQ (aH _),aF] at h2
 have h3:=sD (hd.take (l.length - 1))
 have h4:(1:Int)≤(l[l.length - 1]?.getD default).v:=by
  have:=hd.at (m:=((l.length - 1:Nat):Int)) rG
  rw [aF] at this
  omega
 have h5:=aW h4 (bK (vG (l.length - 1)))
 omega
theorem Pz {l:List U32} (hd:Lims l) (ht:Top l) {m:Nat} (h:rI l<pb m):l.length≤m:=by
 by_cases h0:l=[]
 · subst h0;exact aT _
 have h1:=Gn hd ht h0
 rcases aJ m l.length with h2 | h2
 · have h3:=Lx (show m≤l.length - 1 by omega)
   omega
 exact h2
theorem Ih {l:List U32} (hd:Lims l) (ht:Top l) (h0:l≠[]):0<rI l:=iL (vG _) (Gn hd ht h0)
theorem wG {l m:List U32} (hl:Lims l) (hm:Lims m) (tm:Top m) (h:l.length<m.length):rI l<rI m:=by
 have h1:=tY hl
 have h2:=Gn hm tm (fun e=>by rw [e] at h;simp at h)
 have h3:=Lx (show l.length≤m.length - 1 by omega)
 omega
structure IsBig (neg:Bool) (l:List U32) (z:Int):Prop where
 digs:Lims l
 top:Top l
 sign:l=[]→neg=false
 val:z=if neg=true then -rI l else rI l
theorem IsBig.abs {neg:Bool} {l:List U32} {z:Int} (h:IsBig neg l z):rI l=z.natAbs:=by
 have h1:=sD h.digs
 have h2:=h.val
 split at h2 <;> omega
theorem IsBig.neg_iff {neg:Bool} {l:List U32} {z:Int} (h:IsBig neg l z):neg=decide (z<0):=by
 have h2:=h.val
 by_cases h0:l=[]
 · have h3:=h.sign h0
   subst h0
   rw [h3] at h2 ⊢
   rw [sH] at h2
   have:¬z<0:=by simp at h2;omega
   simp [this]
 have h1:=Ih h.digs h.top h0
 cases neg with
 | true =>
   rw [aR rfl] at h2
   have:z<0:=rG
   simp [this]
 | false =>
   rw [aK (by decide)] at h2
   have:¬z<0:=rG
   simp [this]
theorem IsBig.zero_iff {neg:Bool} {l:List U32} {z:Int} (h:IsBig neg l z):l.length=0↔z=0:=by
 have h2:=h.val
 constructor
 · intro h0
   have h0:=bW h0
   subst h0
   rw [sH] at h2
   split at h2 <;> omega
 intro hz
 by_cases h0:l=[]
 · rw [h0];rfl
 have h1:=Ih h.digs h.top h0
 split at h2 <;> omega
theorem IsBig.len {neg:Bool} {l:List U32} {z:Int} (h:IsBig neg l z) {m:Nat} (hz:(z.natAbs:Int)<pb m):l.length≤m:=by
 refine Pz h.digs h.top ?_
 rw [h.abs];exact hz
def Big (G:Imm) (x:IV) (z:Int):Prop:=∃ l:List U32,l.length=x.n∧x.n≤x.c∧Arr G x.a l∧IsBig x.neg l z
theorem Big.up {G G':Imm} {x:IV} {z:Int} (h:Big G x z) (hl:G.le G'):Big G' x z:=by
 obtain ⟨l,h1,h0,h2,h3⟩:=h
 exact ⟨l,h1,h0,h2.up hl,h3⟩
theorem Big.zero (G:Imm):Big G ⟨false,none,0,0⟩ 0:=⟨[],rfl,aH _,oK G,⟨Lims.nil,Top.nil,fun _=>rfl,rfl⟩⟩
theorem bits_and_u64_nat (a b:Nat) (ha:a<18446744073709551616) (hb:b<18446744073709551616):bits .and .u64 (a:Int) (b:Int)=((a &&& b:Nat):Int):=by
 have hx:a &&& b<2 ^ 64:=Nat.and_lt_two_pow _ rG
 have h1:(BitVec.ofInt 64 (a:Int)).toNat=a:=by
  rw [gF,gS];exact gD rG
 have h2:(BitVec.ofInt 64 (b:Int)).toNat=b:=by
  rw [gF,gS];exact gD rG
 show IntKind.u64.wrap ((BitVec.ofInt 64 (a:Int) &&& BitVec.ofInt 64 (b:Int)).toNat:Int)=_
 rw [BitVec.toNat_and,h1,h2,mW]
 omega
theorem bits_or_u64_nat (a b:Nat) (ha:a<18446744073709551616) (hb:b<18446744073709551616):bits .or .u64 (a:Int) (b:Int)=((a ||| b:Nat):Int):=by
 have hx:a ||| b<2 ^ 64:=Nat.or_lt_two_pow rG rG
 have h1:(BitVec.ofInt 64 (a:Int)).toNat=a:=by
  rw [gF,gS];exact gD rG
 have h2:(BitVec.ofInt 64 (b:Int)).toNat=b:=by
  rw [gF,gS];exact gD rG
 show IntKind.u64.wrap ((BitVec.ofInt 64 (a:Int) ||| BitVec.ofInt 64 (b:Int)).toNat:Int)=_
 rw [BitVec.toNat_or,h1,h2,mW]
 omega
theorem Qa (x:Int) (h:0≤x∧x<18446744073709551616):bits .and .u64 x 1=x % 2:=by
 have h1:=bits_and_u64_nat x.toNat 1 rG rG
 rw [Nat.and_one_is_mod,cL h.1] at h1
 have h2:((x.toNat % 2:Nat):Int)=x % 2:=rG
 exact h1.trans h2
theorem Qb (x:Int) (h:0≤x∧x<18446744073709551616):bits .and .u64 x 4294967295=x % 4294967296:=by
 have h1:=bits_and_u64_nat x.toNat 4294967295 rG rG
 rw [show (4294967295:Nat)=2 ^ 32 - 1 by decide,Nat.and_two_pow_sub_one_eq_mod,cL h.1] at h1
 have h2:((x.toNat % 2 ^ 32:Nat):Int)=x % 4294967296:=rG
 exact h1.trans h2
theorem Tg (x y:Int) (hx:0≤x∧x<4294967296) (hy:0≤y∧y<4294967296):bits .or .u64 (x*4294967296) y=x*4294967296+y:=by
 have h1:=bits_or_u64_nat (2 ^ 32*x.toNat) y.toNat rG rG
 rw [←jY (b:=y.toNat) (i:=32) rG x.toNat] at h1
 have e1:((2 ^ 32*x.toNat:Nat):Int)=x*4294967296:=rG
 have e2:((2 ^ 32*x.toNat+y.toNat:Nat):Int)=x*4294967296+y:=rG
 rw [e1,e2,cL hy.1] at h1
 exact h1
theorem Qc (x y:Int) (hx:0≤x∧x<4294967296) (hy:0≤y∧y<4294967296):bits .or .u64 y (x*4294967296)=x*4294967296+y:=by
 have h1:=bits_or_u64_nat y.toNat (2 ^ 32*x.toNat) rG rG
 rw [Nat.or_comm,←jY (b:=y.toNat) (i:=32) rG x.toNat] at h1
 have e1:((2 ^ 32*x.toNat:Nat):Int)=x*4294967296:=rG
 have e2:((2 ^ 32*x.toNat+y.toNat:Nat):Int)=x*4294967296+y:=rG
 rw [e1,e2,cL hy.1] at h1
 exact h1
theorem Fg (x y:Int) (s:Nat) (hx:0≤x∧x<((2 ^ s:Nat):Int)) (hy:0≤y∧y<4294967296) (hs:s≤32) (hm:y % ((2 ^ s:Nat):Int)=0):bits .or .u32 x y=x+y:=by
 have hp:2 ^ s≤2 ^ 32:=fK rW hs
 have h1:=yU x.toNat y.toNat rG rG
 have hm':y.toNat % 2 ^ s=0:=by
  have h2:((y.toNat % 2 ^ s:Nat):Int)=0:=by rw [Int.natCast_emod,cL hy.1];exact hm
  exact Int.ofNat_eq_zero.1 h2
 have h3:=gZ y.toNat (2 ^ s)
 rw [hm',gU] at h3
 have h4:=jY (b:=x.toNat) (i:=s) rG (y.toNat / 2 ^ s)
 rw [h3] at h4
 rw [Nat.or_comm,←h4,cL hx.1,cL hy.1] at h1
 rw [h1]
 omega
section
variable {P:Program} {e:Env} {H:Hp} {G:Imm} {ty:TypeId} {t t':TypeId} {x y:Operand} {m n:Int} {k:IntKind}
theorem CH (hx:e.ev x=some (.int .u64 m)) (hy:e.ev y=some (.int k 32)) (h0:0≤m):Qy P (.binOp .shr t x y t') ty e H G (.int .u64 (m / 4294967296)):=by
 have h:=nE (P:=P) (H:=H) (G:=G) (ty:=ty) (t:=t) (t':=t') hx hy rW
 have e1:m.fdiv (2 ^ (Min.min (32:Int).toNat IntKind.u64.bits))=m / 4294967296:=by
  rw [show Min.min (32:Int).toNat IntKind.u64.bits=32 by decide]
  exact nV _ rW
 rw [e1] at h;exact h
abbrev eY:=@CH
theorem CI (hx:e.ev x=some (.int .u64 m)) (hy:e.ev y=some (.int k 32)) (h0:0≤m∧m<4294967296):Qy P (.binOp .shl t x y t') ty e H G (.int .u64 (m*4294967296)):=by
 have h:=Qy.shl (P:=P) (H:=H) (G:=G) (ty:=ty) (t:=t) (t':=t') hx hy rW
 have e1:IntKind.u64.wrap (m*2 ^ (Min.min (32:Int).toNat IntKind.u64.bits))=m*4294967296:=by
  rw [show Min.min (32:Int).toNat IntKind.u64.bits=32 by decide]
  exact iK _ rG
 rw [e1] at h;exact h
abbrev qO:=@CI
theorem Th {s:TypeId} (hs:(P.underlying s).isSome=true) (ht:P.underlying t=some (.int .u32)) (hx:e.ev x=some (.int .u64 m)):Qy P (.convert s t x) ty e H G (.int .u32 (m % 4294967296)):=by
 have h:=jX (P:=P) (H:=H) (G:=G) (ty:=ty) hs ht hx
 rw [oS] at h
 exact h
abbrev gG:=@Th
theorem IG (hx:e.ev x=some (.int .u64 m)) (hy:e.ev y=some (.int .u64 1)) (h0:0≤m∧m<18446744073709551616):Qy P (.binOp .and t x y t') ty e H G (.int .u64 (m % 2)):=by
 have h:=lB (P:=P) (H:=H) (G:=G) (ty:=ty) (t:=t) (t':=t') hx hy
 rw [Qa m h0] at h;exact h
abbrev nI:=@IG
theorem Yu (hx:e.ev x=some (.int .u64 m)) (hy:e.ev y=some (.int .u64 4294967295)) (h0:0≤m∧m<18446744073709551616):Qy P (.binOp .and t x y t') ty e H G (.int .u64 (m % 4294967296)):=by
 have h:=lB (P:=P) (H:=H) (G:=G) (ty:=ty) (t:=t) (t':=t') hx hy
 rw [Qb m h0] at h;exact h
abbrev oP:=@Yu
theorem Ch (hx:e.ev x=some (.int .u64 (m*4294967296))) (hy:e.ev y=some (.int .u64 n)) (h0:0≤m∧m<4294967296) (h1:0≤n∧n<4294967296):Qy P (.binOp .or t x y t') ty e H G (.int .u64 (m*4294967296+n)):=by
 have h:=Dp (P:=P) (H:=H) (G:=G) (ty:=ty) (t:=t) (t':=t') hx hy
 rw [Tg m n h0 h1] at h;exact h
theorem Yv (hx:e.ev x=some (.int .u64 n)) (hy:e.ev y=some (.int .u64 (m*4294967296))) (h0:0≤m∧m<4294967296) (h1:0≤n∧n<4294967296):Qy P (.binOp .or t x y t') ty e H G (.int .u64 (m*4294967296+n)):=by
 have h:=Dp (P:=P) (H:=H) (G:=G) (ty:=ty) (t:=t) (t':=t') hx hy
 rw [Qc m n h0 h1] at h;exact h
theorem IH {s:Nat} (hx:e.ev x=some (.int .u64 m)) (hy:e.ev y=some (.int k (s:Int))) (h0:0≤m∧m<4294967296) (hs:s≤32):Qy P (.binOp .shl t x y t') ty e H G (.int .u64 (m*((2 ^ s:Nat):Int))):=by
 have h:=Qy.shl (P:=P) (H:=H) (G:=G) (ty:=ty) (t:=t) (t':=t') hx hy rG
 have e1:IntKind.u64.wrap (m*2 ^ (Min.min (s:Int).toNat IntKind.u64.bits))=m*((2 ^ s:Nat):Int):=by
  rw [aF,cS (aP hs rW)]
  have e2:(2:Int) ^ s=((2 ^ s:Nat):Int):=by rw [pI];rfl
  rw [e2]
  have hp:(1:Int)≤((2 ^ s:Nat):Int)∧((2 ^ s:Nat):Int)≤4294967296:=by
   have h1:0<2 ^ s:=oB rW
   have h2:2 ^ s≤2 ^ 32:=fK rW hs
   omega
  have h3:=aW hp.2 h0.1
  have h4:=jF h0.1 (show (0:Int)≤((2 ^ s:Nat):Int) by omega)
  exact iK _ rG
 rw [e1] at h;exact h
theorem Vj {s:Nat} (hx:e.ev x=some (.int .u64 m)) (hy:e.ev y=some (.int k (s:Int))) (h0:0≤m) (hs:s≤32):Qy P (.binOp .shr t x y t') ty e H G (.int .u64 (m / ((2 ^ s:Nat):Int))):=by
 have h:=nE (P:=P) (H:=H) (G:=G) (ty:=ty) (t:=t) (t':=t') hx hy rG
 have e1:m.fdiv (2 ^ (Min.min (s:Int).toNat IntKind.u64.bits))=m / ((2 ^ s:Nat):Int):=by
  rw [aF,cS (aP hs rW)]
  have e2:(2:Int) ^ s=((2 ^ s:Nat):Int):=by rw [pI];rfl
  rw [e2]
  exact nV _ (nT _)
 rw [e1] at h;exact h
end
end Go.Sl
end
