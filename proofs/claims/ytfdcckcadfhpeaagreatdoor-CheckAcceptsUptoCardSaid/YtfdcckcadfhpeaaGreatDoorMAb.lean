/- cK of the proof (part 2): what the rows' text needs of the texts that lead to it. -/
import Derived.Test.YtfdcckcadfhpeaaGreatDoorMAa
set_option linter.unusedVariables false
set_option linter.unusedSimpArgs false
set_option linter.unusedSectionVars false
set_option maxHeartbeats 4000000
noncomputable section
set_option maxRecDepth 100000
namespace Go.Sl
open Go
structure R2 where
 a:Int
 b:Int
 deriving DecidableEq
instance:Inhabited R2:=⟨⟨0,0⟩⟩
instance:Cells R2:=⟨2,fun i=>[.int .i64 i.a,.int .i64 i.b],fun _=>rfl,fun _=>rfl⟩
structure R6 where
 a:Int
 b:Int
 c:Int
 d:Int
 e:Int
 f:Int
 deriving DecidableEq
instance:Inhabited R6:=⟨⟨0,0,0,0,0,0⟩⟩
instance:Cells R6:=⟨6,fun i=>[.int .i64 i.a,.int .i64 i.b,.int .i64 i.c,.int .i64 i.d,.int .i64 i.e,.int .i64 i.f],fun _=>rfl,fun _=>rfl⟩
section scope
variable {P:Program} {b:Frame} {a:Act} {k:List Item} {cs:List Frame} {w:World} {Q:Exit→Act→World→Prop} {F:Fence} {n:Nat}
theorem fV {c:Code}:step P (lone (b.atR a (.code (.scope c) :: k)) cs w)=.next (lone (b.atR a (.code c :: .inScope c :: k)) cs w):=
 step_lone_go (by simp [stepG,stepG.exec,Frame.atR])
theorem wS {c:Code}:step P (lone (b.atR a (.inScope c :: k)) cs w)=.next (lone (b.atR a k) cs w):=
 step_lone_go (by simp [stepG,stepG.exec,Frame.atR])
def yT (Q:Exit→Act→World→Prop):Exit→Act→World→Prop
 | .goto _,_,_=>False
 | e,a,w=>Q e a w
theorem uD {c:Code} (h:c.wpIn F n P (yT Q) a w):(Code.scope c).wpIn F n P Q a w:=by
 intro b k cs hro hb hr
 have h0:(lone (b.atR a (.code (.scope c) :: k)) cs w).fenced P F:=fenced_calm hb hr rfl
 obtain ⟨e,a₁,w₁,hq,harr⟩:=h b (.inScope c :: k) cs hro hb hr
 cases e with
 | normal=>exact ⟨.normal,a₁,w₁,hq,.head h0 fV (StepsIn.trans harr (.one (fenced_calm hb hr rfl) wS))⟩
 | exit id =>
   have hx:exitTo id (.inScope c :: k)=exitTo id k:=by simp [exitTo]
   exact ⟨.exit id,a₁,w₁,hq,fun k' hk=>.head h0 fV (harr.1 k' (by rw [hx];exact hk)),
    fun hr' hk=>let ⟨k₁,h1,h2⟩:=harr.2 hr' (by rw [hx];exact hk);⟨k₁,h1,.head h0 fV h2⟩⟩
 | goto l=>exact hq.elim
 | ret=>exact ⟨_,a₁,w₁,hq,.of_steps (.one h0 fV) harr⟩
 | panic ch=>exact ⟨_,a₁,w₁,hq,.of_steps (.one h0 fV) harr⟩
 | outgrown=>exact ⟨_,a₁,w₁,hq,.of_steps (.one h0 fV) harr⟩
end scope
section scopeS
variable {r:Option Nat} {P:Program} {B:Bs} {S:St} {Q:Exit→Act→World→Prop}
theorem Wc.scope {c:Code} (h:Wc r P c B S (yT Q)):Wc r P (.scope c) B S Q:=fun a w hh=>uD (h a w hh)
theorem iW (h:Ar Q .ret B S):Ar (yT Q) .ret B S:=h
end scopeS
section
variable {P:Program} {ops:Array Oper} {rest:List Oper} {B:Bs} {e:Env} {D:List Deferred} {H H0:Hp} {G:Imm} {K:Act→World→Prop}
 {ty:TypeId} {pos:String} {after:Array Edge} {d:Nat} {f:Nat} {listed:Array Bool}
theorem aHO {Q:Exit→Act→World→Prop} {x:Exit} (t:Nat) (o:Obj) (h:Ar Q x B ⟨e,D,(t,none,o) :: H,G⟩):Ar Q x B ⟨e,D,H,G⟩:=fun a w hh=>h a w (hh.noBlock t o)
theorem uE {o:Op} {j:Nat} {want:Bool} {t:Nat} (hj:(ops[j]?).bind (·.dst)=some t) (he:e.get t=some undef) (hn:Nat.ble (d+1) B.n=true)
 (h:Wl P ops rest B ⟨(d,undef) :: e,D,H,G⟩ K):Wl P ops (⟨some d,o,ty,pos,after,some (j,want)⟩ :: rest) B ⟨e,D,H,G⟩ K:=by
 intro a w hh
 unfold bK
 have hy:yielded ops a.tmps j=none:=by simp [yielded,hj,hh.env t _ he,undef]
 rw [if_neg (by simp [Region.wanted,hy])]
 exact h _ _ (hh.put hn undef)
end
def Hp.pick (H:Hp):Nat→List Nat→Hp
 | _,[]=>[]
 | i,t :: ts=>match H.get t with | some x=>(i,x) :: Hp.pick H (i+1) ts | none=>Hp.pick H (i+1) ts
section
variable {P:Program} {ops:Array Oper} {rest:List Oper} {B:Bs} {e:Env} {D:List Deferred} {H H0:Hp} {G:Imm} {K:Act→World→Prop}
 {ty:TypeId} {pos:String} {after:Array Edge} {d:Nat} {f:Nat} {listed:Array Bool}
def Meet {ι:Type} (B:Bs) (I:ι→St) (φ:ι→Prop):Act→World→Prop:=fun a w=>∃ j,φ j∧Hold B (I j) a w
theorem eY {ι:Type} {r:Option Nat} {x y:Code} {Q:Exit→Act→World→Prop} (I:ι→Env×Hp) (φ:ι→Prop)
 (h1:Wc r P x B ⟨e,D,H,G⟩ (Exit.then (Meet B (fun i=>⟨(I i).1,D,(I i).2,G⟩) φ) Q)) (h2:∀ i,φ i→Wc r P y B ⟨(I i).1,D,(I i).2,G⟩ Q):Wc r P (.seq x y) B ⟨e,D,H,G⟩ Q:=by
 refine Wc.seq fun a w hh b k cs hro hb hr=>?_
 obtain ⟨ex,a',w',hq,ha⟩:=h1 a w hh b k cs hro hb hr
 refine ⟨ex,a',w',?_,ha⟩
 cases ex with
 | normal=>obtain ⟨j,hj,hI⟩:=hq;exact h2 j hj a' w' hI
 | exit id=>exact hq
 | goto l=>exact hq
 | ret=>exact hq
 | panic ch=>exact hq
 | outgrown=>exact hq
theorem pG {ι:Type} {I:ι→St} {φ:ι→Prop} {Q:Exit→Act→World→Prop} (j:ι) (hφ:φ j)
 (hI:I j=⟨(I j).e,D,(I j).H,G⟩) (he:e.sub (I j).e) (hH:H.sub (I j).H):Ar (Exit.then (Meet B I φ) Q) .normal B ⟨e,D,H,G⟩:=
 fun a w hh=>⟨j,hφ,by rw [hI];exact hh.sub he hH⟩
def aDO (H:Hp) (Gx:Imm):Prop:=∀ t b o,H.get t=some (some b,o)→Gx b=some o
theorem HoldH.lend {H:Hp} {G:Imm} {w:World} (h:HoldH H G w):∃ Gx:Imm,G.le Gx∧aDO H Gx∧HoldH [] Gx w∧(∀ b,Gx b≠none→G b=none→∃ t o,H.get t=some (some b,o)):=by
 classical
 refine ⟨fun b=>if hx:∃ o,∃ t,H.get t=some (some b,o) then some (Classical.choose hx) else G b,?_,?_,⟨?_,?_,?_,?_⟩,?_⟩
 · intro b o hb
   have hn:¬∃ o,∃ t,H.get t=some (some b,o):=fun ⟨o',t,ht⟩=>by rw [h.off t b o' ht] at hb;cases hb
   simp only [hn,dif_neg,not_false_eq_true];exact hb
 · intro t b o ht
   have hx:∃ o,∃ t,H.get t=some (some b,o):=⟨o,t,ht⟩
   simp only [hx,dif_pos]
   obtain ⟨t',ht'⟩:=Classical.choose_spec hx
   have:=h.one _ _ b _ _ ht ht'
   subst this
   rw [ht] at ht'
   simp only [Option.some.injEq,Prod.mk.injEq,true_and] at ht'
   rw [←ht']
 · intro t b o hx;simp [Hp.get] at hx
 · intro t t' b o o' hx;simp [Hp.get] at hx
 · intro b o hb
   try simp only at hb
   split at hb
   · rename_i hx
     obtain ⟨t',ht'⟩:=Classical.choose_spec hx
     cases hb
     exact h.own t' b _ ht'
   exact h.imm b o hb
 · intro t b o hx;simp [Hp.get] at hx
 intro b hb hg
 try simp only at hb
 split at hb
 · rename_i hx;exact ⟨_,_,(Classical.choose_spec hx).choose_spec⟩
 exact absurd hg hb
theorem Arr.own {α:Type} [Cells α] {Gx:Imm} {a:Option Addr} {c:Nat} {E:TypeId} {xs:List α} {junk:List Value} (hb:aDO H Gx) (t:Nat) (ht:H.get t=some (a.map (·.block),Row E xs junk)) (ho:OwnA a c xs junk):Arr Gx a xs:=by
 rcases ho with ⟨rfl,rfl,rfl,_⟩ | ⟨b,rfl,_⟩
 · exact Arr.nil Gx
 exact aFF (E:=E) (junk:=junk) (hb t b _ ht)
theorem pH {fn:FuncId} {xs:Array Operand} {ats:Array TypeId} {vs:List Value} {post:Imm→Value→Imm→Hp→Prop} (k:Nat)
 (hn:Nat.ble (d+1) B.n=true) (hf:dP P fn) (hx:e.evs xs.toList=some vs)
 (hF:∀ Gx,G.le Gx→aDO H Gx→Does P fn vs Gx [] (post Gx))
 (h:∀ v Gx G' Ho,G.le Gx→post Gx v G' Ho→Wl P ops rest B ⟨(d,v) :: e,D,Ho.shift k++H,G⟩ K) :
 Wl P ops (⟨some d,.call { callee:=.value (.func fn),args:=xs,argTypes:=ats },ty,pos,after,none⟩ :: rest) B ⟨e,D,H,G⟩ K:=by
 intro a w hh
 obtain ⟨f,h1,h2,h3⟩:=hf
 unfold bK
 rw [if_pos (by simp [Region.wanted])]
 unfold iR
 have hrun:(execOp a.eval ⟨some d,.call { callee:=.value (.func fn),args:=xs,argTypes:=ats },ty,pos,after,none⟩).run P w=.ok (.enter fn vs.toArray) w:=by
  simp [execOp,resolve,Deferred.ofValue,invoke,Act.eval,hh.args hx,iS w _ h1 h2 h3]
 rw [hrun]
 obtain ⟨Gx,g1,g2,g3,_⟩:=hh.mem.lend
 refine (hF Gx g1 g2 w g3).mono fun x w' ⟨v,G',Ho,q1,q2,q3,q4,q5,q6,q7⟩=>⟨v,q1,?_⟩
 refine h v Gx G' Ho g1 q7 _ _ (Hold.put ?_ hn v)
 have hno:∀ b,¬Hp.has [] b:=fun b ⟨t,o,hx⟩=>by simp [Hp.get] at hx
 have hup:Upd (fun _=>False) w w':=q4.mono (fun k _ hk=>hno k hk)
 have hg:=hh.grow hup
 have hfr:∀ t b o,Ho.get t=some (some b,o)→w.heap.size≤b:=fun t b o hx=>(q6 t b o hx).resolve_right (hno b)
 have hsplit:∀ i b o,(Ho.shift k++H).get i=some (some b,o)→(k≤i∧Ho.get (i - k)=some (some b,o))∨H.get i=some (some b,o):=by
  intro i b o hx
  rw [kD,pC] at hx
  by_cases hi:k≤i
  · rw [if_pos hi] at hx
    cases hgg:Ho.get (i - k) with
    | some x=>rw [hgg] at hx;exact .inl ⟨hi,by simpa using hx⟩
    | none=>rw [hgg] at hx;simp only [Option.none_or] at hx;exact .inr hx
  rw [if_neg hi] at hx;simp only [Option.none_or] at hx;exact .inr hx
 refine ⟨hg.size,hg.defers,hg.env,⟨?_,?_,hg.mem.imm,?_⟩,hg.upd,?_,hg.le,hg.new⟩
 · intro i b o hx
   rcases hsplit i b o hx with ⟨_,h'⟩ | h'
   · exact q2.own _ b o h'
   exact hg.mem.own i b o h'
 · intro i j b o o' hx hy
   rcases hsplit i b o hx with ⟨hi,h'⟩ | h' <;> rcases hsplit j b o' hy with ⟨hj,h''⟩ | h''
   · have:=q2.one _ _ b _ _ h' h'';omega
   · have:=hfr _ b o h';have h4:b<w.heap.size:=hh.mem.lt h'';omega
   · have:=hfr _ b o' h'';have h4:b<w.heap.size:=hh.mem.lt h';omega
   exact hg.mem.one _ _ b _ _ h' h''
 · intro i b o hx
   rcases hsplit i b o hx with ⟨_,h'⟩ | h'
   · have hb:=hfr _ b o h'
     cases hgb:G b with
     | none=>exact hgb
     | some y=>have:b<w.heap.size:=hh.mem.ltG hgb;omega
   exact hg.mem.off i b o h'
 intro i b o hx
 rcases hsplit i b o hx with ⟨_,h'⟩ | h'
 · exact .inl (Nat.le_trans hh.upd.size (hfr _ b o h'))
 exact hh.mine i b o h'
def aFI (H:Hp) (k:Nat):Hp→Prop
 | []=>True
 | (t,x) :: L=>H.get (k+t)=some x∧aFI H k L
theorem bO {k:Nat}:∀ {Hi:Hp},aFI H k Hi→∀ t x,Hi.get t=some x→H.get (k+t)=some x
 | [],_,t,x,h=>by simp [Hp.get] at h
 | (j,y) :: L,⟨h1,h2⟩,t,x,h=>by
   rw [aK] at h
   split at h
   · rename_i hj;subst hj;cases h;exact h1
   exact bO h2 t x h
section own
variable {α:Type} [Cells α] {a:Option Addr} {c:Nat} {xs:List α} {junk:List Value}
theorem OwnA.addr (h:OwnA a c xs junk) (hn:0<xs.length):a=some ⟨ab a,0,none⟩:=by
 rcases h with ⟨_,h,_⟩ | ⟨b,rfl,_⟩
 · subst h;simp at hn
 rfl
theorem OwnA.blk (h:OwnA a c xs junk) (hn:0<xs.length):a.map (·.block)=some (ab a):=by rw [h.addr hn];rfl
theorem OwnA.le (h:OwnA a c xs junk):xs.length≤c:=by
 rcases h with ⟨_,rfl,_,rfl⟩ | ⟨b,_,_,h,_⟩
 · simp
 exact h
theorem eR {T:TypeId} {x i:Operand} {k:IntKind} {m:Int} {E:Nat} (hT:aS P T E (Cells.sz α)) (hx:e.ev x=some (.slice a xs.length c)) (hi:e.ev i=some (.int k m)) (ho:OwnA a c xs junk) (hb:0≤m∧m<xs.length) :
 Qy P (.indexAddr T x i) ty e H G (.pointer (some ⟨ab a,0+m.toNat*Cells.sz α,none⟩)):=by
 have ha:=ho.addr (by omega)
 rw [ha] at hx
 exact Qy.indexAddr hT hx hi hb
theorem pI [Inhabited α] {T:TypeId} {x:Operand} {E:TypeId} {m:Int} {v:Value} (t k:Nat) (h1:eC P T=true) (hx:e.ev x=some (.pointer (some ⟨ab a,0+m.toNat*Cells.sz α+k,none⟩)))
 (ht:H.get t=some (a.map (·.block),Row E xs junk)) (ho:OwnA a c xs junk) (hm:0≤m∧m<xs.length) (hk:Nat.ble (k+1) (Cells.sz α)=true) (hv:(Cells.enc (xs[m.toNat]?.getD default))[k]?=some v):Qy P (.load T x) ty e H G v:=by
 rw [ho.blk (by omega)] at ht
 exact aAO t k h1 hx ht hm hk hv
theorem aHP [Inhabited α] {T:TypeId} {x:Operand} {E:TypeId} {m:Int} (t:Nat) (h1:fD P T (Cells.sz α)=true) (hx:e.ev x=some (.pointer (some ⟨ab a,0+m.toNat*Cells.sz α,none⟩)))
 (ht:H.get t=some (a.map (·.block),Row E xs junk)) (ho:OwnA a c xs junk) (hm:0≤m∧m<xs.length):Qy P (.load T x) ty e H G (.agg (Cells.enc (xs[m.toNat]?.getD default)).toArray):=by
 rw [ho.blk (by omega)] at ht
 exact xH t h1 hx ht hm
theorem bG {T:TypeId} {x y:Operand} {E:TypeId} {m:Int} {v:Value} {z:α} (t:Nat) (hs:(P.info? T).map (·.size)=some (Cells.sz α))
 (hx:e.ev x=some (.pointer (some ⟨ab a,0+m.toNat*Cells.sz α,none⟩))) (hy:e.ev y=some v) (ht:H.get t=some (a.map (·.block),Row E xs junk)) (ho:OwnA a c xs junk) (hm:0≤m∧m<xs.length) (hv:v.cells=(Cells.enc z).toArray)
 (h:OwnA a c (xs.set m.toNat z) junk→Wl P ops rest B ⟨e,D,(t,a.map (·.block),Row E (xs.set m.toNat z) junk) :: H,G⟩ K):Wl P ops (⟨none,.store T x y,ty,pos,after,none⟩ :: rest) B ⟨e,D,H,G⟩ K:=by
 have h':=h (by
  rcases ho with ⟨_,h,_⟩ | ⟨b,h1,h2,h3,h4⟩
  · subst h;simp at hm;omega
  exact .inr ⟨b,h1,by simpa using h2,by simpa using h3,h4⟩)
 have hb:=ho.blk (by omega)
 rw [hb] at ht h'
 exact aFH t hs hx hy hv ht hm h'
theorem wT {sz:Nat} (ho:OwnA a c xs junk):subA a c 0 sz=a:=by
 rcases ho with ⟨rfl,_⟩ | ⟨b,rfl,_⟩
 · unfold subA;split <;> rfl
 unfold subA;split <;> simp [add_lit]
end own
end
section
variable {P:Program} {ops:Array Oper} {rest:List Oper} {B:Bs} {e:Env} {D:List Deferred} {H:Hp} {G:Imm} {K:Act→World→Prop} {ty:TypeId} {pos:String} {after:Array Edge}
end
def lrec (q:Loop) (s:LoopState) (p:Option Code):Obj:=.loop { q with state:=s,pending:=p }
def aKK (K:Nat):Hp→Bool
 | []=>true
 | (t,_) :: h=>Nat.ble (t+1) K && aKK K h
section
variable {P:Program} {ops:Array Oper} {rest:List Oper} {B:Bs} {e:Env} {D:List Deferred} {H:Hp} {G:Imm} {K:Act→World→Prop}
 {ty:TypeId} {pos:String} {after:Array Edge} {d:Nat}
def mark (b:Nat):Deferred:={ target:=.collected b,args:=#[] }
theorem lK (w:World) (b:Nat) (o:Obj):Upd (·=b) w (w.putObj b o):=⟨rfl,rfl,rfl,by simp,fun k _ hk=>World.putObj_heap_other hk⟩
section out
variable {fn:Func} {G0:Imm} {Hi:Hp} {w0:World} {post:Value→Imm→Hp→Prop} {x:Exit}
end out
def Env.ps:List Nat→List Value→Env→Env
 | t :: ts,v :: vs,e=>Env.ps ts vs ((t,v) :: e)
 | _,_,e=>e
section round
variable {ι:Type} {x:Exit} {l n:Nat} {w0:World} {Hi:Hp} {G0:Imm} {post:Value→Imm→Hp→Prop} {q:Loop} {p:Option Code}
end round
section stmt
variable {β ι:Type} {Q:Exit→Act→World→Prop} {f:FuncId} {fst caps:List Value} {enc:β→List Value} {xs:List β} {ps:List Nat} {assign body:Code} {g:Operand}
def rst:Option Code→LoopState | none=>.ready | some _=>.done
end stmt
end
section
variable {P:Program} {e:Env} {H:Hp} {G:Imm} {ty:TypeId}
def pJ (P:Program) (t:TypeId):Bool:=match P.underlying t with | some (.func _ _ _)=>true | _=>false
theorem iP {t:TypeId} {f:Fn} {fs cs:Array Value} (ht:pJ P t=true) (d:Nat) (w:World):(Op.equalIn (d+1) t (.func f fs cs) .nilFunc).run P w=.ok false w:=by
 unfold pJ at ht
 split at ht
 · rename_i a1 a2 a3 hu
   simp [Op.equalIn,run_underlying hu]
 cases ht
theorem wU {t t':TypeId} {x y:Operand} {f:Fn} {fs cs:Array Value} (ht:pJ P t=true) (hx:e.ev x=some (.func f fs cs)) (hy:e.ev y=some .nilFunc):Qy P (.binOp .eql t x y t') ty e H G (.bool false):=fun a w _ _ _ _ hh=>by
 have:=iP (P:=P) (f:=f) (fs:=fs) (cs:=cs) ht 9999 w
 simp [execOp,hh.eval hx,hh.eval hy,binOp,eqGuard,Op.equal,Op.maxDepth,this]
theorem wV {t t':TypeId} {x y:Operand} {f:Fn} {fs cs:Array Value} (ht:pJ P t=true) (hx:e.ev x=some (.func f fs cs)) (hy:e.ev y=some .nilFunc):Qy P (.binOp .neq t x y t') ty e H G (.bool true):=fun a w _ _ _ _ hh=>by
 have:=iP (P:=P) (f:=f) (fs:=fs) (cs:=cs) ht 9999 w
 simp [execOp,hh.eval hx,hh.eval hy,binOp,eqGuard,Op.equal,Op.maxDepth,this]
theorem iH {t E:TypeId} {a:Option Addr} {n c:Nat} (ht:P.underlying t=some (.slice E)) (d:Nat) (w:World):(Op.equalIn (d+1) t (.slice a n c) (.slice none 0 0)).run P w=.ok a.isNone w:=by
 cases a <;> simp [Op.equalIn,run_underlying ht]
theorem cQ {t t':TypeId} {x y:Operand} {a:Option Addr} {n c E sz:Nat} (ht:aS P t E sz) (hx:e.ev x=some (.slice a n c)) (hy:e.ev y=some (.slice none 0 0)):Qy P (.binOp .eql t x y t') ty e H G (.bool (decide (a=none))):=fun w0 w _ _ _ _ hh=>by
 have:=iH (P:=P) (a:=a) (n:=n) (c:=c) ht.1 9999 w
 simp [execOp,hh.eval hx,hh.eval hy,binOp,eqGuard,Op.equal,Op.maxDepth,this]
 cases a <;> rfl
theorem mK {t t':TypeId} {x y:Operand} {a:Option Addr} {n c E sz:Nat} (ht:aS P t E sz) (hx:e.ev x=some (.slice a n c)) (hy:e.ev y=some (.slice none 0 0)):Qy P (.binOp .neq t x y t') ty e H G (.bool (decide (a≠none))):=fun w0 w _ _ _ _ hh=>by
 have:=iH (P:=P) (a:=a) (n:=n) (c:=c) ht.1 9999 w
 simp [execOp,hh.eval hx,hh.eval hy,binOp,eqGuard,Op.equal,Op.maxDepth,this]
 cases a <;> rfl
theorem aY {T:TypeId} {x i:Operand} {b o n sz:Nat} {zs:List Value} {k:IntKind} {m:Int} (j:Nat) (hT:ArrayOf P T n sz zs) (hx:e.ev x=some (.pointer (some ⟨b,o,none⟩))) (hi:e.ev i=some (.int k m))
 (hb:decide (0≤m∧m<n)=true) (hj:Nat.beq (m.toNat*sz) j=true):Qy P (.indexAddr T x i) ty e H G (.pointer (some ⟨b,o+j,none⟩)):=fun a w _ _ _ _ hh=>by
 obtain ⟨z,E,hu,_,_,hs⟩:=hT
 have hb':=of_decide_eq_true hb
 have hj':=Nat.eq_of_beq_eq_true hj
 simp [execOp,Instr.indexAt,Instr.sureAddr,hh.eval hx,hh.eval hi,asIntOf,run_underlying hu,hb',run_sizeOf w hs,add_lit,hj']
end
section
variable {P:Program} {B:Bs} {e:Env} {D:List Deferred} {H:Hp} {G:Imm}
end
def aDP (r:Option Nat) (P:Program) (c:Code) (Q:Exit→Act→World→Prop) (a:Act) (w:World):Prop:=
 ∀ (b:Frame) (k:List Item) (cs:List Frame),b.roundOf=(FF r).round→(FF r).fn b.fn→(FF r).room (cs.length+1+0)→
  ∃ e a' w',Q e a' w'∧ArrivesIn (Machine.fenced P (FF r)) P (lone (b.atR a (.code c :: .inLoop c :: k)) cs w) b k cs e a' w'
section
variable {r:Option Nat} {P:Program} {B:Bs} {S:St} {Q:Exit→Act→World→Prop} {c:Code}
end
def aKL (P:Program):List (Nat×Nat×Nat)→Prop
 | []=>True
 | x :: l=>sW P x.1 x.2.1 x.2.2∧aKL P l
def AllSl (P:Program):List Nat→Prop
 | []=>True
 | x :: l=>(∃ E sz,aS P x E sz)∧AllSl P l
def AllOne (P:Program):List Nat→Prop
 | []=>True
 | x :: l=>eC P x=true∧AllOne P l
def AllAgg (P:Program):List (Nat×Nat)→Prop
 | []=>True
 | x :: l=>(fD P x.1 x.2=true∧(P.info? x.1).map (·.size)=some x.2)∧AllAgg P l
def AllFn (P:Program):List Nat→Prop
 | []=>True
 | x :: l=>dP P x∧AllFn P l
class Tab (P:Program) where
 fn:List Nat
 fnP:AllFn P fn
 one:List Nat
 agg:List (Nat×Nat)
 sl:List Nat
 fa:List (Nat×Nat×Nat)
 oneP:AllOne P one
 aggP:AllAgg P agg
 slP:AllSl P sl
 faP:aKL P fa
def yU:List Nat→Nat→Bool
 | [],_=>false
 | x :: l,t=>bif Nat.beq x t then true else yU l t
def lookN:List (Nat×Nat)→Nat→Option Nat
 | [],_=>none
 | (x,y) :: l,t=>bif Nat.beq x t then some y else lookN l t
def aKM:List (Nat×Nat×Nat)→Nat→Nat→Option Nat
 | [],_,_=>none
 | (x,y,z) :: l,s,f=>bif Nat.beq x s && Nat.beq y f then some z else aKM l s f
theorem aE {α:Type} {b:Bool} {x y z:α} (h:(bif b then x else y)=z):(b=true∧x=z)∨(b=false∧y=z):=by cases b <;> simp_all
theorem uF {P:Program}:∀ {l:List Nat} {t:Nat},AllOne P l→yU l t=true→eC P t=true
 | [],t,_,h=>by cases h
 | x :: l,t,ha,h=>by
   rcases aE h with ⟨h1,_⟩ | ⟨_,h2⟩
   · have:=Nat.eq_of_beq_eq_true h1;subst this;exact ha.1
   exact uF ha.2 h2
theorem yV {P:Program}:∀ {l:List Nat} {t:Nat},AllFn P l→yU l t=true→dP P t
 | [],t,_,h=>by cases h
 | x :: l,t,ha,h=>by
   rcases aE h with ⟨h1,_⟩ | ⟨_,h2⟩
   · have:=Nat.eq_of_beq_eq_true h1;subst this;exact ha.1
   exact yV ha.2 h2
theorem aFJ {P:Program}:∀ {l:List Nat} {t:Nat},AllSl P l→yU l t=true→∃ E sz,aS P t E sz
 | [],t,_,h=>by cases h
 | x :: l,t,ha,h=>by
   rcases aE h with ⟨h1,_⟩ | ⟨_,h2⟩
   · have:=Nat.eq_of_beq_eq_true h1;subst this;exact ha.1
   exact aFJ ha.2 h2
theorem rD {P:Program}:∀ {l:List (Nat×Nat)} {t k:Nat},AllAgg P l→lookN l t=some k→fD P t k=true∧(P.info? t).map (·.size)=some k
 | [],t,k,_,h=>by cases h
 | (x,y) :: l,t,k,ha,h=>by
   rcases aE h with ⟨h1,h2⟩ | ⟨_,h2⟩
   · have:=Nat.eq_of_beq_eq_true h1;subst this;cases h2;exact ha.1
   exact rD ha.2 h2
theorem aAR {P:Program}:∀ {l:List (Nat×Nat×Nat)} {s f k:Nat},aKL P l→aKM l s f=some k→sW P s f k
 | [],s,f,k,_,h=>by cases h
 | (x,y,z) :: l,s,f,k,ha,h=>by
   rcases aE h with ⟨h1,h2⟩ | ⟨_,h2⟩
   · simp only [Bool.and_eq_true] at h1
     have h3:=Nat.eq_of_beq_eq_true h1.1
     have h4:=Nat.eq_of_beq_eq_true h1.2
     subst h3;subst h4;cases h2;exact ha.1
   exact aAR ha.2 h2
def ikB:IntKind→IntKind→Bool
 | .i8,.i8 | .i16,.i16 | .i32,.i32 | .i64,.i64 | .u8,.u8 | .u16,.u16 | .u32,.u32 | .u64,.u64=>true
 | _,_=>false
theorem rE {a b:IntKind} (h:ikB a b=true):a=b:=by cases a <;> cases b <;> first | rfl | cases h
def nth {α:Type}:List α→Nat→Option α
 | [],_=>none
 | x :: l,n=>bif Nat.beq n 0 then some x else nth l (Nat.pred n)
theorem gV {α:Type}:∀ (l:List α) (n:Nat),nth l n=l[n]?
 | [],n=>by simp [nth]
 | x :: l,n=>by
   unfold nth
   cases n with
   | zero=>rfl
   | succ n=>simp only [Nat.beq,cond_false,Nat.pred_succ,gV l n,List.getElem?_cons_succ]
abbrev Rz:=Value×List Nat×Prop
inductive IOp | eql | neq | lss | leq | gtr | geq | add | sub
def iop:BinOp→Option IOp
 | .eql=>some .eql | .neq=>some .neq | .lss=>some .lss | .leq=>some .leq | .gtr=>some .gtr | .geq=>some .geq | .add=>some .add | .sub=>some .sub
 | _=>none
def iev (o:IOp) (k:IntKind) (m n:Int) (hs:List Nat):Option Rz:=
 match o with
 | .eql=>some (.bool (decide (m=n)),hs,True)
 | .neq=>some (.bool (decide (m≠n)),hs,True)
 | .lss=>some (.bool (decide (m<n)),hs,True)
 | .leq=>some (.bool (decide (m≤n)),hs,True)
 | .gtr=>some (.bool (decide (n<m)),hs,True)
 | .geq=>some (.bool (decide (n≤m)),hs,True)
 | .add=>bif ikB k .i64 then some (.int .i64 (m+n),hs,-9223372036854775808≤m+n∧m+n≤9223372036854775807) else none
 | .sub=>bif ikB k .i64 then some (.int .i64 (m - n),hs,-9223372036854775808≤m - n∧m - n≤9223372036854775807) else none
def qev (P:Program) [Tab P] (e:Env) (H:Hp) (hs:List Nat):Op→Option Rz
 | .move x=>match e.ev x with | some v=>some (v,hs,True) | none=>none
 | .assign x=>match e.ev x with | some v=>some (v,hs,True) | none=>none
 | .pick c x y=>match e.ev c with
   | some (.bool b)=>match e.ev (bif b then x else y) with | some v=>some (v,hs,True) | none=>none
   | _=>none
 | .unOp .not _ x=>match e.ev x with | some (.bool b)=>some (.bool (!b),hs,True) | _=>none
 | .binOp o _ x y _=>match iop o with
   | some o=>match e.ev x with
     | some (.int k m)=>match e.ev y with
       | some (.int k' n)=>bif ikB k k' then iev o k m n hs else none
       | _=>none
     | _=>none
   | none=>none
 | .extract x i=>match e.ev x with
   | some (.tuple ⟨vs⟩)=>match nth vs i with | some v=>some (v,hs,True) | none=>none
   | _=>none
 | .nilCheck x=>match e.ev x with
   | some (.pointer (some ad))=>some (.pointer (some ad),hs,True)
   | _=>none
 | .fieldAddr s x f=>match aKM (Tab.fa P) s f with
   | some k=>match e.ev x with
     | some (.pointer (some ⟨b,o,none⟩))=>some (.pointer (some ⟨b,o+k,none⟩),hs,True)
     | _=>none
   | none=>none
 | .load T x=>match hs with
   | t :: hs=>match e.ev x with
     | some (.pointer (some ⟨b,off,none⟩))=>match H.get t with
       | some (some b',.cells ⟨cs⟩ _ _)=>match yU (Tab.one P) T with
         | true=>match nth cs off with | some v=>some (v,hs,b=b') | none=>none
         | false=>match lookN (Tab.agg P) T with
           | some k=>bif Nat.beq off 0 && Nat.beq cs.length k then some (.agg cs.toArray,hs,b=b') else none
           | none=>none
       | _=>none
     | _=>none
   | []=>none
 | .call ⟨.builtin .len,⟨[x]⟩,⟨[T]⟩⟩=>match yU (Tab.sl P) T with
   | true=>match e.ev x with | some (.slice _ n _)=>some (.int .i64 n,hs,True) | _=>none
   | false=>none
 | _=>none
theorem aRS {P:Program} {e:Env} {H:Hp} {G:Imm} {ty t t':TypeId} {hs hs':List Nat} {bo:BinOp} {o:IOp} {x y:Operand} {k:IntKind} {m n:Int} {v:Value} {ob:Prop} (ho:iop bo=some o) (hx:e.ev x=some (.int k m)) (hy:e.ev y=some (.int k n))
 (h:iev o k m n hs=some (v,hs',ob)) (hob:ob):Qy P (.binOp bo t x y t') ty e H G v:=by
 cases bo <;> first | (cases ho;done) | skip
 all_goals
  cases ho
  unfold iev at h
  first
   | (cases h;first | exact Qy.eql hx hy | exact Qy.neq hx hy | exact Qy.lss hx hy | exact Qy.leq hx hy | exact Qy.gtr hx hy | exact Qy.geq hx hy)
   | (rcases aE h with ⟨hk,h⟩ | ⟨_,h⟩
      · have:=rE hk
        subst this
        cases h
        first | exact Qy.add hx hy hob | exact Qy.sub hx hy hob
      cases h)
theorem aDQ {P:Program} [T:Tab P] {e:Env} {H:Hp} {G:Imm} {ty:TypeId} {hs hs':List Nat} {o:Op} {v:Value} {ob:Prop} (h:qev P e H hs o=some (v,hs',ob)) (hob:ob):Qy P o ty e H G v:=by
 unfold qev at h
 split at h
 · split at h
   · rename_i hx;cases h;exact Qy.move hx
   cases h
 · split at h
   · rename_i hx;cases h;exact Qy.assign hx
   cases h
 · split at h
   · rename_i hc
     split at h
     · rename_i hv;cases h;exact Qy.pick hc hv
     cases h
   cases h
 · split at h
   · rename_i hx;cases h;exact Qy.not hx
   cases h
 · split at h
   · rename_i o' ho
     split at h
     · rename_i k m hx
       split at h
       · rename_i k' n hy
         rcases aE h with ⟨hk,h9⟩ | ⟨_,h9⟩
         · have h8:=rE hk
           subst h8
           exact aRS ho hx hy h9 hob
         cases h9
       cases h
     cases h
   cases h
 · split at h
   · rename_i hx
     split at h
     · rename_i hv;cases h;rw [gV] at hv;exact Qy.extract hx hv
     cases h
   cases h
 · split at h
   · rename_i hx;cases h;exact Qy.nilCheck hx
   cases h
 · split at h
   · rename_i k hk
     split at h
     · rename_i hx;cases h;exact Qy.fieldAddr (aAR T.faP hk) hx
     cases h
   cases h
 · split at h
   · split at h
     · rename_i hx
       split at h
       · rename_i hH
         split at h
         · rename_i h1
           split at h
           · rename_i hv
             cases h
             subst hob
             rw [gV] at hv
             exact Qy.load _ (uF T.oneP h1) hx hH hv
           cases h
         split at h
         · rename_i k hk
           rcases aE h with ⟨hc,h⟩ | ⟨_,h⟩
           · cases h
             subst hob
             simp only [Bool.and_eq_true] at hc
             have h0:=Nat.eq_of_beq_eq_true hc.1
             subst h0
             exact aDL _ (rD T.aggP hk).1 hx hH (Nat.eq_of_beq_eq_true hc.2)
           cases h
         cases h
       cases h
     cases h
   cases h
 · split at h
   · rename_i h1
     split at h
     · rename_i hx
       cases h
       obtain ⟨E,sz,hT⟩:=aFJ T.slP h1
       exact Qy.len hT hx
     cases h
   cases h
 cases h
inductive Fr where
 | seq (y:Code)
 | thn (K:Act→World→Prop)
 | blk (id:Nat)
def den (P:Program) (r:Option Nat) (Q0:Exit→Act→World→Prop):List Fr→Exit→Act→World→Prop
 | []=>Q0
 | .seq y :: k=>Exit.then (y.wpIn (FF r) 0 P (den P r Q0 k)) (den P r Q0 k)
 | .thn K :: k=>Exit.then K (den P r Q0 k)
 | .blk id :: k=>Exit.inBlock id (den P r Q0 k)
def Reify (P:Program) (r:Option Nat) (Q:Exit→Act→World→Prop) (k:List Fr) (Q0:Exit→Act→World→Prop):Prop:=Q=den P r Q0 k
theorem Reify.seq {P:Program} {r:Option Nat} {Q Q0:Exit→Act→World→Prop} {k:List Fr} {y:Code} (h:Reify P r Q k Q0):Reify P r (Exit.then (y.wpIn (FF r) 0 P Q) Q) (.seq y :: k) Q0:=by
 unfold Reify at *;subst h;rfl
theorem Reify.thn {P:Program} {r:Option Nat} {Q Q0:Exit→Act→World→Prop} {k:List Fr} {K:Act→World→Prop} (h:Reify P r Q k Q0):Reify P r (Exit.then K Q) (.thn K :: k) Q0:=by
 unfold Reify at *;subst h;rfl
theorem Reify.blk {P:Program} {r:Option Nat} {Q Q0:Exit→Act→World→Prop} {k:List Fr} {id:Nat} (h:Reify P r Q k Q0):Reify P r (Exit.inBlock id Q) (.blk id :: k) Q0:=by
 unfold Reify at *;subst h;rfl
theorem eG {P:Program} {r r':Option Nat} {Q0 Q1:Exit→Act→World→Prop} {k:List Fr} (h:Reify P r Q0 k Q1):Reify P r (den P r' Q0 []) k Q1:=h
theorem eH {P:Program} {r:Option Nat} {Q0 Q1:Exit→Act→World→Prop} {k k':List Fr} {y:Code} (h:Reify P r (den P r Q0 k) k' Q1):Reify P r (den P r Q0 (.seq y :: k)) (.seq y :: k') Q1:=Reify.seq h
theorem eI {P:Program} {r:Option Nat} {Q0 Q1:Exit→Act→World→Prop} {k k':List Fr} {K:Act→World→Prop} (h:Reify P r (den P r Q0 k) k' Q1):Reify P r (den P r Q0 (.thn K :: k)) (.thn K :: k') Q1:=Reify.thn h
theorem eJ {P:Program} {r:Option Nat} {Q0 Q1:Exit→Act→World→Prop} {k k':List Fr} {id:Nat} (h:Reify P r (den P r Q0 k) k' Q1):Reify P r (den P r Q0 (.blk id :: k)) (.blk id :: k') Q1:=Reify.blk h
theorem Reify.none {P:Program} {Q:Exit→Act→World→Prop}:Reify P .none Q [] Q:=rfl
theorem Reify.any {P:Program} {r:Option Nat} {Q:Exit→Act→World→Prop}:Reify P r Q [] Q:=rfl
inductive Fo where
 | c (c:Code)
 | l (ops:Array Oper) (l:List Oper)
 | a (x:Exit)
def kF:List Oper→Nat→Option Nat
 | [],_=>none
 | x :: l,n=>bif Nat.beq n 0 then x.dst else kF l (Nat.pred n)
theorem lL:∀ (l:List Oper) (n:Nat),kF l n=(l[n]?).bind (·.dst)
 | [],n=>by simp [kF]
 | x :: l,n=>by
   unfold kF
   cases n with
   | zero=>rfl
   | succ n=>simp only [Nat.beq,cond_false,Nat.pred_succ,lL l n,List.getElem?_cons_succ]
abbrev Cf:=Fo×List Fr×Env×Hp×List Nat
def aKN (P:Program) [Tab P] (n:Nat) (ops:Array Oper) (k:List Fr) (e:Env) (H:Hp) (hs:List Nat) (rest:List Oper):Oper→Option (Cf×Prop)
 | ⟨some d,o,_,_,_,none⟩=>match Nat.ble (d+1) n with
   | true=>match qev P e H hs o with
     | some (v,hs,ob)=>some ((.l ops rest,k,(d,v) :: e,H,hs),ob)
     | none=>none
   | false=>none
 | ⟨none,.store T x y,_,_,_,none⟩=>match hs with
   | t :: hs=>match e.ev x with
     | some (.pointer (some ⟨b,off,none⟩))=>match H.get t with
       | some (some b',.cells ⟨cs⟩ bt (0,0))=>match e.ev y with
         | some v=>match yU (Tab.one P) T with
           | true=>bif v.oneCell' && Nat.ble (off+1) cs.length then some ((.l ops rest,k,e,(t,some b',.cells (cs.set off v).toArray bt (0,0)) :: H,hs),b=b') else none
           | false=>match lookN (Tab.agg P) T with
             | some m=>match v with
               | .agg ⟨vs⟩=>bif Nat.beq off 0 && (Nat.beq vs.length m && (Nat.beq vs.length cs.length && vs.all (·.oneCell'))) then some ((.l ops rest,k,e,(t,some b',.cells vs.toArray bt (0,0)) :: H,hs),b=b') else none
               | _=>none
             | none=>none
         | none=>none
       | _=>none
     | _=>none
   | []=>none
 | ⟨dst,o,ty,pos,after,some (j,w)⟩=>match kF ops.toList j with
   | some t=>match e.get t with
     | some (.bool b)=>bif (match b,w with | true,true=>true | false,false=>true | _,_=>false) then some ((.l ops (⟨dst,o,ty,pos,after,none⟩ :: rest),k,e,H,hs),True)
       else match dst with
        | some d=>bif Nat.ble (d+1) n then some ((.l ops rest,k,(d,undef) :: e,H,hs),True) else none
        | none=>none
     | _=>none
   | none=>none
 | _=>none
def stq (P:Program) [Tab P] (n:Nat):Fo→List Fr→Env→Hp→List Nat→Option (Cf×Prop)
 | .c (.seq x y),k,e,H,hs=>some ((.c x,.seq y :: k,e,H,hs),True)
 | .c .skip,k,e,H,hs=>some ((.a .normal,k,e,H,hs),True)
 | .c (.label _),k,e,H,hs=>some ((.a .normal,k,e,H,hs),True)
 | .c (.exit id),k,e,H,hs=>some ((.a (.exit id),k,e,H,hs),True)
 | .c .ret,k,e,H,hs=>some ((.a .ret,k,e,H,hs),True)
 | .c (.block id c),k,e,H,hs=>some ((.c c,.blk id :: k,e,H,hs),True)
 | .c (.region _ ⟨l⟩ false),k,e,H,hs=>bif l.all bZ then some ((.l l.toArray l,k,e,H,hs),True) else none
 | .c (.cond c x y),k,e,H,h :: hs=>match e.ev c with
   | some (.bool b)=>bif Nat.beq h 1 then some ((.c x,k,e,H,hs),b=true) else some ((.c y,k,e,H,hs),b=false)
   | _=>none
 | .a .normal,.seq y :: k,e,H,hs=>some ((.c y,k,e,H,hs),True)
 | .a .normal,.blk _ :: k,e,H,hs=>some ((.a .normal,k,e,H,hs),True)
 | .a (.exit id),.blk j :: k,e,H,hs=>bif Nat.beq id j then some ((.a .normal,k,e,H,hs),True) else some ((.a (.exit id),k,e,H,hs),True)
 | .a (.exit id),_ :: k,e,H,hs=>some ((.a (.exit id),k,e,H,hs),True)
 | .a .ret,_ :: k,e,H,hs=>some ((.a .ret,k,e,H,hs),True)
 | .l _ [],k,e,H,hs=>some ((.a .normal,k,e,H,hs),True)
 | .l ops (o :: rest),k,e,H,hs=>aKN P n ops k e H hs rest o
 | _,_,_,_,_=>none
def run (P:Program) [Tab P] (n:Nat):Nat→Fo→List Fr→Env→Hp→List Nat→Option (Cf×Prop)
 | 0,f,k,e,H,hs=>some ((f,k,e,H,hs),True)
 | m+1,f,k,e,H,hs=>match stq P n f k e H hs with
   | some ((f,k,e,H,hs),ob)=>match run P n m f k e H hs with
     | some (c,obs)=>some (c,ob∧obs)
     | none=>none
   | none=>none
section
variable {P:Program} {r:Option Nat} {B:Bs} {D:List Deferred} {G:Imm} {Q0:Exit→Act→World→Prop}
def nH (P:Program) (r:Option Nat) (B:Bs) (D:List Deferred) (G:Imm) (Q0:Exit→Act→World→Prop):Cf→Prop
 | (.c c,k,e,H,_)=>Wc r P c B ⟨e,D,H,G⟩ (den P r Q0 k)
 | (.l ops l,k,e,H,_)=>Wl P ops l B ⟨e,D,H,G⟩ (den P r Q0 k .normal)
 | (.a x,k,e,H,_)=>Ar (den P r Q0 k) x B ⟨e,D,H,G⟩
theorem aKO [T:Tab P] {ops:Array Oper} {k:List Fr} {e:Env} {H:Hp} {hs:List Nat} {rest:List Oper} {o:Oper} {c:Cf} {ob:Prop} (h:aKN P B.n ops k e H hs rest o=some (c,ob)) (hob:ob) (hg:nH P r B D G Q0 c) :
 nH P r B D G Q0 (.l ops (o :: rest),k,e,H,hs):=by
 unfold aKN at h
 split at h
 · split at h
   · rename_i hn
     split at h
     · rename_i hq;cases h;exact Wl.q hn (aDQ hq hob) hg
     cases h
   cases h
 · split at h
   · split at h
     · rename_i hx
       split at h
       · rename_i hH
         split at h
         · rename_i v hy
           split at h
           · rename_i h1
             rcases aE h with ⟨hc,h⟩ | ⟨_,h⟩
             · cases h
               subst hob
               simp only [Bool.and_eq_true] at hc
               exact Wl.store _ (uF T.oneP h1) hx hy hc.1 hH hc.2 hg
             cases h
           split at h
           · rename_i m hm
             split at h
             · rename_i vs
               rcases aE h with ⟨hc,h⟩ | ⟨_,h⟩
               · cases h
                 subst hob
                 simp only [Bool.and_eq_true] at hc
                 have h0:=Nat.eq_of_beq_eq_true hc.1
                 subst h0
                 exact aAK _ (rD T.aggP hm).2 hx hy (Nat.eq_of_beq_eq_true hc.2.1) hc.2.2.2 hH hc.2.2.1 hg
               cases h
             cases h
           cases h
         cases h
       cases h
     cases h
   cases h
 · split at h
   · rename_i t ht
     rw [lL] at ht
     split at h
     · rename_i b hb
       rcases aE h with ⟨hw,h⟩ | ⟨hw,h⟩
       · cases h
         refine Wl.want (t:=t) (by simpa using ht) (hb.trans ?_) hg
         split at hw <;> first | rfl | cases hw
       split at h
       · rcases aE h with ⟨hn,h⟩ | ⟨_,h⟩
         · cases h
           refine Wl.pass (t:=t) (by simpa using ht) (hb.trans ?_) hn hg
           rename_i w _ _ _ _ _
           cases b <;> cases w <;> first | rfl | cases hw
         cases h
       cases h
     cases h
   cases h
 cases h
theorem aRT [T:Tab P] {f:Fo} {k:List Fr} {e:Env} {H:Hp} {hs:List Nat} {c:Cf} {ob:Prop} (h:stq P B.n f k e H hs=some (c,ob)) (hob:ob) (hg:nH P r B D G Q0 c) :
 nH P r B D G Q0 (f,k,e,H,hs):=by
 unfold stq at h
 split at h
 · cases h;exact Wc.seq hg
 · cases h;exact Wc.skip hg
 · cases h;exact Wc.label hg
 · cases h;exact Wc.exit hg
 · cases h;exact Wc.ret hg
 · cases h;exact Wc.block hg
 · rcases aE h with ⟨hd,h⟩ | ⟨_,h⟩
   · cases h;exact Wc.region hd hg
   cases h
 · split at h
   · rename_i b hb
     rcases aE h with ⟨_,h⟩ | ⟨_,h⟩
     · cases h;subst hob;exact aKB hb hg
     cases h;subst hob;exact aKC hb hg
   cases h
 · cases h;exact Ar.next hg
 · cases h;exact lF hg
 · rcases aE h with ⟨hd,h9⟩ | ⟨hd,h9⟩
   · have h8:=Nat.eq_of_beq_eq_true hd
     subst h8
     cases h9;exact aFD hg
   cases h9;exact aDJ hd hg
 · rename_i id fr k hne
   cases h
   cases fr with
   | seq y=>exact jV hg
   | thn K=>exact jV hg
   | blk j=>exact (hne j rfl).elim
 · rename_i fr k
   cases h
   cases fr with
   | seq y=>exact jE hg
   | thn K=>exact jE hg
   | blk j=>exact qX hg
 · cases h;exact Wl.done hg
 · exact aKO h hob hg
 cases h
theorem run_ok [T:Tab P]:∀ {m:Nat} {f:Fo} {k:List Fr} {e:Env} {H:Hp} {hs:List Nat} {c:Cf} {ob:Prop},run P B.n m f k e H hs=some (c,ob)→ob→nH P r B D G Q0 c→nH P r B D G Q0 (f,k,e,H,hs)
 | 0,f,k,e,H,hs,c,ob,h,hob,hg=>by cases h;exact hg
 | m+1,f,k,e,H,hs,c,ob,h,hob,hg=>by
   unfold run at h
   split at h
   · rename_i h1
     split at h
     · rename_i h2
       cases h
       exact aRT h1 hob.1 (run_ok h2 hob.2 hg)
     cases h
   cases h
end
section
variable {P:Program} [Tab P] {r:Option Nat} {B:Bs} {D:List Deferred} {G:Imm} {Q Q0:Exit→Act→World→Prop} {k k':List Fr} {e e':Env} {H H':Hp} {hs':List Nat} {ob:Prop} {c c':Code} {l l':List Oper} {ops ops':Array Oper} {x x':Exit}
theorem Wc.gc (n:Nat) (hs:List Nat) (hg:Wc r P c' B ⟨e',D,H',G⟩ (den P r Q0 k')) (hr:Reify P r Q k Q0:=by (repeat with_reducible (first | apply eG | apply eH | apply eJ | apply eI | apply Reify.seq | apply Reify.blk | apply Reify.thn));first | exact Reify.none | exact Reify.any) (h:run P B.n n (.c c) k e H hs=some ((.c c',k',e',H',hs'),ob):=by exact rfl) (hob:ob:=by (repeat refine And.intro (by first | exact trivial | with_reducible rfl | assumption | exact decide_eq_true (by first | assumption | omega) | exact decide_eq_false (by first | assumption | omega) | omega | rfl) ?_);exact trivial):Wc r P c B ⟨e,D,H,G⟩ Q:=by
 unfold Reify at hr;subst hr
 exact run_ok h hob hg
theorem Wc.gl (n:Nat) (hs:List Nat) (hg:Wl P ops' l' B ⟨e',D,H',G⟩ (den P r Q0 k' .normal)) (hr:Reify P r Q k Q0:=by (repeat with_reducible (first | apply eG | apply eH | apply eJ | apply eI | apply Reify.seq | apply Reify.blk | apply Reify.thn));first | exact Reify.none | exact Reify.any) (h:run P B.n n (.c c) k e H hs=some ((.l ops' l',k',e',H',hs'),ob):=by exact rfl) (hob:ob:=by (repeat refine And.intro (by first | exact trivial | with_reducible rfl | assumption | exact decide_eq_true (by first | assumption | omega) | exact decide_eq_false (by first | assumption | omega) | omega | rfl) ?_);exact trivial):Wc r P c B ⟨e,D,H,G⟩ Q:=by
 unfold Reify at hr;subst hr
 exact run_ok h hob hg
theorem Wc.ga (n:Nat) (hs:List Nat) (hg:Ar (den P r Q0 k') x' B ⟨e',D,H',G⟩) (hr:Reify P r Q k Q0:=by (repeat with_reducible (first | apply eG | apply eH | apply eJ | apply eI | apply Reify.seq | apply Reify.blk | apply Reify.thn));first | exact Reify.none | exact Reify.any) (h:run P B.n n (.c c) k e H hs=some ((.a x',k',e',H',hs'),ob):=by exact rfl) (hob:ob:=by (repeat refine And.intro (by first | exact trivial | with_reducible rfl | assumption | exact decide_eq_true (by first | assumption | omega) | exact decide_eq_false (by first | assumption | omega) | omega | rfl) ?_);exact trivial):Wc r P c B ⟨e,D,H,G⟩ Q:=by
 unfold Reify at hr;subst hr
 exact run_ok h hob hg
theorem Wl.gc (n:Nat) (hs:List Nat) (hg:Wc r P c' B ⟨e',D,H',G⟩ (den P r Q0 k')) (hr:Reify P r Q k Q0:=by (repeat with_reducible (first | apply eG | apply eH | apply eJ | apply eI | apply Reify.seq | apply Reify.blk | apply Reify.thn));first | exact Reify.none | exact Reify.any) (h:run P B.n n (.l ops l) k e H hs=some ((.c c',k',e',H',hs'),ob):=by exact rfl) (hob:ob:=by (repeat refine And.intro (by first | exact trivial | with_reducible rfl | assumption | exact decide_eq_true (by first | assumption | omega) | exact decide_eq_false (by first | assumption | omega) | omega | rfl) ?_);exact trivial):Wl P ops l B ⟨e,D,H,G⟩ (Q .normal):=by
 unfold Reify at hr;subst hr
 exact run_ok h hob hg
theorem Wl.gl (n:Nat) (hs:List Nat) (hg:Wl P ops' l' B ⟨e',D,H',G⟩ (den P r Q0 k' .normal)) (hr:Reify P r Q k Q0:=by (repeat with_reducible (first | apply eG | apply eH | apply eJ | apply eI | apply Reify.seq | apply Reify.blk | apply Reify.thn));first | exact Reify.none | exact Reify.any) (h:run P B.n n (.l ops l) k e H hs=some ((.l ops' l',k',e',H',hs'),ob):=by exact rfl) (hob:ob:=by (repeat refine And.intro (by first | exact trivial | with_reducible rfl | assumption | exact decide_eq_true (by first | assumption | omega) | exact decide_eq_false (by first | assumption | omega) | omega | rfl) ?_);exact trivial):Wl P ops l B ⟨e,D,H,G⟩ (Q .normal):=by
 unfold Reify at hr;subst hr
 exact run_ok h hob hg
theorem Wl.ga (n:Nat) (hs:List Nat) (hg:Ar (den P r Q0 k') x' B ⟨e',D,H',G⟩) (hr:Reify P r Q k Q0:=by (repeat with_reducible (first | apply eG | apply eH | apply eJ | apply eI | apply Reify.seq | apply Reify.blk | apply Reify.thn));first | exact Reify.none | exact Reify.any) (h:run P B.n n (.l ops l) k e H hs=some ((.a x',k',e',H',hs'),ob):=by exact rfl) (hob:ob:=by (repeat refine And.intro (by first | exact trivial | with_reducible rfl | assumption | exact decide_eq_true (by first | assumption | omega) | exact decide_eq_false (by first | assumption | omega) | omega | rfl) ?_);exact trivial):Wl P ops l B ⟨e,D,H,G⟩ (Q .normal):=by
 unfold Reify at hr;subst hr
 exact run_ok h hob hg
theorem Ar.gc (n:Nat) (hs:List Nat) (hg:Wc r P c' B ⟨e',D,H',G⟩ (den P r Q0 k')) (hr:Reify P r Q k Q0:=by (repeat with_reducible (first | apply eG | apply eH | apply eJ | apply eI | apply Reify.seq | apply Reify.blk | apply Reify.thn));first | exact Reify.none | exact Reify.any) (h:run P B.n n (.a x) k e H hs=some ((.c c',k',e',H',hs'),ob):=by exact rfl) (hob:ob:=by (repeat refine And.intro (by first | exact trivial | with_reducible rfl | assumption | exact decide_eq_true (by first | assumption | omega) | exact decide_eq_false (by first | assumption | omega) | omega | rfl) ?_);exact trivial):Ar Q x B ⟨e,D,H,G⟩:=by
 unfold Reify at hr;subst hr
 exact run_ok h hob hg
theorem Ar.gl (n:Nat) (hs:List Nat) (hg:Wl P ops' l' B ⟨e',D,H',G⟩ (den P r Q0 k' .normal)) (hr:Reify P r Q k Q0:=by (repeat with_reducible (first | apply eG | apply eH | apply eJ | apply eI | apply Reify.seq | apply Reify.blk | apply Reify.thn));first | exact Reify.none | exact Reify.any) (h:run P B.n n (.a x) k e H hs=some ((.l ops' l',k',e',H',hs'),ob):=by exact rfl) (hob:ob:=by (repeat refine And.intro (by first | exact trivial | with_reducible rfl | assumption | exact decide_eq_true (by first | assumption | omega) | exact decide_eq_false (by first | assumption | omega) | omega | rfl) ?_);exact trivial):Ar Q x B ⟨e,D,H,G⟩:=by
 unfold Reify at hr;subst hr
 exact run_ok h hob hg
theorem Ar.ga (n:Nat) (hs:List Nat) (hg:Ar (den P r Q0 k') x' B ⟨e',D,H',G⟩) (hr:Reify P r Q k Q0:=by (repeat with_reducible (first | apply eG | apply eH | apply eJ | apply eI | apply Reify.seq | apply Reify.blk | apply Reify.thn));first | exact Reify.none | exact Reify.any) (h:run P B.n n (.a x) k e H hs=some ((.a x',k',e',H',hs'),ob):=by exact rfl) (hob:ob:=by (repeat refine And.intro (by first | exact trivial | with_reducible rfl | assumption | exact decide_eq_true (by first | assumption | omega) | exact decide_eq_false (by first | assumption | omega) | omega | rfl) ?_);exact trivial):Ar Q x B ⟨e,D,H,G⟩:=by
 unfold Reify at hr;subst hr
 exact run_ok h hob hg
theorem aA {K:Act→World→Prop} (n:Nat) (hs:List Nat) (hg:Wl P ops' l' B ⟨e',D,H',G⟩ K) (h:run P B.n n (.l ops l) [] e H hs=some ((.l ops' l',[],e',H',hs'),ob):=by exact rfl) (hob:ob:=by (repeat refine And.intro (by first | exact trivial | with_reducible rfl | assumption | exact decide_eq_true (by first | assumption | omega) | exact decide_eq_false (by first | assumption | omega) | omega | rfl) ?_);exact trivial):Wl P ops l B ⟨e,D,H,G⟩ K:=
 run_ok (r:=none) (Q0:=fun _=>K) h hob hg
end
section
variable {P:Program} {B:Bs} {e:Env} {D:List Deferred} {H H0:Hp} {G G0:Imm} {K:Act→World→Prop} {ops:Array Oper} {l rest:List Oper} {f:Nat} {listed:Array Bool} {wr:List (Nat×Nat)} {ty:TypeId} {pos:String} {after:Array Edge} {d:Nat}
theorem Gm.o1 {o:Oper} (i:Nat) (h:Wl P l.toArray [o] B ⟨e,D,H,G⟩ (mF P l.toArray f (listed.setIfInBounds i true) wr H0 G0 K)) (hH:H.sub (H0.live wr listed):=by repeat (first | exact trivial | refine ⟨rfl,?_⟩)) (hG:G0.le G:=by first | exact Imm.le_refl _ | repeat (first | assumption | refine Imm.le_trans ?_ ‹_›)) (hr:Region.ready .any l.toArray listed=[i]:=by kernel_rfl) (ho:l[i]?=some o:=by exact rfl) :
 Gm P l.toArray (f+1) listed wr H0 G0 B ⟨e,D,H,G⟩ K:=Gm.one i hH hG hr ho h
theorem Gm.o2 {o1 o2:Oper} (i j:Nat) (g1:Wl P l.toArray [o1] B ⟨e,D,H,G⟩ (mF P l.toArray f (listed.setIfInBounds i true) wr H0 G0 K)) (g2:Wl P l.toArray [o2] B ⟨e,D,H,G⟩ (mF P l.toArray f (listed.setIfInBounds j true) wr H0 G0 K))
 (hH:H.sub (H0.live wr listed):=by repeat (first | exact trivial | refine ⟨rfl,?_⟩)) (hG:G0.le G:=by first | exact Imm.le_refl _ | repeat (first | assumption | refine Imm.le_trans ?_ ‹_›)) (hr:Region.ready .any l.toArray listed=[i,j]:=by kernel_rfl) (h1:l[i]?=some o1:=by exact rfl) (h2:l[j]?=some o2:=by exact rfl) :
 Gm P l.toArray (f+1) listed wr H0 G0 B ⟨e,D,H,G⟩ K:=aRR i j hH hG hr h1 h2 g1 g2
theorem Gm.o3 {o1 o2 o3:Oper} (i j k:Nat) (g1:Wl P l.toArray [o1] B ⟨e,D,H,G⟩ (mF P l.toArray f (listed.setIfInBounds i true) wr H0 G0 K)) (g2:Wl P l.toArray [o2] B ⟨e,D,H,G⟩ (mF P l.toArray f (listed.setIfInBounds j true) wr H0 G0 K)) (g3:Wl P l.toArray [o3] B ⟨e,D,H,G⟩ (mF P l.toArray f (listed.setIfInBounds k true) wr H0 G0 K))
 (hH:H.sub (H0.live wr listed):=by repeat (first | exact trivial | refine ⟨rfl,?_⟩)) (hG:G0.le G:=by first | exact Imm.le_refl _ | repeat (first | assumption | refine Imm.le_trans ?_ ‹_›)) (hr:Region.ready .any l.toArray listed=[i,j,k]:=by kernel_rfl) (h1:l[i]?=some o1:=by exact rfl) (h2:l[j]?=some o2:=by exact rfl) (h3:l[k]?=some o3:=by exact rfl) :
 Gm P l.toArray (f+1) listed wr H0 G0 B ⟨e,D,H,G⟩ K:=aKF i j k hH hG hr h1 h2 h3 g1 g2 g3
theorem Gm.fin {Q:Exit→Act→World→Prop} {x:Exit} (h:Ar Q x B ⟨e,D,H,G⟩) (hr:Region.ready .any ops listed=[]:=by kernel_rfl) (hH:H.sub (H0.live wr listed):=by repeat (first | exact trivial | refine ⟨rfl,?_⟩)) (hG:G0.le G:=by first | exact Imm.le_refl _ | repeat (first | assumption | refine Imm.le_trans ?_ ‹_›)):Gm P ops 0 listed wr H0 G0 B ⟨e,D,H,G⟩ (Q x):=
 mG hr hH hG h
theorem Gm.u {o:Op} {v:Value} (i:Nat) (ts:List Nat) (ho:l[i]?=some ⟨some d,o,ty,pos,after,none⟩) (hq:Qy P o ty e (H0.only ts) G0 v) (h:Gm P l.toArray f (listed.setIfInBounds i true) wr H0 G0 B ⟨(d,v) :: e,D,H,G⟩ K)
 (hn:Nat.ble (d+1) B.n=true:=by exact rfl) (hB:gU l.toArray listed wr i ts=true:=by kernel_rfl):Gm P l.toArray (f+1) listed wr H0 G0 B ⟨e,D,H,G⟩ K:=
 Gm.q i ts hB ho hn hq h
theorem Wl.k [T:Tab P] {f:FuncId} {xs:Array Operand} {ats:Array TypeId} {vs:List Value} {Hi:Hp} {post:Value→Imm→Hp→Prop} (k:Nat) (hx:e.evs xs.toList=some vs) (hF:Does P f vs G Hi post) (h:∀ v G' Ho,G.le G'→post v G' Ho→Wl P ops rest B ⟨(d,v) :: e,D,Ho.shift k++(Hi.kill k++H),G'⟩ K)
 (hn:Nat.ble (d+1) B.n=true:=by exact rfl) (hf:yU (Tab.fn P) f=true:=by exact rfl) (hHi:∀ t x,Hi.get t=some x→H.get (k+t)=some x:=by first | exact bO trivial | exact bO ⟨rfl,trivial⟩ | exact bO ⟨rfl,rfl,trivial⟩ | exact bO ⟨rfl,rfl,rfl,trivial⟩) :
 Wl P ops (⟨some d,.call { callee:=.value (.func f),args:=xs,argTypes:=ats },ty,pos,after,none⟩ :: rest) B ⟨e,D,H,G⟩ K:=Wl.call k hn (yV T.fnP hf) hx hF hHi h
theorem Wl.k0 [T:Tab P] {f:FuncId} {xs:Array Operand} {ats:Array TypeId} {vs:List Value} {r:Value} (hx:e.evs xs.toList=some vs) (hF:Does P f vs G [] (fun v G' Ho=>v=r∧G'=G∧Ho=[])) (h:Wl P ops rest B ⟨(d,r) :: e,D,H,G⟩ K)
 (hn:Nat.ble (d+1) B.n=true:=by exact rfl) (hf:yU (Tab.fn P) f=true:=by exact rfl) :
 Wl P ops (⟨some d,.call { callee:=.value (.func f),args:=xs,argTypes:=ats },ty,pos,after,none⟩ :: rest) B ⟨e,D,H,G⟩ K:=aKE hn (yV T.fnP hf) hx hF h
end
section
variable {P:Program} {fn:Func} {G0:Imm} {Hi:Hp} {w0:World} {post:Value→Imm→Hp→Prop} {n:Nat} {e:Env} {H:Hp} {G:Imm} {x:Exit} {t1 t2 t3:Nat} {v1 v2 v3:Value}
theorem Ar.e1 (hp:post v1 G (H.only [])) (hx:x=.normal∨x=.ret:=by exact .inr rfl) (hres:fn.results=#[.tmp t1]:=by exact rfl) (h1:e.get t1=some v1:=by exact rfl):Ar (Out P fn G0 Hi w0 post) x ⟨n,w0,Hi.has,G0⟩ ⟨e,[],H,G⟩:=
 aT hx hres (.tmp h1) (aC _ _) hp
theorem Ar.e2 (hp:post (.tuple #[v1,v2]) G (H.only [])) (hx:x=.normal∨x=.ret:=by exact .inr rfl) (hres:fn.results=#[.tmp t1,.tmp t2]:=by exact rfl) (h1:e.get t1=some v1:=by exact rfl) (h2:e.get t2=some v2:=by exact rfl):Ar (Out P fn G0 Hi w0 post) x ⟨n,w0,Hi.has,G0⟩ ⟨e,[],H,G⟩:=
 bQ hx hres (.tmp h1) (.tmp h2) (aC _ _) hp
theorem Ar.e3 (hp:post (.tuple #[v1,v2,v3]) G (H.only [])) (hx:x=.normal∨x=.ret:=by exact .inr rfl) (hres:fn.results=#[.tmp t1,.tmp t2,.tmp t3]:=by exact rfl) (h1:e.get t1=some v1:=by exact rfl) (h2:e.get t2=some v2:=by exact rfl) (h3:e.get t3=some v3:=by exact rfl) :
 Ar (Out P fn G0 Hi w0 post) x ⟨n,w0,Hi.has,G0⟩ ⟨e,[],H,G⟩:=lJ hx hres (.tmp h1) (.tmp h2) (.tmp h3) (aC _ _) hp
end
section
variable {P:Program} {B:Bs} {e:Env} {D:List Deferred} {H:Hp} {G:Imm}
theorem pK {ι:Type} {r:Option Nat} {x y:Code} {Q:Exit→Act→World→Prop} (I:ι→Env×Hp) (J:ι→Imm) (φ:ι→Prop)
 (h1:Wc r P x B ⟨e,D,H,G⟩ (Exit.then (Meet B (fun i=>⟨(I i).1,D,(I i).2,J i⟩) φ) Q)) (h2:∀ i,φ i→Wc r P y B ⟨(I i).1,D,(I i).2,J i⟩ Q):Wc r P (.seq x y) B ⟨e,D,H,G⟩ Q:=by
 refine Wc.seq fun a w hh b k cs hro hb hr=>?_
 obtain ⟨ex,a',w',hq,ha⟩:=h1 a w hh b k cs hro hb hr
 refine ⟨ex,a',w',?_,ha⟩
 cases ex with
 | normal=>obtain ⟨j,hj,hI⟩:=hq;exact h2 j hj a' w' hI
 | _=>exact hq
end
section
variable {P:Program} {e:Env} {H:Hp} {G:Imm} {ty:TypeId} {t t':TypeId} {x y:Operand} {m n:Int}
theorem fF (hx:e.ev x=some (.int .u32 m)) (hy:e.ev y=some (.int .u32 n)) (hb:0≤m+n∧m+n≤4294967295):Qy P (.binOp .add t x y t') ty e H G (.int .u32 (m+n)):=by
 have:=oZ (P:=P) (H:=H) (G:=G) (ty:=ty) (t:=t) (t':=t') hx hy;rwa [IntWalk.u32_in _ hb] at this
theorem bV (hx:e.ev x=some (.int .u64 m)) (hy:e.ev y=some (.int .u64 n)) (hb:0≤m+n∧m+n≤18446744073709551615):Qy P (.binOp .add t x y t') ty e H G (.int .u64 (m+n)):=by
 have:=oZ (P:=P) (H:=H) (G:=G) (ty:=ty) (t:=t) (t':=t') hx hy;rwa [IntWalk.u64_in _ hb] at this
theorem nI (hx:e.ev x=some (.int .u32 m)) (hy:e.ev y=some (.int .u32 n)) (hb:0≤m - n∧m - n≤4294967295):Qy P (.binOp .sub t x y t') ty e H G (.int .u32 (m - n)):=by
 have:=pA (P:=P) (H:=H) (G:=G) (ty:=ty) (t:=t) (t':=t') hx hy;rwa [IntWalk.u32_in _ hb] at this
theorem dA (hx:e.ev x=some (.int .u64 m)) (hy:e.ev y=some (.int .u64 n)) (hb:0≤m - n∧m - n≤18446744073709551615):Qy P (.binOp .sub t x y t') ty e H G (.int .u64 (m - n)):=by
 have:=pA (P:=P) (H:=H) (G:=G) (ty:=ty) (t:=t) (t':=t') hx hy;rwa [IntWalk.u64_in _ hb] at this
theorem aHQ (hx:e.ev x=some (.int .u32 m)) (hy:e.ev y=some (.int .u32 n)) (hb:0≤m*n∧m*n≤4294967295):Qy P (.binOp .mul t x y t') ty e H G (.int .u32 (m*n)):=by
 have:=eX (P:=P) (H:=H) (G:=G) (ty:=ty) (t:=t) (t':=t') hx hy;rwa [IntWalk.u32_in _ hb] at this
theorem fW (hx:e.ev x=some (.int .u64 m)) (hy:e.ev y=some (.int .u64 n)) (hb:0≤m*n∧m*n≤18446744073709551615):Qy P (.binOp .mul t x y t') ty e H G (.int .u64 (m*n)):=by
 have:=eX (P:=P) (H:=H) (G:=G) (ty:=ty) (t:=t) (t':=t') hx hy;rwa [IntWalk.u64_in _ hb] at this
theorem uG {m n:Int} (h:0≤m):m.tdiv n=m / n:=Int.tdiv_eq_ediv_of_nonneg h
theorem aKP {m n:Int} (h:0≤m):m.tmod n=m % n:=Int.tmod_eq_emod_of_nonneg h
theorem yW {m n:Int} (h:0≤m) (hn:0<n):0≤m / n∧m / n≤m:=⟨Int.ediv_nonneg h (Int.le_of_lt hn),Int.ediv_le_self _ h⟩
theorem iX (hx:e.ev x=some (.int .u32 m)) (hy:e.ev y=some (.int .u32 n)) (hb:0≤m∧m≤4294967295∧0<n):Qy P (.binOp .quo t x y t') ty e H G (.int .u32 (m / n)):=by
 have:=sV (P:=P) (H:=H) (G:=G) (ty:=ty) (t:=t) (t':=t') hx hy (by omega)
 have h1:=yW hb.1 hb.2.2
 rwa [uG hb.1,IntWalk.u32_in _ ⟨h1.1,Int.le_trans h1.2 hb.2.1⟩] at this
theorem gW (hx:e.ev x=some (.int .u64 m)) (hy:e.ev y=some (.int .u64 n)) (hb:0≤m∧m≤18446744073709551615∧0<n):Qy P (.binOp .quo t x y t') ty e H G (.int .u64 (m / n)):=by
 have:=sV (P:=P) (H:=H) (G:=G) (ty:=ty) (t:=t) (t':=t') hx hy (by omega)
 have h1:=yW hb.1 hb.2.2
 rwa [uG hb.1,IntWalk.u64_in _ ⟨h1.1,Int.le_trans h1.2 hb.2.1⟩] at this
theorem fN (hx:e.ev x=some (.int .i64 m)) (hy:e.ev y=some (.int .i64 n)) (hb:0≤m∧m≤9223372036854775807∧0<n):Qy P (.binOp .quo t x y t') ty e H G (.int .i64 (m / n)):=by
 have h1:=yW hb.1 hb.2.2
 have h2:m.tdiv n=m / n:=uG hb.1
 have:=Qy.quo (P:=P) (H:=H) (G:=G) (ty:=ty) (t:=t) (t':=t') hx hy (by omega) (by rw [h2];exact ⟨by omega,by omega⟩)
 rwa [h2] at this
theorem cO {k:IntKind} (hx:e.ev x=some (.int k m)) (hy:e.ev y=some (.int k n)) (hb:0≤m∧0<n):Qy P (.binOp .rem t x y t') ty e H G (.int k (m % n)):=by
 have:=Qy.rem (P:=P) (H:=H) (G:=G) (ty:=ty) (t:=t) (t':=t') hx hy (by omega)
 rwa [aKP hb.1] at this
theorem bX {s:TypeId} {k:IntKind} (hs:(P.underlying s).isSome=true) (ht:P.underlying t=some (.int .u32)) (hx:e.ev x=some (.int k m)) (hb:0≤m∧m≤4294967295):Qy P (.convert s t x) ty e H G (.int .u32 m):=by
 have:=bE (P:=P) (H:=H) (G:=G) (ty:=ty) hs ht hx
 rwa [IntWalk.u32_in _ hb] at this
theorem aI {s:TypeId} {k:IntKind} (hs:(P.underlying s).isSome=true) (ht:P.underlying t=some (.int .u64)) (hx:e.ev x=some (.int k m)) (hb:0≤m∧m≤18446744073709551615):Qy P (.convert s t x) ty e H G (.int .u64 m):=by
 have:=bE (P:=P) (H:=H) (G:=G) (ty:=ty) hs ht hx
 rwa [IntWalk.u64_in _ hb] at this
end
theorem nJ {P:Program} {e:Env} {H:Hp} {G:Imm} {ty T:TypeId} {x:Operand} {i:Nat} {v0 v1 v:Value} (h:∀ (w:World) (v0 v1:Value),(Instr.field T (.agg #[v0,v1]) i).run P w=.ok (#[v0,v1][i]?.getD undef) w)
 (hx:e.ev x=some (.agg #[v0,v1])) (hv:#[v0,v1][i]?.getD undef=v):Qy P (.field T x i) ty e H G v:=fun a w _ _ _ _ hh=>by
 subst hv
 simp [execOp,hh.eval hx,h]
theorem rF (a b:Nat) (ha:a<4294967296) (hb:b<4294967296):bits .and .u32 (a:Int) (b:Int)=((a &&& b:Nat):Int):=by
 have hx:a &&& b<2 ^ 32:=Nat.and_lt_two_pow _ (by omega)
 have h1:(BitVec.ofInt 32 (a:Int)).toNat=a:=by
  rw [BitVec.ofInt_natCast,BitVec.toNat_ofNat];exact Nat.mod_eq_of_lt (by omega)
 have h2:(BitVec.ofInt 32 (b:Int)).toNat=b:=by
  rw [BitVec.ofInt_natCast,BitVec.toNat_ofNat];exact Nat.mod_eq_of_lt (by omega)
 show IntKind.u32.wrap ((BitVec.ofInt 32 (a:Int) &&& BitVec.ofInt 32 (b:Int)).toNat:Int)=_
 rw [BitVec.toNat_and,h1,h2,IntKind.wrap_u32]
 omega
theorem lY (a b:Nat) (ha:a<4294967296) (hb:b<4294967296):bits .or .u32 (a:Int) (b:Int)=((a ||| b:Nat):Int):=by
 have hx:a ||| b<2 ^ 32:=Nat.or_lt_two_pow (by omega) (by omega)
 have h1:(BitVec.ofInt 32 (a:Int)).toNat=a:=by
  rw [BitVec.ofInt_natCast,BitVec.toNat_ofNat];exact Nat.mod_eq_of_lt (by omega)
 have h2:(BitVec.ofInt 32 (b:Int)).toNat=b:=by
  rw [BitVec.ofInt_natCast,BitVec.toNat_ofNat];exact Nat.mod_eq_of_lt (by omega)
 show IntKind.u32.wrap ((BitVec.ofInt 32 (a:Int) ||| BitVec.ofInt 32 (b:Int)).toNat:Int)=_
 rw [BitVec.toNat_or,h1,h2,IntKind.wrap_u32]
 omega
theorem aAS (x:Int) (h:0≤x∧x<4294967296):bits .and .u32 x 1=x % 2:=by
 have h1:=rF x.toNat 1 (by omega) (by omega)
 rw [Nat.and_one_is_mod,Int.toNat_of_nonneg h.1] at h1
 have h2:((x.toNat % 2:Nat):Int)=x % 2:=by omega
 exact h1.trans h2
theorem aDR (x:Int) (s:Nat) (hx:0≤x∧x<65536) (hs:s<16) (hz:x % ((2 ^ (s+1):Nat):Int)=0):bits .or .u32 x ((2 ^ s:Nat):Int)=x+((2 ^ s:Nat):Int):=by
 have hp:2 ^ s<4294967296:=Nat.lt_of_lt_of_le (Nat.pow_lt_pow_right (by decide) hs) (by decide)
 have h1:=lY x.toNat (2 ^ s) (by omega) hp
 rw [Int.toNat_of_nonneg hx.1] at h1
 rw [h1]
 have hz':x.toNat % 2 ^ (s+1)=0:=by
  have h2:((x.toNat % 2 ^ (s+1):Nat):Int)=0:=by rw [Int.natCast_emod,Int.toNat_of_nonneg hx.1];exact hz
  exact Int.ofNat_eq_zero.1 h2
 have h3:=Nat.div_add_mod x.toNat (2 ^ (s+1))
 rw [hz',Nat.add_zero] at h3
 have h4:=Nat.two_pow_add_eq_or_of_lt (b:=2 ^ s) (i:=s+1) (Nat.pow_lt_pow_right (by decide) (Nat.lt_succ_self s)) (x.toNat / 2 ^ (s+1))
 rw [h3] at h4
 rw [←h4,Int.natCast_add,Int.toNat_of_nonneg hx.1]
structure IV where
 neg:Bool
 a:Option Addr
 n:Nat
 c:Nat
instance:Inhabited IV:=⟨⟨false,none,0,0⟩⟩
instance:Cells IV:=⟨2,fun x=>[.bool x.neg,.slice x.a x.n x.c],fun _=>rfl,fun _=>rfl⟩
structure SV where
 a:Option Addr
 n:Nat
 c:Nat
instance:Inhabited SV:=⟨⟨none,0,0⟩⟩
instance:Cells SV:=⟨1,fun x=>[.slice x.a x.n x.c],fun _=>rfl,fun _=>rfl⟩
def Digs (l:List U32):Prop:=∀ d∈l,0≤d.v∧d.v<65536
def aD:List U32→Int
 | []=>0
 | d :: l=>d.v+65536*aD l
def pw (n:Nat):Int:=((65536 ^ n:Nat):Int)
theorem pL:pw 0=1:=rfl
theorem gF (n:Nat):pw (n+1)=65536*pw n:=by unfold pw;rw [Nat.pow_succ,Nat.mul_comm,Int.natCast_mul];rfl
theorem fQ (n:Nat):0<pw n:=by unfold pw;exact Int.ofNat_lt.2 (Nat.pow_pos (by decide))
theorem aDS (m n:Nat):pw (m+n)=pw m*pw n:=by unfold pw;rw [Nat.pow_add,Int.natCast_mul]
theorem xL {m n:Nat} (h:m≤n):pw m≤pw n:=by unfold pw;exact Int.ofNat_le.2 (Nat.pow_le_pow_right (by decide) h)
theorem cR:aD []=0:=rfl
theorem dI (d:U32) (l:List U32):aD (d :: l)=d.v+65536*aD l:=rfl
theorem Digs.nil:Digs []:=fun d h=>by simp at h
theorem Digs.tail {d:U32} {l:List U32} (h:Digs (d :: l)):Digs l:=fun x hx=>h x (List.mem_cons_of_mem _ hx)
theorem Digs.head {d:U32} {l:List U32} (h:Digs (d :: l)):0≤d.v∧d.v<65536:=h d List.mem_cons_self
theorem Digs.append {l m:List U32} (h:Digs l) (h':Digs m):Digs (l++m):=fun x hx=>by
 rcases List.mem_append.1 hx with h1 | h1
 · exact h x h1
 exact h' x h1
theorem Digs.one {d:Int} (h:0≤d∧d<65536):Digs [⟨d⟩]:=fun x hx=>by
 have:x=⟨d⟩:=by simpa using hx
 subst this;exact h
theorem Digs.take {l:List U32} (h:Digs l) (n:Nat):Digs (l.take n):=fun x hx=>h x (List.mem_of_mem_take hx)
theorem Digs.at {l:List U32} (h:Digs l) {m:Int} (hm:0≤m∧m<l.length):0≤(l[m.toNat]?.getD default).v∧(l[m.toNat]?.getD default).v<65536:=by
 have hl:m.toNat<l.length:=by omega
 rw [List.getElem?_eq_getElem hl];exact h _ (List.getElem_mem hl)
theorem cH:∀ {l:List U32},Digs l→0≤aD l
 | [],_=>Int.le_refl 0
 | d :: l,h=>by
   have h1:=cH h.tail
   have h2:=h.head
   rw [dI];omega
theorem fO:∀ {l:List U32},Digs l→aD l<pw l.length
 | [],_=>by decide
 | d :: l,h=>by
   have h1:=fO h.tail
   have h2:=h.head
   rw [dI,List.length_cons,gF];omega
theorem jX:∀ (l m:List U32),aD (l++m)=aD l+pw l.length*aD m
 | [],m=>by rw [List.nil_append,cR,List.length_nil,pL];omega
 | d :: l,m=>by
   rw [List.cons_append,dI,dI,jX l m,List.length_cons,gF,Int.mul_add,←Int.mul_assoc];omega
theorem pM (d:U32):aD [d]=d.v:=by rw [dI,cR];omega
theorem iY (l:List U32) (d:U32):aD (l++[d])=aD l+pw l.length*d.v:=by rw [jX,pM]
theorem mL {l:List U32} {k:Nat} (h:k<l.length):aD (l.take (k+1))=aD (l.take k)+pw k*(l[((k:Nat):Int).toNat]?.getD default).v:=by
 rw [List.take_add_one,Int.toNat_natCast,List.getElem?_eq_getElem h]
 simp only [Option.toList_some,Option.getD_some]
 rw [iY,List.length_take,Nat.min_eq_left (Nat.le_of_lt h)]
theorem aQ {α:Type} {l:List α} {k:Nat} (h:l.length≤k):l.take k=l:=List.take_of_length_le h
theorem jI (n:Nat):aD (List.replicate n ⟨0⟩)=0:=by
 induction n with
 | zero=>rfl
 | succ n ih=>rw [List.replicate_succ,dI,ih];rfl
theorem lM (n:Nat):Digs (List.replicate n ⟨0⟩):=fun x hx=>by
 have:=List.eq_of_mem_replicate hx
 subst this;exact ⟨by decide,by decide⟩
theorem aHR {l:List U32} {n:Nat} (h:∀ j,n≤j→j<l.length→(l[j]?.getD default).v=0):aD (l.take n)=aD l:=by
 rcases Nat.lt_or_ge n l.length with hn | hn
 · have e:l=l.take n++l.drop n:=(List.take_append_drop n l).symm
   have hz:∀ (m:List U32),(∀ j,j<m.length→(m[j]?.getD default).v=0)→aD m=0:=by
    intro m
    induction m with
    | nil=>intro _;rfl
    | cons d m ih =>
      intro h0
      have h1:=h0 0 (by simp)
      simp only [List.getElem?_cons_zero,Option.getD_some] at h1
      rw [dI,h1,ih fun j hj=>by have:=h0 (j+1) (by simpa using hj);simpa using this];rfl
   have h2:aD (l.drop n)=0:=hz _ fun j hj=>by
    rw [List.getElem?_drop]
    exact h (n+j) (by omega) (by rw [List.length_drop] at hj;omega)
   have h3:aD l=aD (l.take n++l.drop n):=by rw [List.take_append_drop]
   rw [h3,jX,h2];omega
 rw [aQ hn]
def Top (l:List U32):Prop:=l=[]∨(l[l.length - 1]?.getD default).v≠0
theorem Top.nil:Top []:=.inl rfl
theorem yX {l:List U32} (hd:Digs l) (ht:Top l) (h0:l≠[]):pw (l.length - 1)≤aD l:=by
 have hl:0<l.length:=List.length_pos_iff.2 h0
 have h1:(l[l.length - 1]?.getD default).v≠0:=by
  rcases ht with h | h
  · exact absurd h h0
  exact h
 have h2:=mL (l:=l) (k:=l.length - 1) (by omega)
 rw [Nat.sub_add_cancel hl,aQ (Nat.le_refl _),Int.toNat_natCast] at h2
 have h3:=cH (hd.take (l.length - 1))
 have h4:(1:Int)≤(l[l.length - 1]?.getD default).v:=by
  have:=hd.at (m:=((l.length - 1:Nat):Int)) (by omega)
  rw [Int.toNat_natCast] at this
  omega
 have h5:=Int.mul_le_mul_of_nonneg_left h4 (Int.le_of_lt (fQ (l.length - 1)))
 omega
theorem aPI {l:List U32} (hd:Digs l) (ht:Top l) {m:Nat} (h:aD l<pw m):l.length≤m:=by
 by_cases h0:l=[]
 · subst h0;exact Nat.zero_le _
 have h1:=yX hd ht h0
 rcases Nat.lt_or_ge m l.length with h2 | h2
 · have h3:=xL (show m≤l.length - 1 by omega)
   omega
 exact h2
theorem sZ {l:List U32} (hd:Digs l) (ht:Top l) (h0:l≠[]):0<aD l:=Int.lt_of_lt_of_le (fQ _) (yX hd ht h0)
theorem jJ {l m:List U32} (hl:Digs l) (hm:Digs m) (tm:Top m) (h:l.length<m.length):aD l<aD m:=by
 have h1:=fO hl
 have h2:=yX hm tm (fun e=>by rw [e] at h;simp at h)
 have h3:=xL (show l.length≤m.length - 1 by omega)
 omega
structure IsInt (neg:Bool) (l:List U32) (z:Int):Prop where
 digs:Digs l
 top:Top l
 sign:l=[]→neg=false
 val:z=if neg=true then -aD l else aD l
theorem IsInt.abs {neg:Bool} {l:List U32} {z:Int} (h:IsInt neg l z):aD l=z.natAbs:=by
 have h1:=cH h.digs
 have h2:=h.val
 split at h2 <;> omega
theorem IsInt.neg_iff {neg:Bool} {l:List U32} {z:Int} (h:IsInt neg l z):neg=decide (z<0):=by
 have h2:=h.val
 by_cases h0:l=[]
 · have h3:=h.sign h0
   subst h0
   rw [h3] at h2 ⊢
   rw [cR] at h2
   have:¬z<0:=by simp at h2;omega
   simp [this]
 have h1:=sZ h.digs h.top h0
 cases neg with
 | true =>
   rw [if_pos rfl] at h2
   have:z<0:=by omega
   simp [this]
 | false =>
   rw [if_neg (by decide)] at h2
   have:¬z<0:=by omega
   simp [this]
theorem IsInt.zero_iff {neg:Bool} {l:List U32} {z:Int} (h:IsInt neg l z):l.length=0↔z=0:=by
 have h2:=h.val
 constructor
 · intro h0
   have h0:=List.eq_nil_of_length_eq_zero h0
   subst h0
   rw [cR] at h2
   split at h2 <;> omega
 intro hz
 by_cases h0:l=[]
 · rw [h0];rfl
 have h1:=sZ h.digs h.top h0
 split at h2 <;> omega
theorem IsInt.len {neg:Bool} {l:List U32} {z:Int} (h:IsInt neg l z) {m:Nat} (hz:(z.natAbs:Int)<pw m):l.length≤m:=by
 refine aPI h.digs h.top ?_
 rw [h.abs];exact hz
def Num (G:Imm) (x:IV) (z:Int):Prop:=∃ l:List U32,l.length=x.n∧x.n≤x.c∧Arr G x.a l∧IsInt x.neg l z
theorem Num.up {G G':Imm} {x:IV} {z:Int} (h:Num G x z) (hl:G.le G'):Num G' x z:=by
 obtain ⟨l,h1,h0,h2,h3⟩:=h
 exact ⟨l,h1,h0,h2.up hl,h3⟩
theorem Num.zero (G:Imm):Num G ⟨false,none,0,0⟩ 0:=⟨[],rfl,Nat.le_refl _,Arr.nil G,⟨Digs.nil,Top.nil,fun _=>rfl,rfl⟩⟩
section
variable {P:Program} {B:Bs} {D:List Deferred}
theorem cS {ι:Type} {r:Option Nat} {c:Code} {Q:Exit→Act→World→Prop} {e:Env} {H:Hp} {G:Imm} (I:ι→Env×Hp) (g:ι→Imm) (φ:ι→Prop) (μ:ι→Nat) (i0:ι) (h0:φ i0) (hg:G=g i0)
 (he:e.sub (I i0).1) (hH:H.sub (I i0).2)
 (hb:∀ i,φ i→Wc r P c B ⟨(I i).1,D,(I i).2,g i⟩ (Exit.then (tT B (fun i=>⟨(I i).1,D,(I i).2,g i⟩) φ μ (μ i)) Q)):Wc r P (.loop c) B ⟨e,D,H,G⟩ Q:=
 aAI (fun i=>⟨(I i).1,D,(I i).2,g i⟩) φ μ i0 h0 (fun _ _ h=>by rw [hg] at h;exact h.sub he hH) hb
end
def Nums (G:Imm) (l:List IV) (zs:List Int):Prop:=l.length=zs.length∧∀ i:Nat,i<l.length→Num G (l[i]?.getD default) (zs[i]?.getD 0)
theorem Nums.up {G G':Imm} {l:List IV} {zs:List Int} (h:Nums G l zs) (hl:G.le G'):Nums G' l zs:=⟨h.1,fun i hi=>(h.2 i hi).up hl⟩
theorem Nums.nil (G:Imm):Nums G [] []:=⟨rfl,fun i hi=>by simp at hi⟩
theorem Nums.at {G:Imm} {l:List IV} {zs:List Int} (h:Nums G l zs) {m:Int} (hm:0≤m∧m<l.length):Num G (l[m.toNat]?.getD default) (zs[m.toNat]?.getD 0):=h.2 _ (by omega)
theorem Nums.snoc {G:Imm} {l:List IV} {zs:List Int} (h:Nums G l zs) {x:IV} {z:Int} (hx:Num G x z):Nums G (l++[x]) (zs++[z]):=by
 refine ⟨by simp [h.1],fun i hi=>?_⟩
 rw [List.length_append,List.length_singleton] at hi
 by_cases hc:i<l.length
 · rw [List.getElem?_append_left hc,List.getElem?_append_left (by rw [←h.1];exact hc)]
   exact h.2 i hc
 have e:i=l.length:=by omega
 subst e
 rw [List.getElem?_concat_length,h.1,List.getElem?_concat_length]
 exact hx
def Below (m:Nat) (zs:List Int):Prop:=∀ z∈zs,(z.natAbs:Int)<pw m
theorem Below.at {m:Nat} {zs:List Int} (h:Below m zs) (i:Nat):((zs[i]?.getD 0).natAbs:Int)<pw m:=by
 cases hx:zs[i]? with
 | none=>exact fQ m
 | some z=>exact h z (List.mem_of_getElem? hx)
theorem Below.mono {m k:Nat} {zs:List Int} (h:Below m zs) (hk:m≤k):Below k zs:=fun z hz=>Int.lt_of_lt_of_le (h z hz) (xL hk)
def fnB (P : Program) (f : Nat) : Bool := match P.funcs[f]? with | some fn => fn.body.isSome && !(fn.name == "runtime.NumGoroutine") | none => false
theorem AllFn.of {P:Program}:∀ {l:List Nat},l.all (fnB P)=true→AllFn P l
 | [],_=>trivial
 | f :: l,h=>by
   rw [List.all_cons,Bool.and_eq_true] at h
   refine ⟨?_,AllFn.of h.2⟩
   have h1:=h.1
   unfold fnB at h1
   split at h1
   · rename_i fn hf
     rw [Bool.and_eq_true] at h1
     exact ⟨fn,hf,h1.1,by simpa using h1.2⟩
   cases h1
theorem AllOne.of {P:Program}:∀ {l:List Nat},l.all (eC P)=true→AllOne P l
 | [],_=>trivial
 | f :: l,h=>by
   rw [List.all_cons,Bool.and_eq_true] at h
   exact ⟨h.1,AllOne.of h.2⟩
def agB (P:Program) (x:Nat×Nat):Bool:=fD P x.1 x.2 && (match P.info? x.1 with | some i=>Nat.beq i.size x.2 | none=>false)
theorem AllAgg.of {P:Program}:∀ {l:List (Nat×Nat)},l.all (agB P)=true→AllAgg P l
 | [],_=>trivial
 | x :: l,h=>by
   rw [List.all_cons,Bool.and_eq_true] at h
   have h1:=h.1
   unfold agB at h1
   rw [Bool.and_eq_true] at h1
   refine ⟨⟨h1.1,?_⟩,AllAgg.of h.2⟩
   have h2:=h1.2
   split at h2
   · rename_i i hi
     rw [hi,←Nat.eq_of_beq_eq_true h2];rfl
   cases h2
def slB (P:Program) (t:Nat):Bool:=match P.underlying t with | some (.slice E)=>(P.info? E).isSome | _=>false
theorem AllSl.of {P:Program}:∀ {l:List Nat},l.all (slB P)=true→AllSl P l
 | [],_=>trivial
 | t :: l,h=>by
   rw [List.all_cons,Bool.and_eq_true] at h
   refine ⟨?_,AllSl.of h.2⟩
   have h1:=h.1
   unfold slB at h1
   split at h1
   · rename_i E hE
     cases hi:P.info? E with
     | none=>rw [hi] at h1;cases h1
     | some i=>exact ⟨E,i.size,hE,by rw [hi];rfl⟩
   cases h1
def fadd:List (List Nat)→Nat→Nat
 | [],f=>f
 | _ :: s,f=>fadd s f+1
def aAT:List (List Nat)→Array Bool→Array Bool
 | [],L=>L
 | [] :: s,L=>aAT s L
 | (i :: _) :: s,L=>aAT s (L.setIfInBounds i true)
def pN (ops:Array Oper) (wr:List (Nat×Nat)):List (List Nat)→Array Bool→Bool
 | [],_=>true
 | [] :: _,_=>false
 | (i :: ts) :: s,L=>gU ops L wr i ts && pN ops wr s (L.setIfInBounds i true)
def eqb (b w:Bool):Bool:=bif b then w else !w
def gmg (l:List Oper) (e:Env):Option (Nat×Bool)→Option Bool
 | none=>some true
 | some (j,w)=>match kF l j with
   | some t=>match e.get t with
     | some (.bool b)=>some (eqb b w)
     | _=>none
   | none=>none
def gmr (P:Program) [Tab P] (n:Nat) (l:List Oper) (H0:Hp):List (List Nat)→Env→Option (Env×Prop)
 | [],e=>some (e,True)
 | [] :: _,_=>none
 | (i :: ts) :: s,e=>match nth l i with
   | some ⟨some d,o,_,_,_,g⟩=>match Nat.ble (d+1) n with
     | true=>match gmg l e g with
       | some true=>match qev P e (H0.only ts) ts o with
         | some (v,_,ob)=>match gmr P n l H0 s ((d,v) :: e) with
           | some (e',obs)=>some (e',ob∧obs)
           | none=>none
         | none=>none
       | some false=>match ts with
         | []=>gmr P n l H0 s ((d,undef) :: e)
         | _ :: _=>none
       | none=>none
     | false=>none
   | _=>none
theorem aAU {l:List Oper} {e:Env} {j:Nat} {w x:Bool} (h:gmg l e (some (j,w))=some x):∃ t,(l[j]?).bind (·.dst)=some t∧e.get t=some (.bool (bif x then w else !w)):=by
 replace h:(match kF l j with
  | some t=>match e.get t with
    | some (.bool b)=>some (eqb b w)
    | _=>none
  | none=>none)=some x:=h
 split at h
 · rename_i t ht
   rw [lL] at ht
   split at h
   · rename_i b hb
     refine ⟨t,ht,hb.trans ?_⟩
     cases b <;> cases w <;> cases h <;> rfl
   cases h
 cases h
theorem yY {P:Program} [T:Tab P] {B:Bs} {D:List Deferred} {H H0:Hp} {G G0:Imm} {K:Act→World→Prop} {l:List Oper} {f:Nat} {wr:List (Nat×Nat)} {e':Env}:∀ {steps:List (List Nat)} {listed:Array Bool} {e:Env} {ob:Prop},gmr P B.n l H0 steps e=some (e',ob)→ob→pN l.toArray wr steps listed=true→Gm P l.toArray f (aAT steps listed) wr H0 G0 B ⟨e',D,H,G⟩ K→Gm P l.toArray (fadd steps f) listed wr H0 G0 B ⟨e,D,H,G⟩ K
 | [],listed,e,ob,h,_,_,hg=>by cases h;exact hg
 | [] :: s,listed,e,ob,h,_,_,_=>by cases h
 | (i :: ts) :: s,listed,e,ob,h,hob,hB,hg=>by
   unfold pN at hB
   rw [Bool.and_eq_true] at hB
   unfold gmr at h
   split at h
   · rename_i d o ty pos after g hi
     rw [gV] at hi
     split at h
     · rename_i hn
       split at h
       · rename_i hgm
         split at h
         · rename_i v hs' ob1 hq
           split at h
           · rename_i e1 obs h2
             cases h
             have hr:=yY h2 hob.2 hB.2 hg
             cases g with
             | none=>exact Gm.q i ts hB.1 hi hn (aDQ hq hob.1) hr
             | some jw =>
               obtain ⟨j,w⟩:=jw
               obtain ⟨t,ht,he⟩:=aAU hgm
               exact aFE (t:=t) i ts hB.1 hi ht he hn (aDQ hq hob.1) hr
           cases h
         cases h
       · rename_i hgm
         split at h
         · have hr:=yY h hob hB.2 hg
           cases g with
           | none=>cases hgm
           | some jw =>
             obtain ⟨j,w⟩:=jw
             obtain ⟨t,ht,he⟩:=aAU hgm
             exact aRQ (t:=t) i hB.1 hi ht he hn hr
         cases h
       cases h
     cases h
   cases h
section
variable {P:Program} {B:Bs} {e e':Env} {D:List Deferred} {H H0:Hp} {G G0:Imm} {K:Act→World→Prop} {ops:Array Oper} {l rest:List Oper} {f:Nat} {listed:Array Bool} {wr:List (Nat×Nat)} {ty:TypeId} {pos:String} {after:Array Edge} {d:Nat} {ob:Prop}
theorem Gm.r [T:Tab P] (steps:List (List Nat)) (h:Gm P l.toArray f (aAT steps listed) wr H0 G0 B ⟨e',D,H,G⟩ K) (hr:gmr P B.n l H0 steps e=some (e',ob):=by exact rfl) (hob:ob:=by (repeat refine And.intro (by first | exact trivial | with_reducible rfl | assumption | omega | rfl) ?_);exact trivial) (hB:pN l.toArray wr steps listed=true:=by kernel_rfl) :
 Gm P l.toArray (fadd steps f) listed wr H0 G0 B ⟨e,D,H,G⟩ K:=yY hr hob hB h
theorem Gm.y {o:Op} {v:Value} {j:Nat} {want:Bool} {t:Nat} (i:Nat) (ts:List Nat) (ho:l[i]?=some ⟨some d,o,ty,pos,after,some (j,want)⟩) (hq:Qy P o ty e (H0.only ts) G0 v) (h:Gm P l.toArray f (listed.setIfInBounds i true) wr H0 G0 B ⟨(d,v) :: e,D,H,G⟩ K)
 (hj:(l[j]?).bind (·.dst)=some t:=by exact rfl) (he:e.get t=some (.bool want):=by exact rfl) (hn:Nat.ble (d+1) B.n=true:=by exact rfl) (hB:gU l.toArray listed wr i ts=true:=by kernel_rfl):Gm P l.toArray (f+1) listed wr H0 G0 B ⟨e,D,H,G⟩ K:=
 aFE i ts hB ho hj he hn hq h
theorem Wl.p {o:Op} {v:Value} (hq:Qy P o ty e H G v) (h:Wl P ops rest B ⟨(d,v) :: e,D,H,G⟩ K) (hn:Nat.ble (d+1) B.n=true:=by exact rfl):Wl P ops (⟨some d,o,ty,pos,after,none⟩ :: rest) B ⟨e,D,H,G⟩ K:=Wl.q hn hq h
theorem Wl.b {e0:Env} {H0:Hp} {v:Value} (n m:Nat) (he:e.drop n=e0:=by exact rfl) (hf:e0.fresh (e.take n)=true:=by exact rfl) (hH:H.drop m=H0:=by exact rfl) (hg:H0.fresh (H.take m)=true:=by exact rfl) (hv:e.get d=some v:=by exact rfl) :
 Wl P ops [] B ⟨e,D,H,G⟩ (Hold B ⟨(d,v) :: e0,D,H0,G⟩):=Wl.back n m he hf hH hg hv
theorem Wl.x {T:TypeId} {x:Operand} {v:Value} {cs:List Value} (t:Nat) (h:∀ b,Wl P ops rest B ⟨(d,.pointer (some ⟨b,0,none⟩)) :: e,D,(t,some b,.cells cs.toArray T (0,0)) :: H,G⟩ K) (hn:Nat.ble (d+1) B.n=true:=by exact rfl) (hx:e.ev x=some v:=by exact rfl) (hv:v.cells=cs.toArray:=by exact rfl) :
 Wl P ops (⟨some d,.box T x,ty,pos,after,none⟩ :: rest) B ⟨e,D,H,G⟩ K:=Wl.box t hn hx hv h
variable {α:Type} [Cells α]
theorem Wl.at {T:TypeId} {x i:Operand} {c:Nat} {k:IntKind} {m:Int} {E:Nat} {a:Option Addr} {xs:List α} (hT:aS P T E (Cells.sz α)) (h:Wl P ops rest B ⟨(d,.pointer (some ⟨ab a,ao a+m.toNat*Cells.sz α,none⟩)) :: e,D,H,G⟩ K)
 (hx:e.ev x=some (.slice a xs.length c):=by exact rfl) (hi:e.ev i=some (.int k m):=by exact rfl) (hs:Arr G a xs:=by assumption) (hb:0≤m∧m<xs.length:=by omega) (hn:Nat.ble (d+1) B.n=true:=by exact rfl):Wl P ops (⟨some d,.indexAddr T x i,ty,pos,after,none⟩ :: rest) B ⟨e,D,H,G⟩ K:=
 Wl.q hn (Qy.at hT hx hi hs hb) h
theorem bR {T:TypeId} {x i:Operand} {c:Nat} {k:IntKind} {m:Int} {E:Nat} {a:Option Addr} {xs:List α} {junk:List Value} (hT:aS P T E (Cells.sz α)) (h:Wl P ops rest B ⟨(d,.pointer (some ⟨ab a,0+m.toNat*Cells.sz α,none⟩)) :: e,D,H,G⟩ K)
 (hx:e.ev x=some (.slice a xs.length c):=by exact rfl) (hi:e.ev i=some (.int k m):=by exact rfl) (hs:OwnA a c xs junk:=by assumption) (hb:0≤m∧m<xs.length:=by omega) (hn:Nat.ble (d+1) B.n=true:=by exact rfl):Wl P ops (⟨some d,.indexAddr T x i,ty,pos,after,none⟩ :: rest) B ⟨e,D,H,G⟩ K:=
 Wl.q hn (eR hT hx hi hs hb) h
theorem bM [Inhabited α] {T:TypeId} {x:Operand} {a:Option Addr} {xs:List α} {m:Int} {v:Value} (k:Nat) (h1:eC P T=true) (h:Wl P ops rest B ⟨(d,v) :: e,D,H,G⟩ K) (hx:e.ev x=some (.pointer (some ⟨ab a,ao a+m.toNat*Cells.sz α+k,none⟩)):=by exact rfl)
 (hs:Arr G a xs:=by assumption) (hm:0≤m∧m<xs.length:=by omega) (hk:Nat.ble (k+1) (Cells.sz α)=true:=by exact rfl) (hv:(Cells.enc (xs[m.toNat]?.getD default))[k]?=some v:=by exact rfl) (hn:Nat.ble (d+1) B.n=true:=by exact rfl):Wl P ops (⟨some d,.load T x,ty,pos,after,none⟩ :: rest) B ⟨e,D,H,G⟩ K:=
 Wl.q hn (aL h1 hx (hs.cell hm k hk hv)) h
theorem Wl.le [Inhabited α] {T k:TypeId} {x:Operand} {a:Option Addr} {xs:List α} {m:Int} (h1:fD P T k=true) (h:Wl P ops rest B ⟨(d,.agg (Cells.enc (xs[m.toNat]?.getD default)).toArray) :: e,D,H,G⟩ K) (hx:e.ev x=some (.pointer (some ⟨ab a,ao a+m.toNat*Cells.sz α,none⟩)):=by exact rfl)
 (hs:Arr G a xs:=by assumption) (hm:0≤m∧m<xs.length:=by omega) (hl:(Cells.enc (xs[m.toNat]?.getD default)).length=k:=by exact rfl) (hn:Nat.ble (d+1) B.n=true:=by exact rfl):Wl P ops (⟨some d,.load T x,ty,pos,after,none⟩ :: rest) B ⟨e,D,H,G⟩ K:=
 Wl.q hn (gR h1 hx (hs.elem hm) hl) h
theorem Wl.lo [Inhabited α] {T:TypeId} {x:Operand} {E:TypeId} {a:Option Addr} {c:Nat} {xs:List α} {junk:List Value} {m:Int} {v:Value} (t k:Nat) (h1:eC P T=true) (h:Wl P ops rest B ⟨(d,v) :: e,D,H,G⟩ K) (hx:e.ev x=some (.pointer (some ⟨ab a,0+m.toNat*Cells.sz α+k,none⟩)):=by exact rfl)
 (ht:H.get t=some (a.map (·.block),Row E xs junk):=by exact rfl) (ho:OwnA a c xs junk:=by assumption) (hm:0≤m∧m<xs.length:=by omega) (hk:Nat.ble (k+1) (Cells.sz α)=true:=by exact rfl) (hv:(Cells.enc (xs[m.toNat]?.getD default))[k]?=some v:=by exact rfl) (hn:Nat.ble (d+1) B.n=true:=by exact rfl) :
 Wl P ops (⟨some d,.load T x,ty,pos,after,none⟩ :: rest) B ⟨e,D,H,G⟩ K:=Wl.q hn (pI t k h1 hx ht ho hm hk hv) h
theorem Gm.at {T:TypeId} {x i:Operand} {c:Nat} {k:IntKind} {m:Int} {E:Nat} {a:Option Addr} {xs:List α} (q:Nat) (hT:aS P T E (Cells.sz α)) (h:Gm P l.toArray f (listed.setIfInBounds q true) wr H0 G0 B ⟨(d,.pointer (some ⟨ab a,ao a+m.toNat*Cells.sz α,none⟩)) :: e,D,H,G⟩ K)
 (ho:l[q]?=some ⟨some d,.indexAddr T x i,ty,pos,after,none⟩:=by exact rfl) (hx:e.ev x=some (.slice a xs.length c):=by exact rfl) (hi:e.ev i=some (.int k m):=by exact rfl) (hs:Arr G0 a xs:=by assumption) (hb:0≤m∧m<xs.length:=by omega) (hn:Nat.ble (d+1) B.n=true:=by exact rfl) (hB:gU l.toArray listed wr q []=true:=by kernel_rfl) :
 Gm P l.toArray (f+1) listed wr H0 G0 B ⟨e,D,H,G⟩ K:=Gm.u q [] ho (Qy.at hT hx hi hs hb) h hn hB
theorem eM {T:TypeId} {x i:Operand} {c:Nat} {k:IntKind} {m:Int} {E:Nat} {a:Option Addr} {xs:List α} {junk:List Value} (q:Nat) (hT:aS P T E (Cells.sz α)) (h:Gm P l.toArray f (listed.setIfInBounds q true) wr H0 G0 B ⟨(d,.pointer (some ⟨ab a,0+m.toNat*Cells.sz α,none⟩)) :: e,D,H,G⟩ K)
 (ho:l[q]?=some ⟨some d,.indexAddr T x i,ty,pos,after,none⟩:=by exact rfl) (hx:e.ev x=some (.slice a xs.length c):=by exact rfl) (hi:e.ev i=some (.int k m):=by exact rfl) (hs:OwnA a c xs junk:=by assumption) (hb:0≤m∧m<xs.length:=by omega) (hn:Nat.ble (d+1) B.n=true:=by exact rfl) (hB:gU l.toArray listed wr q []=true:=by kernel_rfl) :
 Gm P l.toArray (f+1) listed wr H0 G0 B ⟨e,D,H,G⟩ K:=Gm.u q [] ho (eR hT hx hi hs hb) h hn hB
theorem gO [Inhabited α] {T:TypeId} {x:Operand} {a:Option Addr} {xs:List α} {m:Int} {v:Value} (q:Nat) (ts:List Nat) (k:Nat) (h1:eC P T=true) (h:Gm P l.toArray f (listed.setIfInBounds q true) wr H0 G0 B ⟨(d,v) :: e,D,H,G⟩ K) (ho:l[q]?=some ⟨some d,.load T x,ty,pos,after,none⟩:=by exact rfl)
 (hx:e.ev x=some (.pointer (some ⟨ab a,ao a+m.toNat*Cells.sz α+k,none⟩)):=by exact rfl) (hs:Arr G0 a xs:=by assumption) (hm:0≤m∧m<xs.length:=by omega) (hk:Nat.ble (k+1) (Cells.sz α)=true:=by exact rfl) (hv:(Cells.enc (xs[m.toNat]?.getD default))[k]?=some v:=by exact rfl) (hn:Nat.ble (d+1) B.n=true:=by exact rfl) (hB:gU l.toArray listed wr q ts=true:=by kernel_rfl) :
 Gm P l.toArray (f+1) listed wr H0 G0 B ⟨e,D,H,G⟩ K:=Gm.u q ts ho (aL h1 hx (hs.cell hm k hk hv)) h hn hB
theorem Gm.le [Inhabited α] {T k:TypeId} {x:Operand} {a:Option Addr} {xs:List α} {m:Int} (q:Nat) (h1:fD P T k=true) (h:Gm P l.toArray f (listed.setIfInBounds q true) wr H0 G0 B ⟨(d,.agg (Cells.enc (xs[m.toNat]?.getD default)).toArray) :: e,D,H,G⟩ K) (ho:l[q]?=some ⟨some d,.load T x,ty,pos,after,none⟩:=by exact rfl)
 (hx:e.ev x=some (.pointer (some ⟨ab a,ao a+m.toNat*Cells.sz α,none⟩)):=by exact rfl) (hs:Arr G0 a xs:=by assumption) (hm:0≤m∧m<xs.length:=by omega) (hl:(Cells.enc (xs[m.toNat]?.getD default)).length=k:=by exact rfl) (hn:Nat.ble (d+1) B.n=true:=by exact rfl) (hB:gU l.toArray listed wr q []=true:=by kernel_rfl) :
 Gm P l.toArray (f+1) listed wr H0 G0 B ⟨e,D,H,G⟩ K:=Gm.u q [] ho (gR h1 hx (hs.elem hm) hl) h hn hB
theorem Gm.lo [Inhabited α] {T:TypeId} {x:Operand} {E:TypeId} {a:Option Addr} {c:Nat} {xs:List α} {junk:List Value} {m:Int} {v:Value} (q t k:Nat) (h1:eC P T=true) (h:Gm P l.toArray f (listed.setIfInBounds q true) wr H0 G0 B ⟨(d,v) :: e,D,H,G⟩ K) (ho:l[q]?=some ⟨some d,.load T x,ty,pos,after,none⟩:=by exact rfl)
 (hx:e.ev x=some (.pointer (some ⟨ab a,0+m.toNat*Cells.sz α+k,none⟩)):=by exact rfl) (ht:(H0.only [t]).get t=some (a.map (·.block),Row E xs junk):=by exact rfl) (hw:OwnA a c xs junk:=by assumption) (hm:0≤m∧m<xs.length:=by omega) (hk:Nat.ble (k+1) (Cells.sz α)=true:=by exact rfl)
 (hv:(Cells.enc (xs[m.toNat]?.getD default))[k]?=some v:=by exact rfl) (hn:Nat.ble (d+1) B.n=true:=by exact rfl) (hB:gU l.toArray listed wr q [t]=true:=by kernel_rfl):Gm P l.toArray (f+1) listed wr H0 G0 B ⟨e,D,H,G⟩ K:=Gm.u q [t] ho (pI t k h1 hx ht hw hm hk hv) h hn hB
theorem Wl.ap {s x:Operand} {T E bytes:Nat} {zs:List Value} {a ad:Option Addr} {c c2:Nat} {xs ys:List α} {junk:List Value} (t:Nat) (hT:aS P T E (Cells.sz α)) (hE:ElemOf P E (Cells.sz α) bytes zs) (hsrc:Src H G ad ys)
 (h:∀ a' c' junk',OwnA a' c' (xs++ys) junk'→Wl P ops rest B ⟨(d,.slice a' (xs++ys).length c') :: e,D,(t,a'.map (·.block),Row E (xs++ys) junk') :: H,G⟩ K) (hs:e.ev s=some (.slice a xs.length c):=by exact rfl) (hx:e.ev x=some (.slice ad ys.length c2):=by exact rfl)
 (ht:H.get t=some (a.map (·.block),Row E xs junk):=by exact rfl) (ho:OwnA a c xs junk:=by first | assumption | exact OwnA.nil | exact dV (by simp)) (hb:(xs.length+ys.length)*bytes≤140737488355328:=by first | omega | (simp only [List.length_append,List.length_cons,List.length_nil,maxLen];omega)) (hl:xs.length+ys.length≤maxLen:=by first | omega | (simp only [List.length_append,List.length_cons,List.length_nil,maxLen];omega)) (hn:Nat.ble (d+1) B.n=true:=by exact rfl) :
 Wl P ops (⟨some d,.call { callee:=.builtin .append,args:=#[s,x],argTypes:=#[T,T] },ty,pos,after,none⟩ :: rest) B ⟨e,D,H,G⟩ K:=Wl.append t hn hT hE hs hx ht ho hsrc hb hl h
end
section
variable {P:Program} {B:Bs} {e:Env} {D:List Deferred} {H H0:Hp} {G G0:Imm} {K:Act→World→Prop} {l:List Oper} {f:Nat} {listed:Array Bool} {wr:List (Nat×Nat)} {Q:Exit→Act→World→Prop} {ops:Array Oper} {p:Prop} [Decidable p]
theorem aH {ι:Type} {I:ι→St} {φ:ι→Prop} {μ:ι→Nat} {m:Nat} (j:ι) (hφ:φ j) (hμ:μ j<m) (hI:I j=⟨(I j).e,D,(I j).H,G⟩:=by exact rfl) (he:e.sub (I j).e:=by repeat (first | exact trivial | refine ⟨rfl,?_⟩)) (hH:H.sub (I j).H:=by repeat (first | exact trivial | refine ⟨rfl,?_⟩)):Ar (Exit.then (tT B I φ μ m) Q) .normal B ⟨e,D,H,G⟩:=Ar.again j hφ hμ hI he hH
theorem Ar.mt {ι:Type} {I:ι→St} {φ:ι→Prop} (j:ι) (hφ:φ j) (hI:I j=⟨(I j).e,D,(I j).H,G⟩:=by exact rfl) (he:e.sub (I j).e:=by repeat (first | exact trivial | refine ⟨rfl,?_⟩)) (hH:H.sub (I j).H:=by repeat (first | exact trivial | refine ⟨rfl,?_⟩)):Ar (Exit.then (Meet B I φ) Q) .normal B ⟨e,D,H,G⟩:=pG j hφ hI he hH
theorem Wc.lp {ι:Type} {r:Option Nat} {c:Code} (I:ι→Env×Hp) (φ:ι→Prop) (μ:ι→Nat) (i0:ι) (h0:φ i0) (hb:∀ i,φ i→Wc r P c B ⟨(I i).1,D,(I i).2,G⟩ (Exit.then (tT B (fun i=>⟨(I i).1,D,(I i).2,G⟩) φ μ (μ i)) Q)) (he:e.sub (I i0).1:=by repeat (first | exact trivial | refine ⟨rfl,?_⟩)) (hH:H.sub (I i0).2:=by repeat (first | exact trivial | refine ⟨rfl,?_⟩)) :
 Wc r P (.loop c) B ⟨e,D,H,G⟩ Q:=Wc.loop I φ μ i0 h0 he hH hb
theorem Wc.lg {ι:Type} {r:Option Nat} {c:Code} (I:ι→Env×Hp) (g:ι→Imm) (φ:ι→Prop) (μ:ι→Nat) (i0:ι) (h0:φ i0) (hb:∀ i,φ i→Wc r P c B ⟨(I i).1,D,(I i).2,g i⟩ (Exit.then (tT B (fun i=>⟨(I i).1,D,(I i).2,g i⟩) φ μ (μ i)) Q)) (hg:G=g i0:=by exact rfl) (he:e.sub (I i0).1:=by repeat (first | exact trivial | refine ⟨rfl,?_⟩)) (hH:H.sub (I i0).2:=by repeat (first | exact trivial | refine ⟨rfl,?_⟩)) :
 Wc r P (.loop c) B ⟨e,D,H,G⟩ Q:=cS I g φ μ i0 h0 hg he hH hb
theorem lZ (t:Nat) (h:Wl P ops l B ⟨(t,.bool true) :: e,D,H,G⟩ K) (he:e.get t=some (.bool (decide p)):=by exact rfl) (hp:p:=by first | assumption | omega):Wl P ops l B ⟨e,D,H,G⟩ K:=aDM t he hp h
theorem dB (t:Nat) (h:Wl P ops l B ⟨(t,.bool false) :: e,D,H,G⟩ K) (he:e.get t=some (.bool (decide p)):=by exact rfl) (hp:¬p:=by first | assumption | omega):Wl P ops l B ⟨e,D,H,G⟩ K:=aKG t he hp h
theorem Wl.o1 {o:Oper} (i:Nat) (h:Wl P l.toArray [o] B ⟨e,D,H,G⟩ (mF P l.toArray f (listed.setIfInBounds i true) wr H0 G0 K)) (hH:H.sub (H0.live wr listed):=by repeat (first | exact trivial | refine ⟨rfl,?_⟩)) (hG:G0.le G:=by first | exact Imm.le_refl _ | repeat (first | assumption | refine Imm.le_trans ?_ ‹_›)) (hr:Region.ready .any l.toArray listed=[i]:=by kernel_rfl) (ho:l[i]?=some o:=by exact rfl) :
 Wl P l.toArray [] B ⟨e,D,H,G⟩ (mF P l.toArray (f+1) listed wr H0 G0 K):=aO (Gm.o1 i h hH hG hr ho)
theorem aZ {x:Exit} (h:Ar Q x B ⟨e,D,H,G⟩) (hr:Region.ready .any ops listed=[]:=by kernel_rfl) (hH:H.sub (H0.live wr listed):=by repeat (first | exact trivial | refine ⟨rfl,?_⟩)) (hG:G0.le G:=by first | exact Imm.le_refl _ | repeat (first | assumption | refine Imm.le_trans ?_ ‹_›)):Wl P ops [] B ⟨e,D,H,G⟩ (mF P ops 0 listed wr H0 G0 (Q x)):=aO (Gm.fin h hr hH hG)
theorem aN [Tab P] {r:Option Nat} {id:Nat} {e':Env} {ob:Prop} (ts:List Nat) (wr:List (Nat×Nat)) (hm:P.follows .mixedOrders=true) (steps:List (List Nat)) {f:Nat} (h:Gm P l.toArray f (aAT steps (Array.replicate l.length false)) wr (H.only ts) G B ⟨e',D,H,G⟩ (Q .normal)) (hf:l.length=fadd steps f:=by exact rfl)
 (hr:gmr P B.n l (H.only ts) steps e=some (e',ob):=by exact rfl) (hob:ob:=by (repeat refine And.intro (by first | exact trivial | with_reducible rfl | assumption | omega | rfl) ?_);exact trivial) (hB:pN l.toArray wr steps (Array.replicate l.length false)=true:=by kernel_rfl) (hd:l.all bZ=true:=by exact rfl) :
 Wc r P (.region id l.toArray true) B ⟨e,D,H,G⟩ Q:=Wc.draw ts wr hm hd (by have:=yY hr hob hB h;rw [←hf] at this;exact this)
end
theorem D0 {P:Program} {G:Imm} {f:FuncId} {fn:Func} {c:Code} {n:Nat} {args:List Value} {Hi:Hp} {post:Value→Imm→Hp→Prop} (hf:P.funcs[f]?=some fn) (hn:fn.ntmps=n) (h:∀ w,Wc none P c ⟨n,w,Hi.has,G⟩ ⟨eF 0 args,[],Hi,G⟩ (Out P fn G Hi w post)) (hb:fn.body=some c:=by exact rfl)
 (hl:Nat.ble args.length n=true:=by exact rfl):Does P f args G Hi post:=Does.enter hf hb hn hl h
section
variable {P:Program} {fn:Func} {G0:Imm} {Hi:Hp} {w0:World} {post:Value→Imm→Hp→Prop} {n:Nat} {e:Env} {H:Hp} {G:Imm} {x:Exit} {t1 t2:Nat} {v1 v2:Value}
theorem Ar.p1 (L:List Nat) (hp:post v1 G (H.only L)) (hx:x=.normal∨x=.ret:=by exact .inr rfl) (hres:fn.results=#[.tmp t1]:=by exact rfl) (h1:e.get t1=some v1:=by exact rfl):Ar (Out P fn G0 Hi w0 post) x ⟨n,w0,Hi.has,G0⟩ ⟨e,[],H,G⟩:=
 aT hx hres (.tmp h1) (aC _ _) hp
theorem Ar.p2 (L:List Nat) (hp:post (.tuple #[v1,v2]) G (H.only L)) (hx:x=.normal∨x=.ret:=by exact .inr rfl) (hres:fn.results=#[.tmp t1,.tmp t2]:=by exact rfl) (h1:e.get t1=some v1:=by exact rfl) (h2:e.get t2=some v2:=by exact rfl):Ar (Out P fn G0 Hi w0 post) x ⟨n,w0,Hi.has,G0⟩ ⟨e,[],H,G⟩:=
 bQ hx hres (.tmp h1) (.tmp h2) (aC _ _) hp
end
theorem Wc.i {P:Program} {r:Option Nat} {B:Bs} {S:St} {Q:Exit→Act→World→Prop} {c:Operand} {x y:Code} {p:Prop} [Decidable p] (ht:p→Wc r P x B S Q) (hf:¬p→Wc r P y B S Q) (hc:S.e.ev c=some (.bool (decide p)):=by exact rfl):Wc r P (.cond c x y) B S Q:=Wc.cond hc ht hf
end Go.Sl
namespace Go.Proofs.YtfdcckcadfhpeaaGreatDoor.T
open Go Go.Sl
theorem u2:Tryz.prog.underlying 2=some (.int .i64):=by kernel_rfl
theorem one3:eC Tryz.prog 3=true:=by kernel_rfl
theorem zero3:ZeroOf Tryz.prog 3 [.int .i64 0]:=ZeroOf.of (by kernel_rfl)
theorem el3:ElemOf Tryz.prog 3 1 8 [.int .i64 0]:=ElemOf.of (by kernel_rfl) rfl
theorem u3:Tryz.prog.underlying 3=some (.int .i64):=by kernel_rfl
theorem u4:Tryz.prog.underlying 4=some .bool:=by kernel_rfl
theorem one5:eC Tryz.prog 5=true:=by kernel_rfl
theorem el5:ElemOf Tryz.prog 5 1 1 [.int .u8 0]:=ElemOf.of (by kernel_rfl) rfl
theorem u5:Tryz.prog.underlying 5=some (.int .u8):=by kernel_rfl
theorem u6:Tryz.prog.underlying 6=some (.int .u8):=by kernel_rfl
theorem one22:eC Tryz.prog 22=true:=by kernel_rfl
theorem sl22:aS Tryz.prog 22 52 2:=⟨by kernel_rfl,by kernel_rfl⟩
theorem sl23:aS Tryz.prog 23 91 5:=⟨by kernel_rfl,by kernel_rfl⟩
theorem sl24:aS Tryz.prog 24 3 1:=⟨by kernel_rfl,by kernel_rfl⟩
theorem agg26:fD Tryz.prog 26 4=true:=by kernel_rfl
theorem size26:(Tryz.prog.info? 26).map (·.size)=some 4:=by kernel_rfl
theorem zero26:ZeroOf Tryz.prog 26 [.int .i64 0,.int .i64 0,.slice none 0 0,.slice none 0 0]:=ZeroOf.of (by kernel_rfl)
theorem el26:ElemOf Tryz.prog 26 4 64 [.int .i64 0,.int .i64 0,.slice none 0 0,.slice none 0 0]:=ElemOf.of (by kernel_rfl) rfl
theorem st26:StructOf Tryz.prog 26 [(0,1),(1,1),(2,1),(3,1)] [.int .i64 0,.int .i64 0,.slice none 0 0,.slice none 0 0]:=StructOf.of (Tryz.prog.fieldsOf 26) (by kernel_rfl) (by kernel_rfl) (by kernel_rfl)
theorem agg28:fD Tryz.prog 28 15=true:=by kernel_rfl
theorem zero28:ZeroOf Tryz.prog 28 [.int .i64 0,.int .i64 0,.slice none 0 0,.int .i64 0,.int .i64 0,.slice none 0 0,.slice none 0 0,.int .i64 0,.int .i64 0,.slice none 0 0,.slice none 0 0,.int .i64 0,.int .i64 0,.slice none 0 0,.slice none 0 0]:=ZeroOf.of (by kernel_rfl)
theorem st28:StructOf Tryz.prog 28 [(0,1),(1,1),(2,1),(3,4),(7,4),(11,4)] [.int .i64 0,.int .i64 0,.slice none 0 0,.int .i64 0,.int .i64 0,.slice none 0 0,.slice none 0 0,.int .i64 0,.int .i64 0,.slice none 0 0,.slice none 0 0,.int .i64 0,.int .i64 0,.slice none 0 0,.slice none 0 0]:=StructOf.of (Tryz.prog.fieldsOf 28) (by kernel_rfl) (by kernel_rfl) (by kernel_rfl)
theorem u32:Tryz.prog.underlying 32=some (.int .i64):=by kernel_rfl
theorem sl38:aS Tryz.prog 38 5 1:=⟨by kernel_rfl,by kernel_rfl⟩
theorem agg42:fD Tryz.prog 42 2=true:=by kernel_rfl
theorem zero42:ZeroOf Tryz.prog 42 [.int .i64 0,.int .i64 0]:=ZeroOf.of (by kernel_rfl)
theorem st42:StructOf Tryz.prog 42 [(0,1),(1,1)] [.int .i64 0,.int .i64 0]:=StructOf.of (Tryz.prog.fieldsOf 42) (by kernel_rfl) (by kernel_rfl) (by kernel_rfl)
theorem ai42:kE Tryz.prog 42 2:=⟨by kernel_rfl,by kernel_rfl,by kernel_rfl,by kernel_rfl⟩
theorem agg52:fD Tryz.prog 52 2=true:=by kernel_rfl
theorem zero52:ZeroOf Tryz.prog 52 [.int .i64 0,.int .i64 0]:=ZeroOf.of (by kernel_rfl)
theorem el52:ElemOf Tryz.prog 52 2 16 [.int .i64 0,.int .i64 0]:=ElemOf.of (by kernel_rfl) rfl
theorem st52:StructOf Tryz.prog 52 [(0,1),(1,1)] [.int .i64 0,.int .i64 0]:=StructOf.of (Tryz.prog.fieldsOf 52) (by kernel_rfl) (by kernel_rfl) (by kernel_rfl)
theorem ai52:kE Tryz.prog 52 2:=⟨by kernel_rfl,by kernel_rfl,by kernel_rfl,by kernel_rfl⟩
theorem st62:StructOf Tryz.prog 62 [(0,1),(1,1),(2,1)] [.int .i64 0,.int .i64 0,.slice none 0 0]:=StructOf.of (Tryz.prog.fieldsOf 62) (by kernel_rfl) (by kernel_rfl) (by kernel_rfl)
theorem one68:eC Tryz.prog 68=true:=by kernel_rfl
theorem size68:(Tryz.prog.info? 68).map (·.size)=some 1:=by kernel_rfl
theorem sl68:aS Tryz.prog 68 125 2:=⟨by kernel_rfl,by kernel_rfl⟩
theorem el68:ElemOf Tryz.prog 68 1 24 [.slice none 0 0]:=ElemOf.of (by kernel_rfl) rfl
theorem sl74:aS Tryz.prog 74 26 4:=⟨by kernel_rfl,by kernel_rfl⟩
theorem agg91:fD Tryz.prog 91 5=true:=by kernel_rfl
theorem zero91:ZeroOf Tryz.prog 91 [.int .i64 0,.int .i64 0,.int .i64 0,.int .i64 0,.int .i64 0]:=ZeroOf.of (by kernel_rfl)
theorem el91:ElemOf Tryz.prog 91 5 40 [.int .i64 0,.int .i64 0,.int .i64 0,.int .i64 0,.int .i64 0]:=ElemOf.of (by kernel_rfl) rfl
theorem st91:StructOf Tryz.prog 91 [(0,1),(1,1),(2,1),(3,1),(4,1)] [.int .i64 0,.int .i64 0,.int .i64 0,.int .i64 0,.int .i64 0]:=StructOf.of (Tryz.prog.fieldsOf 91) (by kernel_rfl) (by kernel_rfl) (by kernel_rfl)
theorem ai91:kE Tryz.prog 91 5:=⟨by kernel_rfl,by kernel_rfl,by kernel_rfl,by kernel_rfl⟩
theorem sl96:aS Tryz.prog 96 100 5:=⟨by kernel_rfl,by kernel_rfl⟩
theorem agg100:fD Tryz.prog 100 5=true:=by kernel_rfl
theorem zero100:ZeroOf Tryz.prog 100 [.int .i64 0,.int .i64 0,.slice none 0 0,.slice none 0 0,.nilFunc]:=ZeroOf.of (by kernel_rfl)
theorem el100:ElemOf Tryz.prog 100 5 72 [.int .i64 0,.int .i64 0,.slice none 0 0,.slice none 0 0,.nilFunc]:=ElemOf.of (by kernel_rfl) rfl
theorem st100:StructOf Tryz.prog 100 [(0,4),(4,1)] [.int .i64 0,.int .i64 0,.slice none 0 0,.slice none 0 0,.nilFunc]:=StructOf.of (Tryz.prog.fieldsOf 100) (by kernel_rfl) (by kernel_rfl) (by kernel_rfl)
theorem st108:StructOf Tryz.prog 108 [(0,1),(1,1),(2,1)] [.slice none 0 0,.int .i64 0,.int .i64 0]:=StructOf.of (Tryz.prog.fieldsOf 108) (by kernel_rfl) (by kernel_rfl) (by kernel_rfl)
theorem zero109:ZeroOf Tryz.prog 109 [.int .i64 0,.int .i64 0,.int .i64 0,.int .i64 0]:=ZeroOf.of (by kernel_rfl)
theorem ar109:ArrayOf Tryz.prog 109 4 1 [.int .i64 0,.int .i64 0,.int .i64 0,.int .i64 0]:=ArrayOf.of 3 (by kernel_rfl) (by kernel_rfl) (by kernel_rfl)
theorem one110:eC Tryz.prog 110=true:=by kernel_rfl
theorem zero110:ZeroOf Tryz.prog 110 [.nilFunc]:=ZeroOf.of (by kernel_rfl)
theorem agg119:fD Tryz.prog 119 3=true:=by kernel_rfl
theorem zero119:ZeroOf Tryz.prog 119 [.pointer none,.pointer none,.pointer none]:=ZeroOf.of (by kernel_rfl)
theorem ar119:ArrayOf Tryz.prog 119 3 1 [.pointer none,.pointer none,.pointer none]:=ArrayOf.of 85 (by kernel_rfl) (by kernel_rfl) (by kernel_rfl)
theorem sl123:aS Tryz.prog 123 215 1:=⟨by kernel_rfl,by kernel_rfl⟩
theorem agg125:fD Tryz.prog 125 2=true:=by kernel_rfl
theorem size125:(Tryz.prog.info? 125).map (·.size)=some 2:=by kernel_rfl
theorem zero125:ZeroOf Tryz.prog 125 [.bool false,.slice none 0 0]:=ZeroOf.of (by kernel_rfl)
theorem el125:ElemOf Tryz.prog 125 2 32 [.bool false,.slice none 0 0]:=ElemOf.of (by kernel_rfl) rfl
theorem st125:StructOf Tryz.prog 125 [(0,1),(1,1)] [.bool false,.slice none 0 0]:=StructOf.of (Tryz.prog.fieldsOf 125) (by kernel_rfl) (by kernel_rfl) (by kernel_rfl)
theorem one171:eC Tryz.prog 171=true:=by kernel_rfl
theorem zero171:ZeroOf Tryz.prog 171 [.nilFunc]:=ZeroOf.of (by kernel_rfl)
theorem st176:StructOf Tryz.prog 176 [(0,1),(1,1),(2,1)] [.int .i64 0,.int .i64 0,.slice none 0 0]:=StructOf.of (Tryz.prog.fieldsOf 176) (by kernel_rfl) (by kernel_rfl) (by kernel_rfl)
theorem sl182:aS Tryz.prog 182 191 1:=⟨by kernel_rfl,by kernel_rfl⟩
theorem sl186:aS Tryz.prog 186 190 2:=⟨by kernel_rfl,by kernel_rfl⟩
theorem agg190:fD Tryz.prog 190 2=true:=by kernel_rfl
theorem size190:(Tryz.prog.info? 190).map (·.size)=some 2:=by kernel_rfl
theorem zero190:ZeroOf Tryz.prog 190 [.bool false,.slice none 0 0]:=ZeroOf.of (by kernel_rfl)
theorem el190:ElemOf Tryz.prog 190 2 32 [.bool false,.slice none 0 0]:=ElemOf.of (by kernel_rfl) rfl
theorem st190:StructOf Tryz.prog 190 [(0,1),(1,1)] [.bool false,.slice none 0 0]:=StructOf.of (Tryz.prog.fieldsOf 190) (by kernel_rfl) (by kernel_rfl) (by kernel_rfl)
theorem one191:eC Tryz.prog 191=true:=by kernel_rfl
theorem size191:(Tryz.prog.info? 191).map (·.size)=some 1:=by kernel_rfl
theorem sl191:aS Tryz.prog 191 190 2:=⟨by kernel_rfl,by kernel_rfl⟩
theorem el191:ElemOf Tryz.prog 191 1 24 [.slice none 0 0]:=ElemOf.of (by kernel_rfl) rfl
theorem st198:StructOf Tryz.prog 198 [(0,1),(1,1),(2,1)] [.slice none 0 0,.int .i64 0,.bool false]:=StructOf.of (Tryz.prog.fieldsOf 198) (by kernel_rfl) (by kernel_rfl) (by kernel_rfl)
theorem one203:eC Tryz.prog 203=true:=by kernel_rfl
theorem u214:Tryz.prog.underlying 214=some (.int .u64):=by kernel_rfl
theorem one215:eC Tryz.prog 215=true:=by kernel_rfl
theorem size215:(Tryz.prog.info? 215).map (·.size)=some 1:=by kernel_rfl
theorem el215:ElemOf Tryz.prog 215 1 4 [.int .u32 0]:=ElemOf.of (by kernel_rfl) rfl
theorem u215:Tryz.prog.underlying 215=some (.int .u32):=by kernel_rfl
theorem sl237:aS Tryz.prog 237 68 1:=⟨by kernel_rfl,by kernel_rfl⟩
theorem u253:Tryz.prog.underlying 253=some (.int .i8):=by kernel_rfl
theorem agg281:fD Tryz.prog 281 5=true:=by kernel_rfl
theorem zero281:ZeroOf Tryz.prog 281 [.nilFunc,.nilFunc,.nilFunc,.nilFunc,.nilFunc]:=ZeroOf.of (by kernel_rfl)
theorem st281:StructOf Tryz.prog 281 [(0,1),(1,1),(2,1),(3,1),(4,1)] [.nilFunc,.nilFunc,.nilFunc,.nilFunc,.nilFunc]:=StructOf.of (Tryz.prog.fieldsOf 281) (by kernel_rfl) (by kernel_rfl) (by kernel_rfl)
theorem u292:Tryz.prog.underlying 292=some (.int .i16):=by kernel_rfl
theorem fn75:dP Tryz.prog 75:=⟨Tryz.f75,Tryz.func75,rfl,by kernel_rfl⟩
theorem fn105:dP Tryz.prog 105:=⟨Tryz.f105,Tryz.func105,rfl,by kernel_rfl⟩
theorem fn107:dP Tryz.prog 107:=⟨Tryz.f107,Tryz.func107,rfl,by kernel_rfl⟩
theorem fn109:dP Tryz.prog 109:=⟨Tryz.f109,Tryz.func109,rfl,by kernel_rfl⟩
theorem fn110:dP Tryz.prog 110:=⟨Tryz.f110,Tryz.func110,rfl,by kernel_rfl⟩
theorem fn121:dP Tryz.prog 121:=⟨Tryz.f121,Tryz.func121,rfl,by kernel_rfl⟩
theorem fn138:dP Tryz.prog 138:=⟨Tryz.f138,Tryz.func138,rfl,by kernel_rfl⟩
theorem fn168:dP Tryz.prog 168:=⟨Tryz.f168,Tryz.func168,rfl,by kernel_rfl⟩
theorem fn170:dP Tryz.prog 170:=⟨Tryz.f170,Tryz.func170,rfl,by kernel_rfl⟩
theorem fn171:dP Tryz.prog 171:=⟨Tryz.f171,Tryz.func171,rfl,by kernel_rfl⟩
theorem fn172:dP Tryz.prog 172:=⟨Tryz.f172,Tryz.func172,rfl,by kernel_rfl⟩
theorem fn173:dP Tryz.prog 173:=⟨Tryz.f173,Tryz.func173,rfl,by kernel_rfl⟩
theorem fn176:dP Tryz.prog 176:=⟨Tryz.f176,Tryz.func176,rfl,by kernel_rfl⟩
theorem fn177:dP Tryz.prog 177:=⟨Tryz.f177,Tryz.func177,rfl,by kernel_rfl⟩
theorem fn188:dP Tryz.prog 188:=⟨Tryz.f188,Tryz.func188,rfl,by kernel_rfl⟩
theorem fn205:dP Tryz.prog 205:=⟨Tryz.f205,Tryz.func205,rfl,by kernel_rfl⟩
theorem fn216:dP Tryz.prog 216:=⟨Tryz.f216,Tryz.func216,rfl,by kernel_rfl⟩
theorem fn217:dP Tryz.prog 217:=⟨Tryz.f217,Tryz.func217,rfl,by kernel_rfl⟩
theorem fn218:dP Tryz.prog 218:=⟨Tryz.f218,Tryz.func218,rfl,by kernel_rfl⟩
theorem fn219:dP Tryz.prog 219:=⟨Tryz.f219,Tryz.func219,rfl,by kernel_rfl⟩
theorem fn220:dP Tryz.prog 220:=⟨Tryz.f220,Tryz.func220,rfl,by kernel_rfl⟩
theorem fn236:dP Tryz.prog 236:=⟨Tryz.f236,Tryz.func236,rfl,by kernel_rfl⟩
theorem fn237:dP Tryz.prog 237:=⟨Tryz.f237,Tryz.func237,rfl,by kernel_rfl⟩
theorem fn239:dP Tryz.prog 239:=⟨Tryz.f239,Tryz.func239,rfl,by kernel_rfl⟩
theorem fn241:dP Tryz.prog 241:=⟨Tryz.f241,Tryz.func241,rfl,by kernel_rfl⟩
theorem fn242:dP Tryz.prog 242:=⟨Tryz.f242,Tryz.func242,rfl,by kernel_rfl⟩
theorem fn265:dP Tryz.prog 265:=⟨Tryz.f265,Tryz.func265,rfl,by kernel_rfl⟩
theorem fn276:dP Tryz.prog 276:=⟨Tryz.f276,Tryz.func276,rfl,by kernel_rfl⟩
theorem fn278:dP Tryz.prog 278:=⟨Tryz.f278,Tryz.func278,rfl,by kernel_rfl⟩
theorem mixed:Tryz.prog.follows .mixedOrders=true:=by kernel_rfl
end Go.Proofs.YtfdcckcadfhpeaaGreatDoor.T
namespace Go.Proofs.YtfdcckcadfhpeaaGreatDoor
open Go Go.Sl
instance:Tab Tryz.prog where
 fn:=[10,11,13,14,15,16,17,18,19,33,35,54,55,56,57,58,59,60,61,62,63,64,65,66,69,70,71,72,73,75,78,83,87,103,104,105,106,108,111,112,113,114,115,116,117,118,119,120,122,123,124,125,126,127,128,129,133,134,137,138,139,144,153,154,155,156,157,158,159,160,161,162,163,164,165,166,167,168,169,174,176,177,179,180,181,182,183,184,185,201,202,203,204,206,207,208,209,210,211,212,213,214,215,216,221,222,223,227,235,238,240,243,244,245,246,247,248,249,250,251,252,264,265,266,267,268,269,277,278,279,280,281,283,284,285]
 fnP:=.of (by kernel_rfl)
 one:=[3,4,22,23,24,32,38,68,98,110,123,128,171,277,278,279]
 agg:=[(26,4),(28,15),(42,2),(52,2),(91,5),(100,5),(109,4),(119,3),(125,2),(190,2),(281,5)]
 sl:=[22,23,24,38,68,74,96,123,182,191,237]
 fa:=[(26,0,0),(26,1,1),(26,2,2),(26,3,3),(28,0,0),(28,1,1),(28,2,2),(28,3,3),(28,4,7),(28,5,11),(42,0,0),(52,0,0),(52,1,1),(62,0,0),(62,1,1),(62,2,2),(91,0,0),(91,1,1),(91,2,2),(91,3,3),(91,4,4),(100,0,0),(100,1,4),(108,0,0),(108,1,1),(108,2,2),(125,0,0),(125,1,1),(190,0,0),(190,1,1),(198,0,0),(198,1,1),(198,2,2),(281,0,0),(281,1,1),(281,2,2),(281,3,3),(281,4,4)]
 oneP:=.of (by kernel_rfl)
 aggP:=.of (by kernel_rfl)
 slP:=.of (by kernel_rfl)
 faP:=⟨fun _ _ _=>by kernel_rfl,fun _ _ _=>by kernel_rfl,fun _ _ _=>by kernel_rfl,fun _ _ _=>by kernel_rfl,fun _ _ _=>by kernel_rfl,fun _ _ _=>by kernel_rfl,fun _ _ _=>by kernel_rfl,fun _ _ _=>by kernel_rfl,fun _ _ _=>by kernel_rfl,fun _ _ _=>by kernel_rfl,fun _ _ _=>by kernel_rfl,fun _ _ _=>by kernel_rfl,fun _ _ _=>by kernel_rfl,fun _ _ _=>by kernel_rfl,fun _ _ _=>by kernel_rfl,fun _ _ _=>by kernel_rfl,fun _ _ _=>by kernel_rfl,fun _ _ _=>by kernel_rfl,fun _ _ _=>by kernel_rfl,fun _ _ _=>by kernel_rfl,fun _ _ _=>by kernel_rfl,fun _ _ _=>by kernel_rfl,fun _ _ _=>by kernel_rfl,fun _ _ _=>by kernel_rfl,fun _ _ _=>by kernel_rfl,fun _ _ _=>by kernel_rfl,fun _ _ _=>by kernel_rfl,fun _ _ _=>by kernel_rfl,fun _ _ _=>by kernel_rfl,fun _ _ _=>by kernel_rfl,fun _ _ _=>by kernel_rfl,fun _ _ _=>by kernel_rfl,fun _ _ _=>by kernel_rfl,fun _ _ _=>by kernel_rfl,fun _ _ _=>by kernel_rfl,fun _ _ _=>by kernel_rfl,fun _ _ _=>by kernel_rfl,fun _ _ _=>by kernel_rfl,trivial⟩
end Go.Proofs.YtfdcckcadfhpeaaGreatDoor
namespace Go.Proofs.YtfdcckcadfhpeaaGreatDoor.T
open Go Go.Sl
theorem ar296:ArrayOf Tryz.prog 296 64 1 (List.replicate 64 (.int .u8 0)):=ArrayOf.of 5 (by kernel_rfl) (by kernel_rfl) (by kernel_rfl)
end Go.Proofs.YtfdcckcadfhpeaaGreatDoor.T
namespace Go.Proofs.YtfdcckcadfhpeaaGreatDoor
open Go Go.Sl
def aHS (c:Int):Int:=if c=2 then 1 else if c=4 then 2 else if c=8 then 3 else if c=16 then 4 else if c=32 then 5 else if c=64 then 6 else if c=128 then 7 else if c=256 then 8 else if c=512 then 9 else 0
def aFK:List Value:=[0,1,56,2,57,49,28,3,61,58,42,50,38,29,17,4,62,47,59,36,45,43,51,22,53,39,33,30,24,18,12,5,63,55,48,27,60,41,37,16,46,35,44,21,52,32,23,11,54,26,40,15,34,20,31,10,25,14,19,9,13,8,7,6].map fun n=>.int .u8 n
def TabOk (G:Imm):Prop:=∀ k v,aFK[k]?=some v→G.cell 1 k=some v
theorem TabOk.cell {G:Imm} (h:TabOk G) (k:Nat) (v:Value) (hv:aFK[k]?=some v):G.cell 1 k=some v:=h k v hv
theorem aHT {c:Int} (h:aHS c≠0):c=2∨c=4∨c=8∨c=16∨c=32∨c=64∨c=128∨c=256∨c=512:=by
 unfold aHS at h
 repeat' split at h
 all_goals omega
theorem c188 (G:Imm) (hT:TabOk G) (c:Int) (h:aHS c≠0):Does Tryz.prog 188 [.int .u64 c] G [] (fun v G' Ho=>v=.int .i64 (aHS c)∧G'=G∧Ho=[]):=by
 refine D0 Tryz.func188 Tryz.ntmps188 fun w=>?_
 rcases aHT h with rfl | rfl | rfl | rfl | rfl | rfl | rfl | rfl | rfl
 · have hcell:=hT.cell 1 (.int .u8 1) rfl
   refine Wc.seq ?_
   refine Wc.region rfl ?_
   refine aA 1 [] ?_
   refine Wl.done ?_
   refine Ar.next ?_
   refine Wc.seq ?_
   refine Wc.seq ?_
   refine Wc.region rfl ?_
   refine aA 2 [] ?_
   refine Wl.done ?_
   refine Ar.next ?_
   refine gE rfl (by first | assumption | omega) ?_
   refine Wc.skip ?_
   refine Ar.next ?_
   refine Wc.seq ?_
   refine Wc.region rfl ?_
   refine aA 2 [] ?_
   refine Wl.p (fM rfl) ?_
   refine Wl.p (eD rfl rfl) ?_
   refine Wl.p (eX rfl rfl) ?_
   refine Wl.p (Qy.shr rfl rfl (by omega)) ?_
   refine Wl.re 10 rfl (show _=Value.int .u64 1 by kernel_rfl) ?_
   refine Wl.p (aY 1 T.ar296 rfl rfl rfl rfl) ?_
   refine Wl.p (aL T.one5 rfl ‹_›) ?_
   refine Wl.p (bE rfl T.u3 rfl) ?_
   refine aA 1 [] ?_
   refine Wl.done ?_
   refine Ar.next ?_
   refine Wc.ret ?_
   refine Ar.e1 ?_
   exact ⟨rfl,rfl,rfl⟩
 · have hcell:=hT.cell 3 (.int .u8 2) rfl
   refine Wc.seq ?_
   refine Wc.region rfl ?_
   refine aA 1 [] ?_
   refine Wl.done ?_
   refine Ar.next ?_
   refine Wc.seq ?_
   refine Wc.seq ?_
   refine Wc.region rfl ?_
   refine aA 2 [] ?_
   refine Wl.done ?_
   refine Ar.next ?_
   refine gE rfl (by first | assumption | omega) ?_
   refine Wc.skip ?_
   refine Ar.next ?_
   refine Wc.seq ?_
   refine Wc.region rfl ?_
   refine aA 2 [] ?_
   refine Wl.p (fM rfl) ?_
   refine Wl.p (eD rfl rfl) ?_
   refine Wl.p (eX rfl rfl) ?_
   refine Wl.p (Qy.shr rfl rfl (by omega)) ?_
   refine Wl.re 10 rfl (show _=Value.int .u64 3 by kernel_rfl) ?_
   refine Wl.p (aY 3 T.ar296 rfl rfl rfl rfl) ?_
   refine Wl.p (aL T.one5 rfl ‹_›) ?_
   refine Wl.p (bE rfl T.u3 rfl) ?_
   refine aA 1 [] ?_
   refine Wl.done ?_
   refine Ar.next ?_
   refine Wc.ret ?_
   refine Ar.e1 ?_
   exact ⟨rfl,rfl,rfl⟩
 · have hcell:=hT.cell 7 (.int .u8 3) rfl
   refine Wc.seq ?_
   refine Wc.region rfl ?_
   refine aA 1 [] ?_
   refine Wl.done ?_
   refine Ar.next ?_
   refine Wc.seq ?_
   refine Wc.seq ?_
   refine Wc.region rfl ?_
   refine aA 2 [] ?_
   refine Wl.done ?_
   refine Ar.next ?_
   refine gE rfl (by first | assumption | omega) ?_
   refine Wc.skip ?_
   refine Ar.next ?_
   refine Wc.seq ?_
   refine Wc.region rfl ?_
   refine aA 2 [] ?_
   refine Wl.p (fM rfl) ?_
   refine Wl.p (eD rfl rfl) ?_
   refine Wl.p (eX rfl rfl) ?_
   refine Wl.p (Qy.shr rfl rfl (by omega)) ?_
   refine Wl.re 10 rfl (show _=Value.int .u64 7 by kernel_rfl) ?_
   refine Wl.p (aY 7 T.ar296 rfl rfl rfl rfl) ?_
   refine Wl.p (aL T.one5 rfl ‹_›) ?_
   refine Wl.p (bE rfl T.u3 rfl) ?_
   refine aA 1 [] ?_
   refine Wl.done ?_
   refine Ar.next ?_
   refine Wc.ret ?_
   refine Ar.e1 ?_
   exact ⟨rfl,rfl,rfl⟩
 · have hcell:=hT.cell 15 (.int .u8 4) rfl
   refine Wc.seq ?_
   refine Wc.region rfl ?_
   refine aA 1 [] ?_
   refine Wl.done ?_
   refine Ar.next ?_
   refine Wc.seq ?_
   refine Wc.seq ?_
   refine Wc.region rfl ?_
   refine aA 2 [] ?_
   refine Wl.done ?_
   refine Ar.next ?_
   refine gE rfl (by first | assumption | omega) ?_
   refine Wc.skip ?_
   refine Ar.next ?_
   refine Wc.seq ?_
   refine Wc.region rfl ?_
   refine aA 2 [] ?_
   refine Wl.p (fM rfl) ?_
   refine Wl.p (eD rfl rfl) ?_
   refine Wl.p (eX rfl rfl) ?_
   refine Wl.p (Qy.shr rfl rfl (by omega)) ?_
   refine Wl.re 10 rfl (show _=Value.int .u64 15 by kernel_rfl) ?_
   refine Wl.p (aY 15 T.ar296 rfl rfl rfl rfl) ?_
   refine Wl.p (aL T.one5 rfl ‹_›) ?_
   refine Wl.p (bE rfl T.u3 rfl) ?_
   refine aA 1 [] ?_
   refine Wl.done ?_
   refine Ar.next ?_
   refine Wc.ret ?_
   refine Ar.e1 ?_
   exact ⟨rfl,rfl,rfl⟩
 · have hcell:=hT.cell 31 (.int .u8 5) rfl
   refine Wc.seq ?_
   refine Wc.region rfl ?_
   refine aA 1 [] ?_
   refine Wl.done ?_
   refine Ar.next ?_
   refine Wc.seq ?_
   refine Wc.seq ?_
   refine Wc.region rfl ?_
   refine aA 2 [] ?_
   refine Wl.done ?_
   refine Ar.next ?_
   refine gE rfl (by first | assumption | omega) ?_
   refine Wc.skip ?_
   refine Ar.next ?_
   refine Wc.seq ?_
   refine Wc.region rfl ?_
   refine aA 2 [] ?_
   refine Wl.p (fM rfl) ?_
   refine Wl.p (eD rfl rfl) ?_
   refine Wl.p (eX rfl rfl) ?_
   refine Wl.p (Qy.shr rfl rfl (by omega)) ?_
   refine Wl.re 10 rfl (show _=Value.int .u64 31 by kernel_rfl) ?_
   refine Wl.p (aY 31 T.ar296 rfl rfl rfl rfl) ?_
   refine Wl.p (aL T.one5 rfl ‹_›) ?_
   refine Wl.p (bE rfl T.u3 rfl) ?_
   refine aA 1 [] ?_
   refine Wl.done ?_
   refine Ar.next ?_
   refine Wc.ret ?_
   refine Ar.e1 ?_
   exact ⟨rfl,rfl,rfl⟩
 · have hcell:=hT.cell 63 (.int .u8 6) rfl
   refine Wc.seq ?_
   refine Wc.region rfl ?_
   refine aA 1 [] ?_
   refine Wl.done ?_
   refine Ar.next ?_
   refine Wc.seq ?_
   refine Wc.seq ?_
   refine Wc.region rfl ?_
   refine aA 2 [] ?_
   refine Wl.done ?_
   refine Ar.next ?_
   refine gE rfl (by first | assumption | omega) ?_
   refine Wc.skip ?_
   refine Ar.next ?_
   refine Wc.seq ?_
   refine Wc.region rfl ?_
   refine aA 2 [] ?_
   refine Wl.p (fM rfl) ?_
   refine Wl.p (eD rfl rfl) ?_
   refine Wl.p (eX rfl rfl) ?_
   refine Wl.p (Qy.shr rfl rfl (by omega)) ?_
   refine Wl.re 10 rfl (show _=Value.int .u64 63 by kernel_rfl) ?_
   refine Wl.p (aY 63 T.ar296 rfl rfl rfl rfl) ?_
   refine Wl.p (aL T.one5 rfl ‹_›) ?_
   refine Wl.p (bE rfl T.u3 rfl) ?_
   refine aA 1 [] ?_
   refine Wl.done ?_
   refine Ar.next ?_
   refine Wc.ret ?_
   refine Ar.e1 ?_
   exact ⟨rfl,rfl,rfl⟩
 · have hcell:=hT.cell 62 (.int .u8 7) rfl
   refine Wc.seq ?_
   refine Wc.region rfl ?_
   refine aA 1 [] ?_
   refine Wl.done ?_
   refine Ar.next ?_
   refine Wc.seq ?_
   refine Wc.seq ?_
   refine Wc.region rfl ?_
   refine aA 2 [] ?_
   refine Wl.done ?_
   refine Ar.next ?_
   refine gE rfl (by first | assumption | omega) ?_
   refine Wc.skip ?_
   refine Ar.next ?_
   refine Wc.seq ?_
   refine Wc.region rfl ?_
   refine aA 2 [] ?_
   refine Wl.p (fM rfl) ?_
   refine Wl.p (eD rfl rfl) ?_
   refine Wl.p (eX rfl rfl) ?_
   refine Wl.p (Qy.shr rfl rfl (by omega)) ?_
   refine Wl.re 10 rfl (show _=Value.int .u64 62 by kernel_rfl) ?_
   refine Wl.p (aY 62 T.ar296 rfl rfl rfl rfl) ?_
   refine Wl.p (aL T.one5 rfl ‹_›) ?_
   refine Wl.p (bE rfl T.u3 rfl) ?_
   refine aA 1 [] ?_
   refine Wl.done ?_
   refine Ar.next ?_
   refine Wc.ret ?_
   refine Ar.e1 ?_
   exact ⟨rfl,rfl,rfl⟩
 · have hcell:=hT.cell 61 (.int .u8 8) rfl
   refine Wc.seq ?_
   refine Wc.region rfl ?_
   refine aA 1 [] ?_
   refine Wl.done ?_
   refine Ar.next ?_
   refine Wc.seq ?_
   refine Wc.seq ?_
   refine Wc.region rfl ?_
   refine aA 2 [] ?_
   refine Wl.done ?_
   refine Ar.next ?_
   refine gE rfl (by first | assumption | omega) ?_
   refine Wc.skip ?_
   refine Ar.next ?_
   refine Wc.seq ?_
   refine Wc.region rfl ?_
   refine aA 2 [] ?_
   refine Wl.p (fM rfl) ?_
   refine Wl.p (eD rfl rfl) ?_
   refine Wl.p (eX rfl rfl) ?_
   refine Wl.p (Qy.shr rfl rfl (by omega)) ?_
   refine Wl.re 10 rfl (show _=Value.int .u64 61 by kernel_rfl) ?_
   refine Wl.p (aY 61 T.ar296 rfl rfl rfl rfl) ?_
   refine Wl.p (aL T.one5 rfl ‹_›) ?_
   refine Wl.p (bE rfl T.u3 rfl) ?_
   refine aA 1 [] ?_
   refine Wl.done ?_
   refine Ar.next ?_
   refine Wc.ret ?_
   refine Ar.e1 ?_
   exact ⟨rfl,rfl,rfl⟩
 have hcell:=hT.cell 59 (.int .u8 9) rfl
 refine Wc.seq ?_
 refine Wc.region rfl ?_
 refine aA 1 [] ?_
 refine Wl.done ?_
 refine Ar.next ?_
 refine Wc.seq ?_
 refine Wc.seq ?_
 refine Wc.region rfl ?_
 refine aA 2 [] ?_
 refine Wl.done ?_
 refine Ar.next ?_
 refine gE rfl (by first | assumption | omega) ?_
 refine Wc.skip ?_
 refine Ar.next ?_
 refine Wc.seq ?_
 refine Wc.region rfl ?_
 refine aA 2 [] ?_
 refine Wl.p (fM rfl) ?_
 refine Wl.p (eD rfl rfl) ?_
 refine Wl.p (eX rfl rfl) ?_
 refine Wl.p (Qy.shr rfl rfl (by omega)) ?_
 refine Wl.re 10 rfl (show _=Value.int .u64 59 by kernel_rfl) ?_
 refine Wl.p (aY 59 T.ar296 rfl rfl rfl rfl) ?_
 refine Wl.p (aL T.one5 rfl ‹_›) ?_
 refine Wl.p (bE rfl T.u3 rfl) ?_
 refine aA 1 [] ?_
 refine Wl.done ?_
 refine Ar.next ?_
 refine Wc.ret ?_
 refine Ar.e1 ?_
 exact ⟨rfl,rfl,rfl⟩
end Go.Proofs.YtfdcckcadfhpeaaGreatDoor
namespace Go.Sl
open Go Go.ChangeShapes Go.WideShapes Go.RowKit
def pO (W:World):Imm:=fun b=>W.heap[b]?
theorem holdG (W:World):HoldH [] (pO W) W:=
 ⟨fun t b o h=>by simp [Hp.get] at h,fun t t' b o o' h=>by simp [Hp.get] at h,fun b o h=>h,fun t b o h=>by simp [Hp.get] at h⟩
theorem aHU {W W':World} (h:Upd (Hp.has []) W W'):Go.RowKit.Below W.heap.size W W':=
 ⟨h.os,h.tape,h.output,h.size,fun k hk=>h.same k hk (fun ⟨t,o,hx⟩=>by simp [Hp.get] at hx)⟩
section
variable {H:Type} {enc:TypeId×Value→H} {P:Program}
theorem nV (hl:laidOutB P=true) {W W':World} {sp':Nat→Bool}:∀ {ts:List TypeId} {vs:List Value} {ds:List (DataW H)} {ps:List MemPlace},(ts.all fun t=>P.readableRec t && decide (t<P.types.size))=true→
 DataW.TrodAll enc P W 0 (fun _=>true) true ts vs ds ps→(∀ p∈ps,W.sameAt W' p)→(∀ p∈ps,sp' p.block=true)→DataW.TrodAll enc P W' 0 sp' true ts vs ds ps
 | [],_,_,_,_,h,_,_=>by
   obtain ⟨rfl,rfl,rfl⟩:=trodAll_nil h
   exact trodAll_mk0
 | t :: ts,_,_,_,hr,h,hs,hp=>by
   obtain ⟨v,vs,d,ds,p,q,rfl,rfl,rfl,h1,h2⟩:=trodAll_cons h
   simp only [List.all_cons,Bool.and_eq_true,decide_eq_true_eq] at hr
   exact ⟨p,q,WideElems.Trod_stays hl hr.1.1 hr.1.2 h1 (fun x hx=>hs x (by simp [hx])) (fun x hx=>hp x (by simp [hx])),
    nV hl hr.2 h2 (fun x hx=>hs x (by simp [hx])) (fun x hx=>hp x (by simp [hx])),rfl⟩
theorem sG {w:World} {base:Nat} {sp:Nat→Bool} {hd:Bool}:∀ {ts:List TypeId} {vs:List Value} {ds:List (DataW H)} {ps:List MemPlace},DataW.TrodAll enc P w base sp hd ts vs ds ps→ds.length=ts.length
 | [],_,_,_,h=>by obtain ⟨rfl,rfl,rfl⟩:=trodAll_nil h;rfl
 | t :: ts,_,_,_,h=>by
   obtain ⟨v,vs,d,ds,p,q,rfl,rfl,rfl,h1,h2⟩:=trodAll_cons h
   simp [sG h2]
theorem aHV {f:Func} {n:FuncId} {s:ChangeSpec} {tb:TypeId} {apart fresh handsOn again:Bool} (hl:laidOutB P=true) (hr:(f.params.toList.all fun t=>P.readableRec t && decide (t<P.types.size))=true) (hres:f.resultTypes=#[tb]) (hb:P.underlying tb=some .bool)
 (hv:s.vars=[]) (hs:∀ ds:List (DataW H),ds.length=f.params.toList.length→s.fn H ds={ results:=[.lit (.bool true)],args:=ds }) {W:World} {args:Array Value} {ds gs:List (DataW H)} {before:List MemPlace}
 (hW:DataW.Whole enc P f.params.toList s.vars apart W args.toList ds gs before) (hd:Does P n args.toList (pO W) [] (fun v _ _=>v=.bool true)) :
 Calls P n args W fun e W'=>∃ v,e=.returned v∧s.post enc P f apart fresh handsOn again W args v W':=by
 refine (hd W (holdG W)).mono fun e W' ⟨v,G',Ho,he,q1,q2,q3,q4,q5,hvv⟩=>⟨v,he,?_⟩
 subst hvv
 have hbel:=aHU q3
 have hW':=hW
 have hlt:=hW.lt
 obtain ⟨p,q,hA,hV,rfl,hz,hn⟩:=hW
 rw [hv] at hV
 obtain ⟨rfl,rfl⟩:=trodVars_none hV
 simp only [List.append_nil] at hW' hlt hz hn
 have hlen:=sG hA
 have hspec:=hs ds hlen
 have hres':∀ (b:Nat) (sp:Nat→Bool) (hd:Bool),DataW.TrodAll enc P W' b sp hd f.resultTypes.toList ((Value.bool true).resultList f.resultTypes.size) (s.fn H (ds++[])).results []:=fun b sp hd=>by
  rw [List.append_nil,hspec,hres]
  exact ⟨[],[],shut_bool hb _,trodAll_mk0,rfl⟩
 have hargs:∀ sp:Nat→Bool,(∀ x∈p,sp x.block=true)→DataW.TrodAll enc P W' 0 sp true f.params.toList args.toList (s.fn H (ds++[])).args p:=fun sp hsp=>by
  rw [List.append_nil,hspec]
  exact nV hl hr hA (fun x hx=>hbel.same (hlt x hx)) hsp
 have hvars:∀ sp:Nat→Bool,DataW.TrodVars enc P W' sp s.vars (s.fn H (ds++[])).vars []:=fun sp=>by
  rw [List.append_nil,hspec,hv];exact rfl
 have hold:∀ x∈p,(fun b=>decide (b<W.heap.size)) x.block=true:=fun x hx=>by simpa using hlt x hx
 refine ⟨ds,[],p,[],p,[],by simpa using hW',hres' _ _ _,hargs _ hold,hvars _,World.keptBut_mono (fun x hx=>⟨hx,.inr (by simpa using hx)⟩) (hbel.frame _),fun _=>?_⟩
 refine ⟨ok_one hres rfl (okWide_bool_mk hb _),_,_,([]++p)++[],⟨[]++p,[],trodAll_append (hargs _ (fun _ _=>rfl)) (hres' _ _ _),hvars _,rfl,?_,?_⟩,?_⟩
 · intro b off hp
   have hp':MemPlace.cell b off∈p:=by simpa using hp
   rw [hbel.frozen (by exact hlt _ hp')]
   exact hz b off hp'
 · intro ha
   simpa using hn ha
 intro x hx _
 simpa using hx
end
theorem uH {W:World} {b o:Nat} {v:Value} (h:W.cell? ⟨b,o,none⟩=some v):(pO W).cell b o=some v:=by
 unfold World.cell? at h
 unfold Imm.cell pO
 split at h
 · rename_i c t fz hb
   rw [show W.heap[b]?=some (.cells c t fz) from hb]
   exact h
 cases h
theorem xM {W:World} {a:Addr} {v:Value} (h:W.cell? a=some v):a.spot=none:=by
 unfold World.cell? at h
 split at h
 · cases hs:a.spot with
   | none=>rfl
   | some x=>simp [hs] at h
 cases h
theorem aKQ {a:Addr} {i:Nat} (h:(a.add i).spot=none) (ha:i=0∨True):a.add i=⟨a.block,a.off+i,none⟩:=by
 unfold Addr.add at h ⊢
 split
 · rename_i h0
   subst h0
   rw [if_pos rfl] at h
   cases a
   simp_all
 rfl
section
variable {H:Type} {enc:TypeId×Value→H} {P:Program} {α:Type} [Cells α] [Inhabited α]
def Dec (enc:TypeId×Value→H) (P:Program) (W:World) (E:TypeId) (Good:α→DataW H→Prop):Prop:=
 ∀ (n:Nat) (cs:List Value) (x:DataW H×List MemPlace),DataW.trod enc P W 0 (fun _=>true) true n E cs=some x→∃ y:α,cs=Cells.enc y∧Good y x.1
theorem yZ {W:World} {b o:Nat} {xs:List α} (h:∀ i,i<xs.length→∀ j,j<Cells.sz α→W.cell? ⟨b,o+(i*Cells.sz α+j),none⟩=(Cells.enc (xs[i]?.getD default))[j]?) (h0:0<Cells.sz α):(pO W).row b o (bH xs):=by
 intro q v hq
 have hlt:q<(bH xs).length:=(List.getElem?_eq_some_iff.1 hq).1
 rw [aV] at hlt
 have h1:q=(q / Cells.sz α)*Cells.sz α+q % Cells.sz α:=by rw [Nat.mul_comm];exact (Nat.div_add_mod q _).symm
 have h2:q % Cells.sz α<Cells.sz α:=Nat.mod_lt _ h0
 have h3:q / Cells.sz α<xs.length:=(Nat.div_lt_iff_lt_mul h0).2 hlt
 have h4:=mH xs _ _ h3 h2
 rw [←h1,hq] at h4
 have h5:=h _ h3 _ h2
 rw [←h1,←h4] at h5
 exact uH h5
theorem aKR {W:World} {T E:TypeId} {Good:α→DataW H→Prop} {fuel:Nat} {cs:List Value} {x:DataW H×List MemPlace} (ht:P.underlying T=some (.slice E)) (hsz:P.cellsOf E=Cells.sz α) (h0:0<Cells.sz α)
 (dec:Dec (α:=α) enc P W E Good) (h:DataW.trod enc P W 0 (fun _=>true) true fuel T cs=some x) :
 ∃ (a:Option Addr) (cap:Nat) (xs:List α),cs=[.slice a xs.length cap]∧Arr (pO W) a xs∧xs.length≤cap∧
  ((x.1=.nil∧xs=[])∨∃ l r,x.1=.slice l r∧l.length=xs.length∧∀ i,i<xs.length→∃ d,l[i]?=some d∧Good (xs[i]?.getD default) d):=by
 rcases Deep.open_slice ht h with ⟨rfl,rfl⟩ | ⟨a,len,cap,m,n,D,Pl,rfl,hb,hlc,hm,hmm,rfl,hx⟩
 · exact ⟨none,0,[],rfl,Arr.nil _,Nat.le_refl _,.inl ⟨rfl,rfl⟩⟩
 have hml:m=cap:=by rw [hmm];simp
 have hel:∀ i,i<len→∃ y:α,W.cells? 0 (a.add (i*Cells.sz α)) (Cells.sz α)=some (Cells.enc y)∧Good y (D i):=fun i hi=>by
  obtain ⟨cs',h1,h2⟩:=hx i (by omega)
  obtain ⟨y,rfl,hg⟩:=dec _ _ _ h2
  rw [hsz] at h1
  exact ⟨y,h1,hg⟩
 obtain ⟨Y,hY⟩:=Deep.choose_lt hel
 have hlen:((List.range len).map Y).length=len:=by simp
 have hget:∀ i,i<len→((List.range len).map Y)[i]?.getD default=Y i:=fun i hi=>by simp [hi]
 refine ⟨some a,cap,(List.range len).map Y,by rw [hlen],⟨aV _,?_⟩,by rw [hlen];exact hlc,.inr ⟨_,_,rfl,by simp,fun i hi=>?_⟩⟩
 · rw [hlen]
   rcases Nat.eq_zero_or_pos len with h00 | hpos
   · exact .inl h00
   refine .inr ⟨a.block,a.off,?_,?_⟩
   · have h1:=(World.cells?_some (hY 0 hpos).1).2.2 0 h0
     rw [Nat.zero_mul] at h1
     have h2:∃ v,(Cells.enc (Y 0))[0]?=some v:=⟨_,List.getElem?_eq_getElem (by rw [Cells.len];exact h0)⟩
     obtain ⟨v,hv⟩:=h2
     rw [hv] at h1
     have h3:=xM h1
     cases a
     simp only [Addr.add] at h3
     simp_all
   refine yZ (fun i hi j hj=>?_) h0
   rw [hlen] at hi
   rw [hget i hi]
   have h1:=(World.cells?_some (hY i hi).1).2.2 j hj
   have h2:∃ v,(Cells.enc (Y i))[j]?=some v:=⟨_,List.getElem?_eq_getElem (by rw [Cells.len];exact hj)⟩
   obtain ⟨v,hv⟩:=h2
   rw [hv] at h1 ⊢
   rw [Deep.add_add] at h1
   have h3:=xM h1
   rw [aKQ h3 (.inr trivial)] at h1
   exact h1
 rw [hlen] at hi
 rw [hget i hi]
 exact ⟨D i,by simp [hi],(hY i hi).2⟩
end
end Go.Sl
namespace Go.Proofs.YtfdcckcadfhpeaaGreatDoor
open Go Go.Sl Go.ChangeShapes Go.WideShapes Go.RowKit Go.Joins
abbrev aRC : List (String × DataW Unit) := [("math/bits.deBruijn32tab", Rows.laid_math_bits_deBruijn32tab), ("math/bits.deBruijn64tab", Rows.laid_math_bits_deBruijn64tab)]
def aKS:List Int:=[0,1,56,2,57,49,28,3,61,58,42,50,38,29,17,4,62,47,59,36,45,43,51,22,53,39,33,30,24,18,12,5,63,55,48,27,60,41,37,16,46,35,44,21,52,32,23,11,54,26,40,15,34,20,31,10,25,14,19,9,13,8,7,6]
theorem und4:Tryz.prog.underlying 4=some .bool:=by kernel_rfl
theorem aPJ:laidOutB Tryz.prog=true:=by kernel_rfl
theorem own:ownKnob Tryz.prog.godebug=none:=by kernel_rfl
theorem gTab : Tryz.prog.globalNamed "math/bits.deBruijn64tab" = some 1 := by kernel_rfl
theorem aKT:(Tryz.prog.globals[1]?).map (·.type)=some 296:=by kernel_rfl
theorem aRU:Tryz.prog.underlying 296=some (.array 64 5):=by kernel_rfl
theorem und5:Tryz.prog.underlying 5=some (.int .u8):=by kernel_rfl
theorem aKU:Tryz.prog.cellsOf 296=64:=by kernel_rfl
theorem aRV:Tryz.prog.cellsOf 5=1:=by kernel_rfl
theorem table {W : World} (h : laidMetH Tryz.prog aRC W) : Lib.TabIs Tryz.prog W "math/bits.deBruijn64tab" .u8 aKS := by
 have h1 := h.filter (fun x => x.1 == "math/bits.deBruijn64tab")
 have e : aRC.filter (fun x => x.1 == "math/bits.deBruijn64tab") = [("math/bits.deBruijn64tab", Rows.laid_math_bits_deBruijn64tab)] := by kernel_rfl
 rw [e] at h1
 exact Lib.tabIs_of_head (rest:=[]) gTab aKT aRU und5 aRV aKU h1
theorem aRW {W:World} (h:laidMetH Tryz.prog aRC W):TabOk (pO W):=fun k v hv=>by
 have hk:k<aKS.length:=by
  have:=(List.getElem?_eq_some_iff.1 hv).1
  simpa [aFK,aKS] using this
 have h1:=(table h).cell gTab k hk
 have h2:=uH h1
 rw [h2]
 have e:aFK=aKS.map fun n=>.int .u8 n:=rfl
 rw [e,List.getElem?_map,List.getElem?_eq_getElem hk] at hv
 rw [←hv,List.getD_eq_getElem?_getD,List.getElem?_eq_getElem hk];rfl
def aKV (cs:Array Value):Obj→Obj
 | .cells _ t frozen=>.cells cs t frozen
 | o=>o
def rG (os:Os):World:=
 { World.holding Tryz.prog os ⟨#[],#[],[]⟩ with heap:=((World.holding Tryz.prog os ⟨#[],#[],[]⟩).heap.modify 0 (aKV #[.int .u8 0,.int .u8 1,.int .u8 28,.int .u8 2,.int .u8 29,.int .u8 14,.int .u8 24,.int .u8 3,.int .u8 30,.int .u8 22,.int .u8 20,.int .u8 15,.int .u8 25,.int .u8 17,.int .u8 4,.int .u8 8,.int .u8 31,.int .u8 27,.int .u8 13,.int .u8 23,.int .u8 21,.int .u8 19,.int .u8 16,.int .u8 7,.int .u8 26,.int .u8 12,.int .u8 18,.int .u8 6,.int .u8 11,.int .u8 5,.int .u8 10,.int .u8 9])).modify 1 (aKV aFK.toArray) }
end Go.Proofs.YtfdcckcadfhpeaaGreatDoor
namespace Go.Sl
open Go
def Lims (l:List U32):Prop:=∀ d∈l,0≤d.v∧d.v<4294967296
def aB:List U32→Int
 | []=>0
 | d :: l=>d.v+4294967296*aB l
def pb (n:Nat):Int:=((4294967296 ^ n:Nat):Int)
theorem tA:pb 0=1:=rfl
theorem fP (n:Nat):pb (n+1)=4294967296*pb n:=by unfold pb;rw [Nat.pow_succ,Nat.mul_comm,Int.natCast_mul];rfl
theorem gG (n:Nat):0<pb n:=by unfold pb;exact Int.ofNat_lt.2 (Nat.pow_pos (by decide))
theorem aDT (m n:Nat):pb (m+n)=pb m*pb n:=by unfold pb;rw [Nat.pow_add,Int.natCast_mul]
theorem xN {m n:Nat} (h:m≤n):pb m≤pb n:=by unfold pb;exact Int.ofNat_le.2 (Nat.pow_le_pow_right (by decide) h)
theorem bW:aB []=0:=rfl
theorem cV (d:U32) (l:List U32):aB (d :: l)=d.v+4294967296*aB l:=rfl
theorem Lims.nil:Lims []:=fun d h=>by simp at h
theorem Lims.tail {d:U32} {l:List U32} (h:Lims (d :: l)):Lims l:=fun x hx=>h x (List.mem_cons_of_mem _ hx)
theorem Lims.head {d:U32} {l:List U32} (h:Lims (d :: l)):0≤d.v∧d.v<4294967296:=h d List.mem_cons_self
theorem Lims.append {l m:List U32} (h:Lims l) (h':Lims m):Lims (l++m):=fun x hx=>by
 rcases List.mem_append.1 hx with h1 | h1
 · exact h x h1
 exact h' x h1
theorem Lims.one {d:Int} (h:0≤d∧d<4294967296):Lims [⟨d⟩]:=fun x hx=>by
 have:x=⟨d⟩:=by simpa using hx
 subst this;exact h
theorem Lims.take {l:List U32} (h:Lims l) (n:Nat):Lims (l.take n):=fun x hx=>h x (List.mem_of_mem_take hx)
theorem Lims.at {l:List U32} (h:Lims l) {m:Int} (hm:0≤m∧m<l.length):0≤(l[m.toNat]?.getD default).v∧(l[m.toNat]?.getD default).v<4294967296:=by
 have hl:m.toNat<l.length:=by omega
 rw [List.getElem?_eq_getElem hl];exact h _ (List.getElem_mem hl)
theorem bS:∀ {l:List U32},Lims l→0≤aB l
 | [],_=>Int.le_refl 0
 | d :: l,h=>by
   have h1:=bS h.tail
   have h2:=h.head
   rw [cV];omega
theorem eK:∀ {l:List U32},Lims l→aB l<pb l.length
 | [],_=>by decide
 | d :: l,h=>by
   have h1:=eK h.tail
   have h2:=h.head
   rw [cV,List.length_cons,fP];omega
theorem cT:∀ (l m:List U32),aB (l++m)=aB l+pb l.length*aB m
 | [],m=>by rw [List.nil_append,bW,List.length_nil,tA];omega
 | d :: l,m=>by
   rw [List.cons_append,cV,cV,cT l m,List.length_cons,fP,Int.mul_add,←Int.mul_assoc];omega
theorem mM (d:U32):aB [d]=d.v:=by rw [cV,bW];omega
theorem aHW (l:List U32) (d:U32):aB (l++[d])=aB l+pb l.length*d.v:=by rw [cT,mM]
theorem mN {l:List U32} {k:Nat} (h:k<l.length):aB (l.take (k+1))=aB (l.take k)+pb k*(l[((k:Nat):Int).toNat]?.getD default).v:=by
 rw [List.take_add_one,Int.toNat_natCast,List.getElem?_eq_getElem h]
 simp only [Option.toList_some,Option.getD_some]
 rw [aHW,List.length_take,Nat.min_eq_left (Nat.le_of_lt h)]
theorem jK (n:Nat):aB (List.replicate n ⟨0⟩)=0:=by
 induction n with
 | zero=>rfl
 | succ n ih=>rw [List.replicate_succ,cV,ih];rfl
theorem fR (n:Nat):Lims (List.replicate n ⟨0⟩):=fun x hx=>by
 have:=List.eq_of_mem_replicate hx
 subst this;exact ⟨by decide,by decide⟩
theorem aHX {l:List U32} {n:Nat} (h:∀ j,n≤j→j<l.length→(l[j]?.getD default).v=0):aB (l.take n)=aB l:=by
 rcases Nat.lt_or_ge n l.length with hn | hn
 · have e:l=l.take n++l.drop n:=(List.take_append_drop n l).symm
   have hz:∀ (m:List U32),(∀ j,j<m.length→(m[j]?.getD default).v=0)→aB m=0:=by
    intro m
    induction m with
    | nil=>intro _;rfl
    | cons d m ih =>
      intro h0
      have h1:=h0 0 (by simp)
      simp only [List.getElem?_cons_zero,Option.getD_some] at h1
      rw [cV,h1,ih fun j hj=>by have:=h0 (j+1) (by simpa using hj);simpa using this];rfl
   have h2:aB (l.drop n)=0:=hz _ fun j hj=>by
    rw [List.getElem?_drop]
    exact h (n+j) (by omega) (by rw [List.length_drop] at hj;omega)
   have h3:aB l=aB (l.take n++l.drop n):=by rw [List.take_append_drop]
   rw [h3,cT,h2];omega
 rw [aQ hn]
theorem tB {l:List U32} (hd:Lims l) (ht:Top l) (h0:l≠[]):pb (l.length - 1)≤aB l:=by
 have hl:0<l.length:=List.length_pos_iff.2 h0
 have h1:(l[l.length - 1]?.getD default).v≠0:=by
  rcases ht with h | h
  · exact absurd h h0
  exact h
 have h2:=mN (l:=l) (k:=l.length - 1) (by omega)
 rw [Nat.sub_add_cancel hl,aQ (Nat.le_refl _),Int.toNat_natCast] at h2
 have h3:=bS (hd.take (l.length - 1))
 have h4:(1:Int)≤(l[l.length - 1]?.getD default).v:=by
  have:=hd.at (m:=((l.length - 1:Nat):Int)) (by omega)
  rw [Int.toNat_natCast] at this
  omega
 have h5:=Int.mul_le_mul_of_nonneg_left h4 (Int.le_of_lt (gG (l.length - 1)))
 omega
theorem aAV {l:List U32} (hd:Lims l) (ht:Top l) {m:Nat} (h:aB l<pb m):l.length≤m:=by
 by_cases h0:l=[]
 · subst h0;exact Nat.zero_le _
 have h1:=tB hd ht h0
 rcases Nat.lt_or_ge m l.length with h2 | h2
 · have h3:=xN (show m≤l.length - 1 by omega)
   omega
 exact h2
theorem uI {l:List U32} (hd:Lims l) (ht:Top l) (h0:l≠[]):0<aB l:=Int.lt_of_lt_of_le (gG _) (tB hd ht h0)
theorem iI {l m:List U32} (hl:Lims l) (hm:Lims m) (tm:Top m) (h:l.length<m.length):aB l<aB m:=by
 have h1:=eK hl
 have h2:=tB hm tm (fun e=>by rw [e] at h;simp at h)
 have h3:=xN (show l.length≤m.length - 1 by omega)
 omega
structure IsBig (neg:Bool) (l:List U32) (z:Int):Prop where
 digs:Lims l
 top:Top l
 sign:l=[]→neg=false
 val:z=if neg=true then -aB l else aB l
theorem IsBig.abs {neg:Bool} {l:List U32} {z:Int} (h:IsBig neg l z):aB l=z.natAbs:=by
 have h1:=bS h.digs
 have h2:=h.val
 split at h2 <;> omega
theorem IsBig.neg_iff {neg:Bool} {l:List U32} {z:Int} (h:IsBig neg l z):neg=decide (z<0):=by
 have h2:=h.val
 by_cases h0:l=[]
 · have h3:=h.sign h0
   subst h0
   rw [h3] at h2 ⊢
   rw [bW] at h2
   have:¬z<0:=by simp at h2;omega
   simp [this]
 have h1:=uI h.digs h.top h0
 cases neg with
 | true =>
   rw [if_pos rfl] at h2
   have:z<0:=by omega
   simp [this]
 | false =>
   rw [if_neg (by decide)] at h2
   have:¬z<0:=by omega
   simp [this]
theorem IsBig.zero_iff {neg:Bool} {l:List U32} {z:Int} (h:IsBig neg l z):l.length=0↔z=0:=by
 have h2:=h.val
 constructor
 · intro h0
   have h0:=List.eq_nil_of_length_eq_zero h0
   subst h0
   rw [bW] at h2
   split at h2 <;> omega
 intro hz
 by_cases h0:l=[]
 · rw [h0];rfl
 have h1:=uI h.digs h.top h0
 split at h2 <;> omega
theorem IsBig.len {neg:Bool} {l:List U32} {z:Int} (h:IsBig neg l z) {m:Nat} (hz:(z.natAbs:Int)<pb m):l.length≤m:=by
 refine aAV h.digs h.top ?_
 rw [h.abs];exact hz
def Big (G:Imm) (x:IV) (z:Int):Prop:=∃ l:List U32,l.length=x.n∧x.n≤x.c∧Arr G x.a l∧IsBig x.neg l z
theorem Big.up {G G':Imm} {x:IV} {z:Int} (h:Big G x z) (hl:G.le G'):Big G' x z:=by
 obtain ⟨l,h1,h0,h2,h3⟩:=h
 exact ⟨l,h1,h0,h2.up hl,h3⟩
theorem Big.zero (G:Imm):Big G ⟨false,none,0,0⟩ 0:=⟨[],rfl,Nat.le_refl _,Arr.nil G,⟨Lims.nil,Top.nil,fun _=>rfl,rfl⟩⟩
theorem bits_and_u64_nat (a b:Nat) (ha:a<18446744073709551616) (hb:b<18446744073709551616):bits .and .u64 (a:Int) (b:Int)=((a &&& b:Nat):Int):=by
 have hx:a &&& b<2 ^ 64:=Nat.and_lt_two_pow _ (by omega)
 have h1:(BitVec.ofInt 64 (a:Int)).toNat=a:=by
  rw [BitVec.ofInt_natCast,BitVec.toNat_ofNat];exact Nat.mod_eq_of_lt (by omega)
 have h2:(BitVec.ofInt 64 (b:Int)).toNat=b:=by
  rw [BitVec.ofInt_natCast,BitVec.toNat_ofNat];exact Nat.mod_eq_of_lt (by omega)
 show IntKind.u64.wrap ((BitVec.ofInt 64 (a:Int) &&& BitVec.ofInt 64 (b:Int)).toNat:Int)=_
 rw [BitVec.toNat_and,h1,h2,IntKind.wrap_u64]
 omega
theorem bits_or_u64_nat (a b:Nat) (ha:a<18446744073709551616) (hb:b<18446744073709551616):bits .or .u64 (a:Int) (b:Int)=((a ||| b:Nat):Int):=by
 have hx:a ||| b<2 ^ 64:=Nat.or_lt_two_pow (by omega) (by omega)
 have h1:(BitVec.ofInt 64 (a:Int)).toNat=a:=by
  rw [BitVec.ofInt_natCast,BitVec.toNat_ofNat];exact Nat.mod_eq_of_lt (by omega)
 have h2:(BitVec.ofInt 64 (b:Int)).toNat=b:=by
  rw [BitVec.ofInt_natCast,BitVec.toNat_ofNat];exact Nat.mod_eq_of_lt (by omega)
 show IntKind.u64.wrap ((BitVec.ofInt 64 (a:Int) ||| BitVec.ofInt 64 (b:Int)).toNat:Int)=_
 rw [BitVec.toNat_or,h1,h2,IntKind.wrap_u64]
 omega
theorem aAW (x:Int) (h:0≤x∧x<18446744073709551616):bits .and .u64 x 1=x % 2:=by
 have h1:=bits_and_u64_nat x.toNat 1 (by omega) (by omega)
 rw [Nat.and_one_is_mod,Int.toNat_of_nonneg h.1] at h1
 have h2:((x.toNat % 2:Nat):Int)=x % 2:=by omega
 exact h1.trans h2
theorem aAX (x:Int) (h:0≤x∧x<18446744073709551616):bits .and .u64 x 4294967295=x % 4294967296:=by
 have h1:=bits_and_u64_nat x.toNat 4294967295 (by omega) (by omega)
 rw [show (4294967295:Nat)=2 ^ 32 - 1 by decide,Nat.and_two_pow_sub_one_eq_mod,Int.toNat_of_nonneg h.1] at h1
 have h2:((x.toNat % 2 ^ 32:Nat):Int)=x % 4294967296:=by omega
 exact h1.trans h2
theorem aDU (x y:Int) (hx:0≤x∧x<4294967296) (hy:0≤y∧y<4294967296):bits .or .u64 (x*4294967296) y=x*4294967296+y:=by
 have h1:=bits_or_u64_nat (2 ^ 32*x.toNat) y.toNat (by omega) (by omega)
 rw [←Nat.two_pow_add_eq_or_of_lt (b:=y.toNat) (i:=32) (by omega) x.toNat] at h1
 have e1:((2 ^ 32*x.toNat:Nat):Int)=x*4294967296:=by omega
 have e2:((2 ^ 32*x.toNat+y.toNat:Nat):Int)=x*4294967296+y:=by omega
 rw [e1,e2,Int.toNat_of_nonneg hy.1] at h1
 exact h1
theorem aAY (x y:Int) (hx:0≤x∧x<4294967296) (hy:0≤y∧y<4294967296):bits .or .u64 y (x*4294967296)=x*4294967296+y:=by
 have h1:=bits_or_u64_nat y.toNat (2 ^ 32*x.toNat) (by omega) (by omega)
 rw [Nat.or_comm,←Nat.two_pow_add_eq_or_of_lt (b:=y.toNat) (i:=32) (by omega) x.toNat] at h1
 have e1:((2 ^ 32*x.toNat:Nat):Int)=x*4294967296:=by omega
 have e2:((2 ^ 32*x.toNat+y.toNat:Nat):Int)=x*4294967296+y:=by omega
 rw [e1,e2,Int.toNat_of_nonneg hy.1] at h1
 exact h1
theorem sH (x y:Int) (s:Nat) (hx:0≤x∧x<((2 ^ s:Nat):Int)) (hy:0≤y∧y<4294967296) (hs:s≤32) (hm:y % ((2 ^ s:Nat):Int)=0):bits .or .u32 x y=x+y:=by
 have hp:2 ^ s≤2 ^ 32:=Nat.pow_le_pow_right (by decide) hs
 have h1:=lY x.toNat y.toNat (by omega) (by omega)
 have hm':y.toNat % 2 ^ s=0:=by
  have h2:((y.toNat % 2 ^ s:Nat):Int)=0:=by rw [Int.natCast_emod,Int.toNat_of_nonneg hy.1];exact hm
  exact Int.ofNat_eq_zero.1 h2
 have h3:=Nat.div_add_mod y.toNat (2 ^ s)
 rw [hm',Nat.add_zero] at h3
 have h4:=Nat.two_pow_add_eq_or_of_lt (b:=x.toNat) (i:=s) (by omega) (y.toNat / 2 ^ s)
 rw [h3] at h4
 rw [Nat.or_comm,←h4,Int.toNat_of_nonneg hx.1,Int.toNat_of_nonneg hy.1] at h1
 rw [h1]
 omega
section
variable {P:Program} {e:Env} {H:Hp} {G:Imm} {ty:TypeId} {t t':TypeId} {x y:Operand} {m n:Int} {k:IntKind}
theorem bI (hx:e.ev x=some (.int .u64 m)) (hy:e.ev y=some (.int k 32)) (h0:0≤m):Qy P (.binOp .shr t x y t') ty e H G (.int .u64 (m / 4294967296)):=by
 have h:=Qy.shr (P:=P) (H:=H) (G:=G) (ty:=ty) (t:=t) (t':=t') hx hy (by decide)
 have e1:m.fdiv (2 ^ (Min.min (32:Int).toNat IntKind.u64.bits))=m / 4294967296:=by
  rw [show Min.min (32:Int).toNat IntKind.u64.bits=32 by decide]
  exact Int.fdiv_eq_ediv_of_nonneg _ (by decide)
 rw [e1] at h;exact h
theorem mO (hx:e.ev x=some (.int .u64 m)) (hy:e.ev y=some (.int k 32)) (h0:0≤m∧m<4294967296):Qy P (.binOp .shl t x y t') ty e H G (.int .u64 (m*4294967296)):=by
 have h:=Qy.shl (P:=P) (H:=H) (G:=G) (ty:=ty) (t:=t) (t':=t') hx hy (by decide)
 have e1:IntKind.u64.wrap (m*2 ^ (Min.min (32:Int).toNat IntKind.u64.bits))=m*4294967296:=by
  rw [show Min.min (32:Int).toNat IntKind.u64.bits=32 by decide]
  exact IntWalk.u64_in _ (by omega)
 rw [e1] at h;exact h
theorem cF {s:TypeId} (hs:(P.underlying s).isSome=true) (ht:P.underlying t=some (.int .u32)) (hx:e.ev x=some (.int .u64 m)):Qy P (.convert s t x) ty e H G (.int .u32 (m % 4294967296)):=by
 have h:=bE (P:=P) (H:=H) (G:=G) (ty:=ty) hs ht hx
 rw [IntKind.wrap_u32] at h
 exact h
theorem iB (hx:e.ev x=some (.int .u64 m)) (hy:e.ev y=some (.int .u64 1)) (h0:0≤m∧m<18446744073709551616):Qy P (.binOp .and t x y t') ty e H G (.int .u64 (m % 2)):=by
 have h:=eD (P:=P) (H:=H) (G:=G) (ty:=ty) (t:=t) (t':=t') hx hy
 rw [aAW m h0] at h;exact h
theorem iZ (hx:e.ev x=some (.int .u64 m)) (hy:e.ev y=some (.int .u64 4294967295)) (h0:0≤m∧m<18446744073709551616):Qy P (.binOp .and t x y t') ty e H G (.int .u64 (m % 4294967296)):=by
 have h:=eD (P:=P) (H:=H) (G:=G) (ty:=ty) (t:=t) (t':=t') hx hy
 rw [aAX m h0] at h;exact h
theorem pP (hx:e.ev x=some (.int .u64 (m*4294967296))) (hy:e.ev y=some (.int .u64 n)) (h0:0≤m∧m<4294967296) (h1:0≤n∧n<4294967296):Qy P (.binOp .or t x y t') ty e H G (.int .u64 (m*4294967296+n)):=by
 have h:=lG (P:=P) (H:=H) (G:=G) (ty:=ty) (t:=t) (t':=t') hx hy
 rw [aDU m n h0 h1] at h;exact h
theorem aHY (hx:e.ev x=some (.int .u64 n)) (hy:e.ev y=some (.int .u64 (m*4294967296))) (h0:0≤m∧m<4294967296) (h1:0≤n∧n<4294967296):Qy P (.binOp .or t x y t') ty e H G (.int .u64 (m*4294967296+n)):=by
 have h:=lG (P:=P) (H:=H) (G:=G) (ty:=ty) (t:=t) (t':=t') hx hy
 rw [aAY m n h0 h1] at h;exact h
theorem aPK {s:Nat} (hx:e.ev x=some (.int .u64 m)) (hy:e.ev y=some (.int k (s:Int))) (h0:0≤m∧m<4294967296) (hs:s≤32):Qy P (.binOp .shl t x y t') ty e H G (.int .u64 (m*((2 ^ s:Nat):Int))):=by
 have h:=Qy.shl (P:=P) (H:=H) (G:=G) (ty:=ty) (t:=t) (t':=t') hx hy (by omega)
 have e1:IntKind.u64.wrap (m*2 ^ (Min.min (s:Int).toNat IntKind.u64.bits))=m*((2 ^ s:Nat):Int):=by
  rw [Int.toNat_natCast,Nat.min_eq_left (Nat.le_trans hs (by decide))]
  have e2:(2:Int) ^ s=((2 ^ s:Nat):Int):=by rw [Int.natCast_pow];rfl
  rw [e2]
  have hp:(1:Int)≤((2 ^ s:Nat):Int)∧((2 ^ s:Nat):Int)≤4294967296:=by
   have h1:0<2 ^ s:=Nat.pow_pos (by decide)
   have h2:2 ^ s≤2 ^ 32:=Nat.pow_le_pow_right (by decide) hs
   omega
  have h3:=Int.mul_le_mul_of_nonneg_left hp.2 h0.1
  have h4:=Int.mul_nonneg h0.1 (show (0:Int)≤((2 ^ s:Nat):Int) by omega)
  exact IntWalk.u64_in _ (by omega)
 rw [e1] at h;exact h
theorem aFL {s:Nat} (hx:e.ev x=some (.int .u64 m)) (hy:e.ev y=some (.int k (s:Int))) (h0:0≤m) (hs:s≤32):Qy P (.binOp .shr t x y t') ty e H G (.int .u64 (m / ((2 ^ s:Nat):Int))):=by
 have h:=Qy.shr (P:=P) (H:=H) (G:=G) (ty:=ty) (t:=t) (t':=t') hx hy (by omega)
 have e1:m.fdiv (2 ^ (Min.min (s:Int).toNat IntKind.u64.bits))=m / ((2 ^ s:Nat):Int):=by
  rw [Int.toNat_natCast,Nat.min_eq_left (Nat.le_trans hs (by decide))]
  have e2:(2:Int) ^ s=((2 ^ s:Nat):Int):=by rw [Int.natCast_pow];rfl
  rw [e2]
  exact Int.fdiv_eq_ediv_of_nonneg _ (Int.natCast_nonneg _)
 rw [e1] at h;exact h
end
end Go.Sl
end
