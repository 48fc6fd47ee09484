/- wG of the proof (part 10): what the rows' text needs of the texts that lead to it. -/
import Derived.Test.YtngphgeghfdjbaaGreatDoorMDi
set_option linter.unusedVariables false
set_option linter.unusedSimpArgs false
set_option linter.unusedSectionVars false
set_option maxHeartbeats 4000000
noncomputable section
set_option maxRecDepth 100000
namespace Go.Sl.Ev
open Go Go.Sl
section
variable {P:Program} {nx n:Nat} {ρ:Pl} {Φ:A3→Prop} {w0:E5 Φ} {w:World} {E:Tr CV} {h:Tr CB} {a:Act}
theorem Ys {T:TypeId} {x y:Operand} {r:Ro} (hs:B4 ρ E nx n a) (hm:Mem ρ w0 h nx w) (hr:wv P E h nx (.makeSlice T x y)=r):Wd P (.makeSlice T x y) ρ w0 h nx a w r:=by
 subst hr;show Wd _ _ _ _ _ _ _ _ (match TI P T with
  | some (e,sz,by',z)=>match wA E x with
    | some (.int _ n)=>match wA E y with
      | some (.int _ c)=>bif yK 0 n && (yK n c && (Nat.ble (Nat.mul by' c.toNat) 281474976710656 && (Nat.ble c.toNat 4611686018427387904 && Nat.ble (Nat.succ nx) uW))) then
       .val (.sl nx 0 n.toNat sz (some c.toNat)) (h.set (some (.cells (Tk (GA z c.toNat)) e false nx)) uW nx) (Nat.succ nx) else .bad
      | _=>.bad
    | _=>.bad
  | none=>.bad)
 split
 · rename_i e sz by' z hz;split
   · rename_i k N hx;split
     · rename_i k' C hy;cases hb:yK 0 N && (yK N C && (Nat.ble (Nat.mul by' C.toNat) 281474976710656 && (Nat.ble C.toNat 4611686018427387904 && Nat.ble (Nat.succ nx) uW))) with
       | false=>trivial
       | true =>
         simp only [aB,wI,aY] at hb;obtain ⟨hb1,hb2,hb3,hb4,hb5⟩:=hb;have hb3:by'*C.toNat≤281474976710656:=bK hb3;have hb4:=bK hb4;obtain ⟨hu,i,zv,hi,hzv,hsz,hby,kz,hzl,h0⟩:=Lz hz nx ρ;obtain ⟨v1,e1,k1⟩:=uQ hs hx;obtain ⟨v2,e2,k2⟩:=uQ hs hy;rw [iJ.1 k1.2] at e1;rw [iJ.1 k2.2] at e2;have hbc:(i.bytes:Int)*C≤281474976710656:=by
          have:((by'*C.toNat:Nat):Int)=(i.bytes:Int)*C:=by rw [dS,dZ uJ,hby]
          omega
         have hrun:=run_make (P:=P) w T e i zv hu hi hzv k k' N C hb1 hb2 hbc uJ;have hmade:madeCells zv.cells (C.toNat*i.size)=(List.replicate C.toNat zv.cells.toList).flatten.toArray:=by
          have:=Nw (zs:=zv.cells.toList) uJ C.toNat;rw [hzl] at this;rw [hsz,←this]
         rw [hmade] at hrun;have hlen:(List.replicate C.toNat zv.cells.toList).flatten.length=C.toNat*sz:=by simp [←hzl]
         refine qY (s:=C.toNat*sz) (o:=.cells (List.replicate C.toNat zv.cells.toList).flatten.toArray e (0,0)) (v:=.slice (some ⟨w.heap.size,0,none⟩) N.toNat C.toNat) hm hb5 U (wQ _ _) (wV _ _) (vQ _ _) (by rw [←hlen];exact yS (Np kz C.toNat) e) (fun ρ' hρ=>?_) (dB nx) fun d ty pos after g=>?_
         · refine lI.2 ⟨by rw [hρ],by rw [hρ];show 0+C.toNat*sz≤C.toNat*sz;omega,by omega,?_⟩;simp only [maxLen];omega
         simp only [execOp,wU e1,wU e2,bL,hrun,aO,bR]
     trivial
   trivial
 trivial
theorem Ny {t:Nat} {vs:List Value} {ty:TypeId} (hb:w.heap[t]?=some (.cells vs.toArray ty (0,0))) {o:Nat} {m:Nat} {news:List Value} (hn:news=(vs.drop o).take m):∀ j v,news[j]?=some v→w.cell? ((⟨t,o,none⟩:Addr).add j)=some v:=fun j v hj=>by
 rw [add_lit,cell_of_block hb];subst hn;rw [fO] at hj;split at hj
 · rw [eW] at hj;exact hj
 cases hj
theorem YQ {sz tx:Nat} {x:Operand} {m:Nat} {l:CV} (hs:B4 ρ E nx n a) (hm:Mem ρ w0 h nx w) (hq:er P E h sz tx x=some (m,l)):∃ xv news,(eA a).ev x=some xv∧KL nx ρ l news∧news.length=m*sz∧Go.Src P sz tx xv m news w:=by
 unfold er at hq;split at hq
 · rename_i hx;split at hq
   · rename_i q hT;obtain ⟨e',sz'⟩:=q;cases hq;obtain ⟨v,e1,k1⟩:=uQ hs hx;have e2:=oS.1 k1.2;subst e2;exact ⟨_,[],e1,pA,by simp,Go.Src.ofNil w (xX hT).1 0⟩
   cases hq
 · rename_i t o N sz' cc hx;rcases uN hq with ⟨h1,hr1⟩ | ⟨_,hr1⟩
   · have:=aD h1;subst this;split at hr1
     · rename_i q hT;obtain ⟨e',sz'⟩:=q;split at hr1
       · rename_i lb bt op st ht;rcases uN hr1 with ⟨h2,hr2⟩ | ⟨_,hr2⟩
         · cases hr2;simp only [aB] at h2;obtain ⟨v,e1,k1⟩:=uQ hs hx;obtain ⟨c',rfl⟩:=Fp k1;obtain ⟨_,_,_,ob,g3,vs,junk,kl,rfl,_,_⟩:=hm.own t _ ht;have kk:=zZ (k:=m*sz) kl (aD h2.1);have hlen:((vs.drop o).take (m*sz)).length=m*sz:=by rw [←vS kk];exact aD h2.1
           have hone:=Rd kk h2.2;have hdrop:((vs++junk).drop o).take (m*sz)=(vs.drop o).take (m*sz):=by
            rw [bI,cE] at hlen;by_cases h0:m*sz=0
            · rw [h0];simp
            rw [fB uJ,fA GZ]
           exact ⟨_,(vs.drop o).take (m*sz),e1,kk,hlen,Go.Src.ofSlice w (xX hT).1 _ m c' _ hlen (Ny g3 hdrop.symm) (fun u hu=>eT.1 hone u hu)⟩
         cases hr2
       cases hr1
     cases hr1
   cases hr1
 · rename_i s hx;rcases uN hq with ⟨h1,hr1⟩ | ⟨_,hr1⟩
   · have:=aD h1;subst this;split at hr1
     · rename_i hT;cases hr1;obtain ⟨v,e1,k1⟩:=uQ hs hx;obtain ⟨bs,rfl,k2⟩:=Kd k1;have hlen:=vS k2;have hsz:(ByteArray.mk bs.toArray).size=vP l:=by
        rw [hlen,aW];show bs.toArray.size=_;simp
       have hbc:byteCells (ByteArray.mk bs.toArray)=bs.map fun b=>Value.int .u8 b.toNat:=by unfold byteCells;simp
       refine ⟨_,_,e1,k2,by rw [←hlen];omega,?_⟩;have:=Go.Src.ofString w hT (ByteArray.mk bs.toArray);rw [hsz,hbc] at this;exact this
     cases hr1
   cases hr1
 cases hq
end
section
variable {P:Program} {nx n:Nat} {ρ:Pl} {Φ:A3→Prop} {w0:E5 Φ} {w:World} {E:Tr CV} {h:Tr CB} {a:Act}
theorem Dh {s x:Operand} {T tx:TypeId} {v1 v2 v:Value} {w':World} (e1:(eA a).ev s=some v1) (e2:(eA a).ev x=some v2) (hr:∀ ty,(Builtin.append_ #[T,tx] ty #[v1,v2]).run P w=.ok v w') (d:Option Tmp) (ty:TypeId) (pos:String) (after:Array Edge) (g:Option (Nat×Bool)) :
 (execOp a.eval ⟨d,.call ⟨.builtin .append,⟨[s,x]⟩,⟨[T,tx]⟩⟩,ty,pos,after,g⟩).run P w=.ok (.value v) w':=by
 simp only [execOp,resolve,invoke,builtin,bL,bR,aO,kH,cA,jO,wU e1,wU e2,hr]
theorem We {s x:Operand} {T tx:TypeId} {v1 v2 v:Value} {w':World} (e1:(eA a).ev s=some v1) (e2:(eA a).ev x=some v2) (hr:∀ ty,(Builtin.copy_ #[T,tx] ty #[v1,v2]).run P w=.ok v w') (d:Option Tmp) (ty:TypeId) (pos:String) (after:Array Edge) (g:Option (Nat×Bool)) :
 (execOp a.eval ⟨d,.call ⟨.builtin .copy,⟨[s,x]⟩,⟨[T,tx]⟩⟩,ty,pos,after,g⟩).run P w=.ok (.value v) w':=by
 simp only [execOp,resolve,invoke,builtin,bL,bR,aO,kH,cA,jO,wU e1,wU e2,hr]
theorem Rn {T tx e:TypeId} {i:TypeInfo} {zv:Value} {sz m N C:Nat} {base:Option Addr} {xv:Value} {olds news:List Value} (hu:P.underlying T=some (.slice e)) (hi:P.info? e=some i) (hz:i.zero=some zv) (hsz:i.size=sz) (hzl:zv.cells.toList.length=sz) (h0:0<sz)
 (hold:(Builtin.firstCells i.size N (.slice base N C)).run P w.drew=.ok olds.toArray w.drew) (ho:olds.length=N*sz) (hs:Go.Src P sz tx xv m news w) (hC:C<N+m) (h1:(N+m)*i.bytes≤140737488355328) (h2:N+m≤4611686018427387904) :
 ∃ cap junk,(∀ ty,(Builtin.append_ #[T,tx] ty #[.slice base N C,xv]).run P w=.ok (.slice (some ⟨w.heap.size,0,none⟩) (N+m) cap) (w.drew.alloc (.cells (olds++news++junk).toArray e)))∧(olds++news).length+junk.length=cap*sz∧N+m≤cap∧cap≤maxLen:=by
 have hge:=grownCap_ge w (N+m) C e;have hml:N+m≤maxLen:=by simp only [maxLen];omega
 have hle:=qE w (N+m) C e hml;refine ⟨grownCap w (N+m) C e,(Builtin.zeroCells zv.cells (grownCap w (N+m) C e - (N+m))).toList,fun ty=>?_,?_,hge,hle⟩
 · rw [←hsz] at hs;have hr:=run_append_grow_src (P:=P) w T tx ty e i zv hu hi hz base N C olds hold xv m news hs hC uJ (qD hC h1);rw [hr];congr 3;apply tG;simp
 have hn:=hs.newsLen;have e1:zv.cells.size=sz:=by rw [←hzl];simp
 have hz1:(Builtin.zeroCells zv.cells (grownCap w (N+m) C e - (N+m))).toList.length=(grownCap w (N+m) C e - (N+m))*sz:=by rw [lB,rW,e1]
 rw [aI,hz1,ho,hn,←eB,←eB];congr 1;omega
theorem Bx (w:World) (o:Obj):D2 (fun _=>False) w (w.drew.alloc o):=(lE _ w).drew.alloc o
theorem At (w:World) (o:Obj):(w.drew.alloc o).heap.size=w.heap.size+1:=by show (w.heap.push o).size=_;simp
theorem By (w:World) (o:Obj):(w.drew.alloc o).heap[w.heap.size]?=some o:=by
 rw [show w.heap.size=w.drew.heap.size from rfl,vQ]
theorem Yt {l:Rw} {vs junk:List Value} (hk:RL nx ρ l vs) (ty:Nat) {st:Nat}:DB nx ρ (vs.length+junk.length) (.cells l ty true st) (.cells (vs++junk).toArray ty (0,0)):=⟨vs,junk,hk,U,U,fun h=>by cases h⟩
theorem uU {α:Type} {b:Bool} {x y:α} (M:α→Prop) (h1:b=true→M x) (h2:b=false→M y):M (bif b then x else y):=by cases b;exact h2 U;exact h1 U
theorem vC {a b:Nat} (h:Nat.ble a b=true):a≤b:=bK h
theorem fb {a b:Nat} (h:Nat.ble a b=false):b<a:=by
 rcases aK b a with h1 | h1
 · exact h1
 rw [Nat.ble_eq_true_of_le h1] at h;cases h
theorem GJ {a b:Nat} (h:Nat.beq a b=false):a≠b:=fun e=>by subst e;simp at h
theorem Wd.kill {op:Op} {h' h2:Tr CB} {v:CV} {nx':Nat} (hm:Mem ρ w0 h nx w) (ho:Tp ρ h nx w ρ h2 w) (hw:Wd P op ρ w0 h2 nx a w (.val v h' nx')):Wd P op ρ w0 h nx a w (.val v h' nx'):=by
 obtain ⟨h1,v',w',ρ',e1,e2,e3,e4,e5,e6⟩:=hw;exact ⟨h1,v',w',ρ',e1,e2,e3,e4,ho.trans hm e5 (aG _) (dT _ _),e6⟩
theorem fc {T tx:Nat} {s x:Operand} (hs:B4 ρ E nx n a) (hm:Mem ρ w0 h nx w) (hfit:nx≤uW):Wd P (.call ⟨.builtin .append,⟨[s,x]⟩,⟨[T,tx]⟩⟩) ρ w0 h nx a w (pi P E h nx T tx s x):=by
 unfold pi;split
 · rename_i e sz by' z hz;obtain ⟨hu,i,zv,hi,hzv,hsz,hby,kz,hzl,h0⟩:=Lz hz nx ρ;split
   · rename_i m news hsrc;obtain ⟨xv,nw,ex,kn,hnl,hS⟩:=YQ hs hm hsrc;split
     · -- from nil
       rename_i hsv;obtain ⟨v,e1,k1⟩:=uQ hs hsv;have e2:=oS.1 k1.2;subst e2;refine uU (Wd _ _ _ _ _ _ _ _) (fun _=>trivial) fun hm0=>uU (Wd _ _ _ _ _ _ _ _) (fun hb=>?_) fun _=>trivial;have hm0:=GJ hm0;simp only [aB] at hb;have hb1:m*by'≤140737488355328:=vC hb.1;obtain ⟨cap,junk,hr,hlen,hc1,hc2⟩:=Rn (base:=none) (N:=0) (C:=0) (olds:=[]) hu hi hzv hsz hzl h0 (run_firstCells_none ..) vL hS uJ (by rw [hby,cF];exact hb1) (by rw [cF];exact vC hb.2.1);rw [cF] at hr hc1;simp only [gI] at hr hlen;refine qY (s:=nw.length+junk.length) hm hb.2.2 U (Bx w _) (At w _) (By w _) (Yt (Yo kn) e) (fun ρ' hρ=>?_) (dB nx) (Dh e1 ex hr);exact oR.2 ⟨cap,by rw [hρ],by rw [hρ,hlen];show 0+cap*sz=cap*sz;omega,hc1,hc2⟩
     · -- a slice
       rename_i t o N sz' c hsv;refine uU (Wd _ _ _ _ _ _ _ _) (fun _=>trivial) fun hne=>?_;have hsq:sz=sz':=by
        cases hb:Nat.beq sz sz' with
        | true=>exact aD hb
        | false=>rw [hb] at hne;cases hne
       subst hsq;obtain ⟨v,e1,k1⟩:=uQ hs hsv;obtain ⟨C,hC⟩:=Fp k1;subst hC;have hNC:N≤C:=by
        cases c with
        | some c'=>obtain ⟨q1,_,q3,_⟩:=lI.1 k1.2;cases q1;exact q3
        | none=>obtain ⟨c',q1,_,q3,_⟩:=oR.1 k1.2;cases q1;exact q3
       refine uU (Wd _ _ _ _ _ _ _ _) (fun hm0=>?_) fun hm0=>?_
       · -- nothing to append
         have hm0:=aD hm0;subst hm0;have hnw:nw=[]:=bS (by rw [hnl,jN]);subst hnw;refine ⟨aG _,_,w,ρ,dT _ _,k1,hm,hfit,gW,Dh e1 ex fun ty=>?_⟩;rw [←hsz] at hS;rcases hS.kind with ⟨e',hk⟩ | hk <;> simp [Builtin.append_,aQ hu,aQ hk,sizeOf,typeInfo,hi,hS.len,hNC,hS.cells,storeCells]
       have hm0:=GJ hm0;split
       · rename_i l bt op st ht;refine uU (Wd _ _ _ _ _ _ _ _) (fun _=>trivial) fun hbt=>?_;have hbt:bt=e:=by
          cases hb:Nat.beq bt e with
          | true=>exact aD hb
          | false=>rw [hb] at hbt;cases hbt
         subst hbt;have inplace:∀ c',N+m≤C→o+(N+m)*sz≤l.n→nx+1≤uW→Kn nx ρ (.sl t o (N+m) sz c') (.slice (some ⟨(ρ t).1,o,none⟩) (N+m) C)→Wd P (.call ⟨.builtin .append,⟨[s,x]⟩,⟨[T,tx]⟩⟩) ρ w0 h nx a w (.val (.sl t o (Nat.add N m) sz c') (h.set (some (.cells (Tj (Nat.add o (Nat.mul N sz)) news l) bt op nx)) uW t) (Nat.succ nx)):=fun c' hr1 hr2 hf1 hk=>by
          have hp:o+N*sz+nw.length≤l.n:=by rw [hnl,nK,←eB];exact hr2
          obtain ⟨cur,g1,g2,g3,g4⟩:=GI hm hfit ht kn hp;have hrun:=fun ty=>Ke (P:=P) (tx:=tx) (ty:=ty) hu hi g1 (x:=xv) (by rw [hsz];exact hS) hr1 (by rw [hsz];exact g2);rw [hsz] at hrun;have g5:=g4 _ (wR w (ρ t).1 _) OF;exact ⟨dL _,_,_,ρ,dT _ _,hk.up (dL _) (dT _ _),g5.1,hf1,g5.2,Dh e1 ex hrun⟩
         split
         · -- room known
           rename_i c';obtain ⟨q1,q2,q3,q4⟩:=lI.1 k1.2;cases q1;refine uU (Wd _ _ _ _ _ _ _ _) (fun hroom=>?_) fun hroom=>?_
           · have hroom:N+m≤C:=vC hroom;refine uU (Wd _ _ _ _ _ _ _ _) (fun hfitl=>?_) fun _=>trivial;simp only [aB] at hfitl;exact inplace (some C) hroom (vC hfitl.1) (vC hfitl.2) ⟨k1.1,lI.2 ⟨U,q2,hroom,q4⟩⟩
           have hroom:C<N+m:=fb hroom;refine uU (Wd _ _ _ _ _ _ _ _) (fun hb=>?_) fun _=>trivial;simp only [aB] at hb;obtain ⟨hb1,hb2,hb3,hb4⟩:=hb;have hb1:(N+m)*by'≤140737488355328:=vC hb1;obtain ⟨_,_,_,ob,p3,vs,junk0,kl,rfl,_,_⟩:=hm.own t _ ht;have kk:=zZ (k:=N*sz) kl (aD hb4);have hlen:((vs.drop o).take (N*sz)).length=N*sz:=by rw [←vS kk];exact aD hb4
           have hdrop:((vs++junk0).drop o).take (N*sz)=(vs.drop o).take (N*sz):=by
            rw [bI,cE] at hlen;by_cases h0:N*sz=0
            · rw [h0];simp
            rw [fB uJ,fA GZ]
           have hold:(Builtin.firstCells i.size N (.slice (some ⟨(ρ t).1,o,none⟩) N C)).run P w.drew=.ok ((vs.drop o).take (N*sz)).toArray w.drew:=
            sY w.drew i.size N _ N C _ (by rw [hsz];exact hlen) (fun j v hj=>by
             have:=Ny p3 hdrop.symm j v hj;simpa using this)
           obtain ⟨cap,junk,hr,hl2,hc1,hc2⟩:=Rn hu hi hzv hsz hzl h0 hold hlen hS hroom (by rw [hby];exact hb1) (vC hb2);refine qY (s:=((vs.drop o).take (N*sz)++nw).length+junk.length) hm hb3 U (Bx w _) (At w _) (By w _) (Yt (Yo (Gg kk kn)) bt) (fun ρ' hρ=>?_) (dB nx) (Dh e1 ex hr);exact oR.2 ⟨cap,by rw [hρ];rfl,by rw [hρ,hl2];show 0+cap*sz=cap*sz;omega,hc1,hc2⟩
         -- room unknown
         obtain ⟨C',q1,q2,q3,q4⟩:=oR.1 k1.2;cases q1;obtain ⟨p1,ps,p2,ob,p3,vs,junk0,kl,rfl,p5,p6⟩:=hm.own t _ ht;have hvl:=Jy kl;refine uU (Wd _ _ _ _ _ _ _ _) (fun hfitl=>?_) fun hfitl=>?_
         · simp only [aB] at hfitl;have hff:=vC hfitl.2;have hfitl:o+(N+m)*sz≤l.n:=vC hfitl.1;have hroom:N+m≤C:=by
            have:(N+m)*sz≤C*sz:=uJ;exact Nat.le_of_mul_le_mul_right this h0
           exact inplace none hroom hfitl hff ⟨k1.1,oR.2 ⟨C,U,q2,hroom,q4⟩⟩
         refine uU (Wd _ _ _ _ _ _ _ _) (fun hb=>?_) fun _=>trivial;simp only [aB] at hb;obtain ⟨⟨hb1,hb2⟩,hb3,hb4,hb5⟩:=hb;have ho:=aD hb1;subst ho;have hNl:N*sz=l.n:=aD hb2;have hb3:(N+m)*by'≤140737488355328:=vC hb3;have hf5:nx+1≤uW:=vC hb5;by_cases hroom:N+m≤C
         · -- in its place
           have hfit2:0+N*i.size+nw.length≤((vs++junk0).toArray).size:=by
            have:(N+m)*sz≤C*sz:=dQ _ hroom;rw [eB] at this;rw [hsz,hnl,oL,aI];omega
           have hrun:=fun ty=>Ke (P:=P) (tx:=tx) (ty:=ty) hu hi p3 (x:=xv) (by rw [hsz];exact hS) hroom hfit2;obtain ⟨ρ',r1,r2,r3,r4⟩:=hm.rename (b':=.cells (dq l news) bt true nx) (w':=w.setRow (ρ t).1 ((vs++junk0).toArray.toList.take (0+N*i.size)++nw++(vs++junk0).toArray.toList.drop (0+N*i.size+nw.length)).toArray) hf5 U ht (wR w (ρ t).1 _) (by rw [mK w (ρ t).1 _ _ bt _ p3]) (by
            refine ⟨vs++nw,junk0.drop nw.length,JB kl kn,?_,?_,fun hh=>by cases hh⟩
            · have e5:0+N*i.size=vs.length:=by rw [hsz,cF,hNl,hvl]
              rw [e5];simp only [List.take_left,mH]
            rw [aI,cE];have:(N+m)*sz≤C*sz:=dQ _ hroom;rw [eB] at this;omega)
           refine ⟨dL _,_,_,ρ',r1,⟨dB nx,oR.2 ⟨C,?_,?_,hroom,q4⟩⟩,r3,hf5,r4,Dh e1 ex hrun⟩
           · rw [r2];rfl
           rw [r2];exact q2
         have hroom:C<N+m:=uJ;have hold:(Builtin.firstCells i.size N (.slice (some ⟨(ρ t).1,0,none⟩) N C)).run P w.drew=.ok vs.toArray w.drew:=
          sY w.drew i.size N _ N C _ (by rw [hsz,←hvl];exact hNl.symm) (fun j v hj=>by
           have:=Ny p3 (o:=0) (m:=vs.length) (news:=vs) vL j v hj;simpa using this)
         obtain ⟨cap,junk,hr,hl2,hc1,hc2⟩:=Rn hu hi hzv hsz hzl h0 hold (by rw [←hvl];exact hNl.symm) hS hroom (by rw [hby];exact hb3) (vC hb4);have hm2:=hm.kill hfit p1;refine Wd.kill (h2:=h.set none uW t) hm hm2.2 ?_;refine qY (s:=(vs++nw).length+junk.length) hm2.1 hb5 U (Bx w _) (At w _) (By w _) (Yt (JB kl kn) bt) (fun ρ' hρ=>?_) (dB nx) (Dh e1 ex hr);exact oR.2 ⟨cap,by rw [hρ];rfl,by rw [hρ,hl2];show 0+cap*sz=cap*sz;omega,hc1,hc2⟩
       trivial
     trivial
   trivial
 trivial
end
section
variable {P:Program} {nx n:Nat} {ρ:Pl} {Φ:A3→Prop} {w0:E5 Φ} {w:World} {E:Tr CV} {h:Tr CB} {a:Act}
theorem YR {T tx:Nat} {d x:Operand} (hs:B4 ρ E nx n a) (hm:Mem ρ w0 h nx w) (hfit:nx≤uW):Wd P (.call ⟨.builtin .copy,⟨[d,x]⟩,⟨[T,tx]⟩⟩) ρ w0 h nx a w (wv P E h nx (.call ⟨.builtin .copy,⟨[d,x]⟩,⟨[T,tx]⟩⟩)):=by
 show Wd _ _ _ _ _ _ _ _ (match TI P T with
  | some (_,sz,_,_)=>match wA E d with
    | some (.sl t o n sz' _)=>match wA E x with
      | some (.sl t2 o2 n2 sz2 _)=>bif Nat.beq sz sz' && Nat.beq sz sz2 then
       (match h.get t with
       | some (.cells l bt op _)=>(match h.get t2 with
         | some (.cells l2 _ _ _) =>
           bif Nat.beq (vP (vU l2 o2 (Nat.mul (Nat.min n2 n) sz))) (Nat.mul (Nat.min n2 n) sz) && (Jv (vU l2 o2 (Nat.mul (Nat.min n2 n) sz)) && (Nat.ble (Nat.add o (Nat.mul (Nat.min n2 n) sz)) l.n && Nat.ble (Nat.succ nx) uW)) then
            .val (.int .i64 (Nat.min n2 n)) (h.set (some (.cells (Tj o (vU l2 o2 (Nat.mul (Nat.min n2 n) sz)) l) bt op nx)) uW t) (Nat.succ nx) else .bad
         | _=>.bad)
       | _=>.bad) else .bad
      | some .nils=>.val (.int .i64 0) h nx
      | _=>.bad
    | _=>.bad
  | none=>.bad)
 split
 · rename_i e sz by' z hz;obtain ⟨hu,i,zv,hi,hzv,hsz,hby,kz,hzl,h0⟩:=Lz hz nx ρ;split
   · rename_i t o N sz' c hd;obtain ⟨v,e1,k1⟩:=uQ hs hd;obtain ⟨C,rfl⟩:=Fp k1;split
     · rename_i t2 o2 n2 sz2 c2 hx;obtain ⟨v2,e2,k2⟩:=uQ hs hx;obtain ⟨C2,rfl⟩:=Fp k2;refine uU (Wd _ _ _ _ _ _ _ _) (fun hb=>?_) fun _=>trivial;simp only [aB] at hb;have q1:=aD hb.1;have q2:=aD hb.2;subst q1 q2;split
       · rename_i l bt op st ht;split
         · rename_i l2 bt2 op2 st2 ht2;refine uU (Wd _ _ _ _ _ _ _ _) (fun hb=>?_) fun _=>trivial;simp only [aB] at hb;obtain ⟨hb1,hb2,hb3,hb4⟩:=hb;obtain ⟨k,hk⟩:∃ k,k=Nat.min n2 N:=⟨_,U⟩
           rw [←hk] at hb1 hb2 hb3 ⊢;obtain ⟨_,_,_,ob,p3,vs,junk0,kl,rfl,_,_⟩:=hm.own t2 _ ht2;have kk:=zZ (k:=k*sz) kl (aD hb1);have hlen:((vs.drop o2).take (k*sz)).length=k*sz:=by rw [←vS kk];exact aD hb1
           have hdrop:((vs++junk0).drop o2).take (k*sz)=(vs.drop o2).take (k*sz):=by
            rw [bI,cE] at hlen;by_cases h0:k*sz=0
            · rw [h0];simp
            rw [fB uJ,fA GZ]
           have hp:o+((vs.drop o2).take (k*sz)).length≤l.n:=by rw [hlen];exact vC hb3
           obtain ⟨cur,g1,g2,g3,g4⟩:=GI hm hfit ht kk hp;have hone:=Rd kk hb2;have hrun:=fun ty=>TH (P:=P) (tx:=tx) (ty:=ty) (dCap:=C) (sCap:=C2) hu hi g1 hk.symm (by rw [hsz];exact hlen) (Ny p3 hdrop.symm) (fun v hv=>eT.1 hone v hv) g2;have g5:=g4 _ (wR w (ρ t).1 _) OF;exact ⟨dL _,_,_,ρ,dT _ _,Aa,g5.1,vC hb4,g5.2,We e1 e2 hrun⟩
         trivial
       trivial
     · rename_i hx;obtain ⟨v2,e2,k2⟩:=uQ hs hx;have q2:=oS.1 k2.2;subst q2;exact ⟨aG _,_,w,ρ,dT _ _,Aa,hm,hfit,gW,We e1 e2 fun ty=>NK hu hi (Nat.zero_min _)⟩
     trivial
   trivial
 trivial
theorem mj {op:Op} (hs:B4 ρ E nx n a) (hm:Mem ρ w0 h nx w) (hfit:nx≤uW):Wd P op ρ w0 h nx a w (wv P E h nx op):=by
 obtain ⟨r,hr⟩:∃ r,wv P E h nx op=r:=⟨_,U⟩
 have hr':=hr;unfold wv at hr;split at hr
 · rw [hr'];exact TJ hs hm hr'
 · rw [hr'];exact ew hs hm hr'
 · rw [hr'];exact TK hs hm hfit hr'
 · rw [hr'];exact Tq hs hm hr'
 · rw [hr'];exact Ys hs hm hr'
 · exact fc hs hm hfit
 · exact YR hs hm hfit
 rw [hr',←hr];trivial
end
def bnd (o:Oper):List Nat:=(o.after.toList.filter (Region.binds .any)).map (·.on)
def Kf {α:Type} (p:α→Bool) (l:List α):Bool:=List.rec true (fun x _ ih=>p x && ih) l
def NL {α:Type} (p:α→Bool) (l:List α):Bool:=List.rec false (fun x _ ih=>p x || ih) l
theorem xQ {α:Type} {p:α→Bool}:∀ {l:List α},Kf p l=true↔∀ x∈l,p x=true:=by
 intro l;induction l with
 | nil=>exact ⟨fun _ x h=>xY,fun _=>rfl⟩
 | cons a l ih =>
   show (p a && Kf p l)=true↔_;rw [aB,ih];exact ⟨fun h x hx=>by rcases dK.1 hx with rfl | hx;exact h.1;exact h.2 x hx,fun h=>⟨h a bM,fun x hx=>h x (bD _ hx)⟩⟩
theorem Rp {α:Type} {p:α→Bool}:∀ {l:List α},NL p l=true↔∃ x∈l,p x=true:=by
 intro l;induction l with
 | nil=>exact ⟨fun h=>xY,fun ⟨x,h,_⟩=>xY⟩
 | cons a l ih =>
   show (p a || NL p l)=true↔_;rw [nS,ih];exact ⟨fun h=>by rcases h with h | ⟨x,h1,h2⟩;exact ⟨a,bM,h⟩;exact ⟨x,bD _ h1,h2⟩,fun ⟨x,h1,h2⟩=>by rcases dK.1 h1 with rfl | h1;exact .inl h2;exact .inr ⟨x,h1,h2⟩⟩
def NM (m i:Nat) (o:Oper):Bool:=not (Nat.testBit m i) && Kf (Nat.testBit m) (bnd o)
def Rq (o:Oper) (i:Nat):Bool:=NL (Nat.beq i) (bnd o)
def NN (p:Nat→Oper→Bool) (l:List Oper):Nat→Bool:=List.rec (fun _=>true) (fun o _ ih j=>p j o && ih (Nat.succ j)) l
def Mz (p:Nat→Oper→Bool) (l:List Oper):Nat→Option Nat:=List.rec (fun _=>none) (fun o _ ih j=>bif p j o then some j else ih (Nat.succ j)) l
theorem Yu {p:Nat→Oper→Bool}:∀ {l:List Oper} {j:Nat},NN p l j=true→∀ k o,l[k]?=some o→p (j+k) o=true:=by
 intro l;induction l with
 | nil=>intro j _ k o h;simp at h
 | cons x l ih =>
   intro j h k o hk;have h':(p j x && NN p l (j+1))=true:=h;rw [aB] at h';cases k with
   | zero=>simp at hk;subst hk;exact h'.1
   | succ k =>
     have:=ih h'.2 k o (by simpa using hk);rw [show j+(k+1)=j+1+k by omega];exact this
theorem TM {p:Nat→Oper→Bool}:∀ {l:List Oper} {j i:Nat},Mz p l j=some i→∃ k o,i=j+k∧l[k]?=some o∧p i o=true:=by
 intro l;induction l with
 | nil=>intro j i h;cases h
 | cons x l ih =>
   intro j i h;have h':(bif p j x then some j else Mz p l (j+1))=some i:=h;rcases uN h' with ⟨h1,h2⟩ | ⟨_,h2⟩
   · cases h2;exact ⟨0,x,U,U,h1⟩
   obtain ⟨k,o,e,h3,h4⟩:=ih h2;exact ⟨k+1,o,by omega,by simpa using h3,h4⟩
def Ee:Op→Bool
 | .move _ | .assign _ | .pick .. | .unOp .. | .binOp .. | .convert .. | .extract .. | .nilCheck _ | .fieldAddr .. | .field .. | .load .. | .makeFunc .. | .indexAddr .. | .index .. | .slice .. | .build .. | .lookup ..=>true
 | .call ⟨.builtin .len,_,_⟩ | .call ⟨.builtin .cap,_,_⟩ | .call ⟨.builtin .min,_,_⟩ | .call ⟨.builtin .max,_,_⟩=>true
 | _=>false
def frB (all:Array Oper) (m i:Nat) (oi:Oper) (l:List Oper):Bool:=NN (fun j oj=>Nat.beq j i || (Nat.testBit m j || (Rq oj i || oi.apart all oj))) l 0
def Ma (m i:Nat):Nat:=m ||| (1 <<< i)
inductive Pk where
 | look
 | only
 | race (R:List Nat)
 | make (R:List Nat)
def TN:Op→Bool
 | .alloc _ | .box .. | .makeSlice .. | .buildSlice .. | .makeMap _ none=>true
 | _=>false
def isT (d:Nat):Operand→Bool | .tmp t=>Nat.beq t d | _=>false
def Rr (o:Oper):Bool:=TN o.op && (match o.guard with | none=>(match o.dst with | some d=>not (NL (isT d) o.op.operands.toList) | none=>false) | some _=>false)
def YS (R:List Nat) (i:Nat):Bool:=NL (Nat.beq i) R
def Rs (l:List Oper) (i:Nat) (p:Oper→Bool):Bool:=match Ic l i with | some o=>p o | none=>false
def ml (R:List Nat) (m:Nat):Nat:=List.rec m (fun j _ ih=>Ma ih j) R
def Eh (l:List Oper) (m:Nat):List Nat:=List.rec (motive:=fun _=>Nat→List Nat) (fun _=>[]) (fun o _ ih j=>bif NM m j o then j :: ih (Nat.succ j) else ih (Nat.succ j)) l 0
def Wf (l:List Oper) (m:Nat) (Rc:List Nat) (i:Nat) (o:Oper) (R:List Nat):Bool:=
 (NM m i o && Kf (fun k=>Nat.beq k i || YS R k) Rc) && ((not (YS R i) && Kf (fun j=>Rs l j fun oj=>(Rr oj && not (Nat.testBit m j)) && (oj.apart l.toArray o && Kf (fun k=>Nat.beq k j || Rs l k fun ok=>oj.apart l.toArray ok) R)) R) &&
  NN (fun j oj=>Nat.beq j i || not (NM (ml R m) j oj)) l 0)
def Rt (R Rc:List Nat):Bool:=match R,Rc with | [],[]=>true | _,_=>false
theorem Ru {R Rc:List Nat} (h:Rt R Rc=true):R=[]∧Rc=[]:=by
 cases R <;> cases Rc <;> first | exact ⟨U,U⟩ | cases h
def Rv (l:List Oper) (f:Nat):Nat→List Nat→Option (List (Nat×Pk)):=
 Nat.rec (fun m Rc=>bif NN (fun j o=>not (NM m j o)) l 0 then (bif Rt [] Rc then some [] else none) else none)
  (fun _ ih m Rc=>match Mz (fun i o=>Ee o.op && (NM m i o && frB l.toArray m i o l)) l 0 with
   | some i=>(match ih (Ma m i) Rc with | some p=>some ((i,.look) :: p) | none=>none)
   | none=>(match Mz (fun i o=>NM m i o && not (Rr o)) l 0 with
     | some i=>bif Rs l i (fun o=>Wf l m Rc i o ((Eh l m).filter fun j=>not (Nat.beq j i))) then
      (bif Rt ((Eh l m).filter fun j=>not (Nat.beq j i)) Rc then (match ih (Ma m i) [] with | some p=>some ((i,.only) :: p) | none=>none) else
      bif Rs l i (fun o=>not (TN o.op) && (match o.guard with | none=>true | some _=>false)) then (match ih (Ma m i) ((Eh l m).filter fun j=>not (Nat.beq j i)) with | some p=>some ((i,.race ((Eh l m).filter fun j=>not (Nat.beq j i))) :: p) | none=>none) else none) else none
     | none=>(match Mz (NM m) l 0 with
       | some i=>bif Rs l i (fun o=>Rr o && Wf l m Rc i o ((Eh l m).filter fun j=>not (Nat.beq j i))) then
        (bif Rt ((Eh l m).filter fun j=>not (Nat.beq j i)) Rc then (match ih (Ma m i) [] with | some p=>some ((i,.only) :: p) | none=>none) else
        (match ih (Ma m i) ((Eh l m).filter fun j=>not (Nat.beq j i)) with | some p=>some ((i,.make ((Eh l m).filter fun j=>not (Nat.beq j i))) :: p) | none=>none)) else none
       | none=>none))) f
def Rx (l:List Oper):Option (List (Nat×Pk)):=bif Region.noSelect l.toArray && l.all vT then Rv l l.length 0 [] else none
def LM (l:List Oper) (L:Array Bool) (m:Nat):Prop:=L.size=l.length∧∀ i,L.getD i false=Nat.testBit m i
theorem LM.in {l:List Oper} {L:Array Bool} {m:Nat} (h:LM l L m) {i:Nat} (hi:i<l.length):L.getD i true=Nat.testBit m i:=by
 rw [←h.2 i];have:i<L.size:=by rw [h.1];exact hi
 simp [this]
theorem LM.set {l:List Oper} {L:Array Bool} {m i:Nat} (h:LM l L m) (hi:i<l.length):LM l (L.setIfInBounds i true) (Ma m i):=by
 refine ⟨by simp [h.1],fun j=>?_⟩;unfold Ma;rw [Nat.testBit_or,←h.2 j];have hsz:i<L.size:=by rw [h.1];exact hi
 by_cases e:i=j
 · subst e;have:(1 <<< i).testBit i=true:=by rw [Nat.testBit_shiftLeft];simp
   rw [this,Bool.or_true];simp [hsz]
 have:(1 <<< i).testBit j=false:=by rw [Nat.one_shiftLeft,Nat.testBit_two_pow_of_ne e]
 rw [this,Bool.or_false,gN,gN,jE e]
theorem LM.start (l:List Oper):LM l (Array.replicate l.length false) 0:=by
 refine ⟨by simp,fun i=>?_⟩;rw [uD,gN,Array.getElem?_replicate];split <;> rfl
theorem Nz {l:List Oper} {L:Array Bool} {m j:Nat} {o:Oper} (h:LM l L m) (hj:l[j]?=some o):NM m j o=true↔j∈Region.ready .any l.toArray L:=by
 have hlt:j<l.length:=(aR.1 hj).1;rw [fS];unfold NM;rw [aB,eJ,xQ,h.in hlt];have hj':l.toArray[j]?=some o:=by simpa using hj
 refine ⟨fun ⟨h1,h2⟩=>⟨h1,o,hj',fun e he hb=>?_⟩,fun ⟨h1,o',ho',h2⟩=>⟨h1,fun x hx=>?_⟩⟩
 · rw [h.2];exact h2 e.on (cV.2 ⟨e,jC.2 ⟨mV.2 he,hb⟩,U⟩)
 rw [hj'] at ho';cases ho';obtain ⟨e,he,rfl⟩:=cV.1 hx;obtain ⟨he1,he2⟩:=jC.1 he;rw [←h.2];exact h2 e (mV.1 he1) he2
theorem Ry {o:Oper} {i:Nat}:Rq o i=true↔∃ e∈o.after,Region.binds .any e=true∧e.on=i:=by
 unfold Rq;rw [Rp];refine ⟨fun ⟨x,hx,hb⟩=>?_,fun ⟨e,he,hb,hi⟩=>⟨i,cV.2 ⟨e,jC.2 ⟨mV.2 he,hb⟩,hi⟩,by simp⟩⟩;have:=aD hb;subst this;obtain ⟨e,he,rfl⟩:=cV.1 hx;obtain ⟨he1,he2⟩:=jC.1 he;exact ⟨e,mV.1 he1,he2,U⟩
def Sa (R:List Nat) (L:Array Bool):Array Bool:=R.foldr (fun j L=>L.setIfInBounds j true) L
structure F3 (l:List Oper) (L:Array Bool) (Rc:List Nat) (i:Nat) (R:List Nat):Prop where
 rd:i∈Region.ready .any l.toArray L
 sub:∀ k∈Rc,k=i∨k∈R
 ni:i ∉ R
 mks:∀ j∈R,∃ oj,l[j]?=some oj∧Rr oj=true∧L.getD j true=false∧(∀ o,l[i]?=some o→oj.apart l.toArray o=true)∧∀ k∈R,k≠j→∀ ok,l[k]?=some ok→oj.apart l.toArray ok=true
 only:∀ j,j∈Region.ready .any l.toArray (Sa R L)→j=i
def C7 (l:List Oper):Array Bool→List Nat→List (Nat×Pk)→Prop
 | L,Rc,[]=>Region.ready .any l.toArray L=[]∧Rc=[]
 | L,Rc,(i,.look) :: p=>(∃ o,l[i]?=some o∧Ee o.op=true∧i∈Region.ready .any l.toArray L∧∀ j oj,l.toArray[j]?=some oj→j≠i→L.getD j true=false→(∀ e∈oj.after,Region.binds .any e=true→e.on≠i)→o.apart l.toArray oj=true)∧C7 l (L.setIfInBounds i true) Rc p
 | L,Rc,(i,.only) :: p=>Rc=[]∧(∃ o,l[i]?=some o∧i∈Region.ready .any l.toArray L∧∀ j∈Region.ready .any l.toArray L,j=i)∧C7 l (L.setIfInBounds i true) [] p
 | L,Rc,(i,.race R) :: p=>F3 l L Rc i R∧(∃ o,l[i]?=some o∧o.guard=none∧TN o.op=false)∧C7 l (L.setIfInBounds i true) R p
 | L,Rc,(i,.make R) :: p=>F3 l L Rc i R∧(∃ o,l[i]?=some o∧Rr o=true)∧C7 l (L.setIfInBounds i true) R p
theorem Eb {l:List Oper} {i:Nat} {p:Oper→Bool} (h:Rs l i p=true):∃ o,l[i]?=some o∧p o=true:=by
 unfold Rs at h;split at h
 · rename_i o ho;exact ⟨o,by rw [←zE];exact ho,h⟩
 cases h
theorem CR {R:List Nat} {i:Nat}:YS R i=true↔i∈R:=by
 unfold YS;rw [Rp];exact ⟨fun ⟨x,h1,h2⟩=>by rw [aD h2];exact h1,fun h=>⟨i,h,by simp⟩⟩
theorem JG {l:List Oper}:∀ {R:List Nat} {L:Array Bool} {m:Nat},LM l L m→(∀ j∈R,j<l.length)→LM l (Sa R L) (ml R m)
 | [],_,_,h,_=>h
 | j :: R,_,_,h,hr=>(JG h fun k hk=>hr k (bD _ hk)).set (hr j (bM ..))
theorem CS {l:List Oper} {m:Nat} {L:Array Bool} {Rc R:List Nat} {i:Nat} {o:Oper} (hL:LM l L m) (ho:l[i]?=some o) (h:Wf l m Rc i o R=true):F3 l L Rc i R:=by
 unfold Wf at h;simp only [aB] at h;obtain ⟨⟨h1,h2⟩,⟨h3,h4⟩,h5⟩:=h;have hmk:∀ j∈R,∃ oj,l[j]?=some oj∧Rr oj=true∧Nat.testBit m j=false∧oj.apart l.toArray o=true∧∀ k∈R,k≠j→∀ ok,l[k]?=some ok→oj.apart l.toArray ok=true:=fun j hj=>by
  have:=xQ.1 h4 j hj;obtain ⟨oj,e1,e2⟩:=Eb this;simp only [aB,eJ] at e2;obtain ⟨⟨e3,e4⟩,e5,e6⟩:=e2;refine ⟨oj,e1,e3,e4,e5,fun k hk hne ok hok=>?_⟩;have:=xQ.1 e6 k hk;simp only [nS] at this;rcases this with h | h
  · exact absurd (aD h) hne
  obtain ⟨ok',e7,e8⟩:=Eb h;rw [hok] at e7;cases e7;exact e8
 have hlt:∀ j∈R,j<l.length:=fun j hj=>by obtain ⟨oj,e1,_⟩:=hmk j hj;exact (aR.1 e1).1
 refine ⟨(Nz hL ho).1 h1,fun k hk=>?_,fun hi=>?_,fun j hj=>?_,fun j hj=>?_⟩
 · have:=xQ.1 h2 k hk;simp only [nS] at this;exact this.imp aD CR.1
 · rw [CR.2 hi] at h3;cases h3
 · obtain ⟨oj,e1,e2,e3,e4,e5⟩:=hmk j hj;exact ⟨oj,e1,e2,by rw [hL.in (hlt j hj)];exact e3,fun o' ho'=>by rw [ho] at ho';cases ho';exact e4,e5⟩
 obtain ⟨_,oj,hoj,_⟩:=fS.1 hj;have hoj':l[j]?=some oj:=by simpa using hoj
 have:=Yu h5 j oj hoj';rw [cF,(Nz (JG hL hlt) hoj').2 hj] at this;simp only [Bool.not_true,Bool.or_false] at this;exact aD this
theorem TO {l:List Oper}:∀ {f m:Nat} {L:Array Bool} {Rc:List Nat} {p:List (Nat×Pk)},LM l L m→Rv l f m Rc=some p→C7 l L Rc p∧p.length=f:=by
 intro f;induction f with
 | zero =>
   intro m L Rc p hL h;have h':(bif NN (fun j o=>not (NM m j o)) l 0 then (bif Rt [] Rc then some [] else none) else none)=some p:=h;rcases uN h' with ⟨h1,h2⟩ | ⟨_,h2⟩
   · rcases uN h2 with ⟨h3,h2⟩ | ⟨_,h2⟩
     · obtain ⟨_,rfl⟩:=Ru h3;cases h2;refine ⟨⟨jI.2 fun j hj=>?_,U⟩,U⟩;obtain ⟨_,o,ho,_⟩:=fS.1 hj;have ho':l[j]?=some o:=by simpa using ho
       have:=Yu h1 j o ho';rw [cF,(Nz hL ho').2 hj] at this;cases this
     cases h2
   · cases h2
 | succ f ih =>
   intro m L Rc p hL h;have h':(match Mz (fun i o=>Ee o.op && (NM m i o && frB l.toArray m i o l)) l 0 with
    | some i=>(match Rv l f (Ma m i) Rc with | some p=>some ((i,.look) :: p) | none=>none)
    | none=>(match Mz (fun i o=>NM m i o && not (Rr o)) l 0 with
      | some i=>bif Rs l i (fun o=>Wf l m Rc i o ((Eh l m).filter fun j=>not (Nat.beq j i))) then
       (bif Rt ((Eh l m).filter fun j=>not (Nat.beq j i)) Rc then (match Rv l f (Ma m i) [] with | some p=>some ((i,.only) :: p) | none=>none) else
       bif Rs l i (fun o=>not (TN o.op) && (match o.guard with | none=>true | some _=>false)) then (match Rv l f (Ma m i) ((Eh l m).filter fun j=>not (Nat.beq j i)) with | some p=>some ((i,.race ((Eh l m).filter fun j=>not (Nat.beq j i))) :: p) | none=>none) else none) else none
      | none=>(match Mz (NM m) l 0 with
        | some i=>bif Rs l i (fun o=>Rr o && Wf l m Rc i o ((Eh l m).filter fun j=>not (Nat.beq j i))) then
         (bif Rt ((Eh l m).filter fun j=>not (Nat.beq j i)) Rc then (match Rv l f (Ma m i) [] with | some p=>some ((i,.only) :: p) | none=>none) else
         (match Rv l f (Ma m i) ((Eh l m).filter fun j=>not (Nat.beq j i)) with | some p=>some ((i,.make ((Eh l m).filter fun j=>not (Nat.beq j i))) :: p) | none=>none)) else none
        | none=>none)))=some p:=h
   have lt:∀ {i:Nat} {o:Oper},l[i]?=some o→i<l.length:=fun h=>(aR.1 h).1;have one:∀ {i:Nat} {o:Oper},l[i]?=some o→F3 l L [] i []→(∃ o,l[i]?=some o∧i∈Region.ready .any l.toArray L∧∀ j∈Region.ready .any l.toArray L,j=i):=fun ho hr=>⟨_,ho,hr.rd,hr.only⟩
   split at h'
   · rename_i i hi;obtain ⟨k,o,rfl,ho,hp⟩:=TM hi;rw [cF] at *;simp only [aB] at hp;split at h'
     · rename_i q hq;cases h';obtain ⟨e1,e2⟩:=ih (hL.set (lt ho)) hq;refine ⟨⟨⟨o,ho,hp.1,(Nz hL ho).1 hp.2.1,fun j oj hj hne hun hno=>?_⟩,e1⟩,by rw [bN,e2]⟩;have hj':l[j]?=some oj:=by simpa using hj
       have:=Yu hp.2.2 j oj hj';rw [cF] at this;simp only [nS] at this;rcases this with h1 | h1 | h1 | h1
       · exact absurd (aD h1) hne
       · rw [hL.in (lt hj')] at hun;rw [hun] at h1;cases h1
       · obtain ⟨e,he,hb,hi⟩:=Ry.1 h1;exact absurd hi (hno e he hb)
       exact h1
     cases h'
   split at h'
   · rename_i i hi;rcases uN h' with ⟨h1,h2⟩ | ⟨_,h2⟩
     · obtain ⟨o,ho,hr⟩:=Eb h1;generalize ((Eh l m).filter fun j=>not (Nat.beq j i))=R at hr h2;have hro:=CS hL ho hr;rcases uN h2 with ⟨h3,h2⟩ | ⟨_,h2⟩
       · obtain ⟨rfl,rfl⟩:=Ru h3;split at h2
         · rename_i q hq;cases h2;obtain ⟨e1,e2⟩:=ih (hL.set (lt ho)) hq;exact ⟨⟨U,one ho hro,e1⟩,by rw [bN,e2]⟩
         cases h2
       rcases uN h2 with ⟨h3,h4⟩ | ⟨_,h4⟩
       · obtain ⟨o',ho',hg⟩:=Eb h3;split at h4
         · rename_i q hq;cases h4;obtain ⟨e1,e2⟩:=ih (hL.set (lt ho)) hq;rw [aB,eJ] at hg;refine ⟨⟨hro,⟨o',ho',?_,hg.1⟩,e1⟩,by rw [bN,e2]⟩;cases hgd:o'.guard with
           | none=>rfl
           | some g=>rw [hgd] at hg;cases hg.2
         cases h4
       cases h4
     cases h2
   split at h'
   · rename_i i hi;rcases uN h' with ⟨h1,h2⟩ | ⟨_,h2⟩
     · obtain ⟨o,ho,hr⟩:=Eb h1;rw [aB] at hr;obtain ⟨hmk,hr⟩:=hr;generalize ((Eh l m).filter fun j=>not (Nat.beq j i))=R at hr h2;have hro:=CS hL ho hr;rcases uN h2 with ⟨h3,h2⟩ | ⟨_,h2⟩
       · obtain ⟨rfl,rfl⟩:=Ru h3;split at h2
         · rename_i q hq;cases h2;obtain ⟨e1,e2⟩:=ih (hL.set (lt ho)) hq;exact ⟨⟨U,one ho hro,e1⟩,by rw [bN,e2]⟩
         cases h2
       split at h2
       · rename_i q hq;cases h2;obtain ⟨e1,e2⟩:=ih (hL.set (lt ho)) hq;exact ⟨⟨hro,⟨o,ho,hmk⟩,e1⟩,by rw [bN,e2]⟩
       cases h2
     cases h2
   cases h'
theorem TP {l:List Oper} {p:List (Nat×Pk)} (h:Rx l=some p):Region.noSelect l.toArray=true∧l.all vT=true∧C7 l (Array.replicate l.length false) [] p∧p.length=l.length:=by
 unfold Rx at h;rcases uN h with ⟨h1,h2⟩ | ⟨_,h2⟩
 · rw [aB] at h1;obtain ⟨e1,e2⟩:=TO (LM.start l) h2;exact ⟨h1.1,h1.2,e1,e2⟩
 cases h2
def NO {α:Type} (f:α→α) (l:List α):Nat→List α:=List.rec (fun _=>[]) (fun x xs ih n=>Nat.rec (f x :: xs) (fun n _=>x :: ih n) n) l
theorem JH {α:Type} (f:α→α):∀ (l:List α) (n:Nat),NO f l n=l.modify n f
 | [],n=>by simp [NO]
 | x :: l,0=>rfl
 | x :: l,n+1=>by show x :: NO f l n=_;rw [JH f l n];rfl
def ux (P:Program) (E:Tr CV) (h:Tr CB) (nx:Nat) (T:TypeId):Ro:=bif Nat.ble (Nat.succ nx) uW then
 (bif ek P T then .val (.mp nx) (h.set (some (.mapI [] nx)) uW nx) (Nat.succ nx) else
  bif el P T then .val (.mp nx) (h.set (some (.mapK [] nx)) uW nx) (Nat.succ nx) else .bad) else .bad
def mv1 (P:Program) (E:Tr CV) (h:Tr CB) (nx:Nat) (T:TypeId) (x:Operand) (i:Operand) (c:Bool):Ro:=match wA E x with
 | some (.mp t)=>match wA E i with
   | some k=>match h.get t with
     | some (.mapI l _)=>match NH k with | some n=>(bif ek P T then .val (gk c (To Lw n l)) h nx else .bad) | none=>.bad
     | some (.mapK l _)=>match NI k with | some n=>(bif el P T then .val (gk c (To gj n l)) h nx else .bad) | none=>.bad
     | _=>.bad
   | none=>.bad
 | _=>.bad
def mv2 (P:Program) (E:Tr CV) (h:Tr CB) (nx:Nat) (T:TypeId) (x:Operand) (i:Operand) (y:Operand):Ro:=match wA E x with
 | some (.mp t)=>match wA E i with
   | some k=>match wA E y with
     | some (.int .i64 v)=>bif Nat.ble (Nat.succ nx) uW then (match h.get t with
       | some (.mapI l _)=>match NH k with | some n=>(bif ek P T then .unit (h.set (some (.mapI (TE Lw n v l) nx)) uW t) (Nat.succ nx) else .bad) | none=>.bad
       | some (.mapK l _)=>match NI k with | some n=>(bif el P T then .unit (h.set (some (.mapK (TE gj n v l) nx)) uW t) (Nat.succ nx) else .bad) | none=>.bad
       | _=>.bad) else .bad
     | _=>.bad
   | none=>.bad
 | _=>.bad
def mv3 (P:Program) (E:Tr CV) (h:Tr CB) (nx:Nat) (T:TypeId) (x:Operand) (i:Operand):Ro:=match wA E x with
 | some (.mp t)=>match wA E i with
   | some k=>bif Nat.ble (Nat.succ nx) uW then (match h.get t with
     | some (.mapK l _)=>match NI k with
       | some n=>(bif el P T then (match To gj n l with
         | none=>.val (.tup (.cons (.int .i64 0) (.cons (.int .i64 l.length) .nil))) (h.set (some (.mapK (l++[(n,0)]) nx)) uW t) (Nat.succ nx)
         | some _=>.bad) else .bad)
       | none=>.bad
     | some (.mapI l _)=>match NH k with
       | some n=>(bif ek P T then (match To Lw n l with
         | none=>.val (.tup (.cons (.int .i64 0) (.cons (.int .i64 l.length) .nil))) (h.set (some (.mapI (l++[(n,0)]) nx)) uW t) (Nat.succ nx)
         | some _=>.bad) else .bad)
       | none=>.bad
     | _=>.bad) else .bad
   | none=>.bad
 | _=>.bad
def mv4 (P:Program) (E:Tr CV) (h:Tr CB) (nx:Nat) (T:TypeId) (x:Operand) (s:Operand) (y:Operand):Ro:=match wA E x with
 | some (.mp t)=>match wA E s with
   | some (.int .i64 m)=>match wA E y with
     | some (.int .i64 v)=>bif Nat.ble (Nat.succ nx) uW && yK 0 m then (match h.get t with
       | some (.mapK l _)=>bif Nat.ble (Nat.succ m.toNat) l.length then .unit (h.set (some (.mapK (NO (fun p=>(p.1,v)) l m.toNat) nx)) uW t) (Nat.succ nx) else .bad
       | some (.mapI l _)=>bif Nat.ble (Nat.succ m.toNat) l.length then .unit (h.set (some (.mapI (NO (fun p=>(p.1,v)) l m.toNat) nx)) uW t) (Nat.succ nx) else .bad
       | _=>.bad) else .bad
     | _=>.bad
   | _=>.bad
 | _=>.bad
def mv5 (P:Program) (E:Tr CV) (h:Tr CB) (nx:Nat) (T:TypeId) (n:Nat) (parts:List (Nat×Operand)):Ro:=bif Nat.beq n 0 && Nat.ble (Nat.succ nx) uW then (match parts with
 | []=>match Vy P T with
   | some (e,sz)=>.val (.sl nx 0 0 sz (some 0)) (h.set (some (.cells (Tk .nil) e false nx)) uW nx) (Nat.succ nx)
   | none=>.bad
 | _=>.bad) else .bad
def mv6 (P:Program) (E:Tr CV) (h:Tr CB) (nx:Nat) (s:TypeId) (t:TypeId) (x:Operand):Ro:=match wA E x with
 | some (.sl b o n sz c)=>match P.underlying t with
   | some (.slice e)=>match P.underlying e with
     | some (.int .u8)=>bif Nat.beq s t && Nat.ble (Nat.succ nx) uW then (match h.get b with
       | some (.cells l ty false _)=>.val (.sl b o n sz c) (h.set (some (.ro l ty nx)) uW b) (Nat.succ nx)
       | _=>.bad) else .bad
     | _=>.bad
   | _=>.bad
 | _=>.bad
def mv7 (P:Program) (E:Tr CV) (h:Tr CB) (nx:Nat) (T:TypeId) (x:Operand):Ro:=match wA E x with
 | some (.ptr t o)=>match h.get t with
   | some (.ro l _ _)=>bif xB P T then (match NC l o with | some c=>.val c h nx | none=>.bad) else .bad
   | _=>.bad
 | _=>.bad
def mv8 (P:Program) (E:Tr CV) (h:Tr CB) (nx:Nat) (T:TypeId) (x:Operand) (i:Operand):Ro:=match wA E x with
 | some (.str s)=>match P.underlying T with
   | some .string=>match wA E i with
     | some (.int _ m)=>bif yK 0 m then (match Lv s m.toNat with | some c=>.val c h nx | none=>.bad) else .bad
     | _=>.bad
   | _=>.bad
 | _=>.bad
def mv9 (P:Program) (E:Tr CV) (h:Tr CB) (nx:Nat) (T:TypeId) (x:Operand) (lo hi:Option Operand):Ro:=match wA E x with
 | some (.ptr t o)=>match lo with
   | none=>match hi with
     | none=>match ln P T with
       | some (n,_,sz)=>match h.get t with
         | some (.cells l _ _ _)=>bif Nat.ble (Nat.add o (Nat.mul n sz)) l.n && Nat.ble n 4611686018427387904 then .val (.sl t o n sz (some n)) h nx else .bad
         | _=>.bad
       | none=>.bad
     | some _=>.bad
   | some _=>.bad
 | some (.str s)=>match P.underlying T with
   | some .string=>match en E lo with
     | some l=>match hiC E (vP s) hi with
       | some hh=>bif yK 0 l && (yK l hh && yK hh (vP s)) then .val (.str (Fl (hh.toNat - l.toNat) (Fk l.toNat s))) h nx else .bad
       | none=>.bad
     | none=>.bad
   | _=>.bad
 | _=>.bad
def mn:CV→Bool
 | .int .u8 n=>yK 0 n && not (yK 256 n)
 | _=>false
def TQ (l:CV):Bool:=lrec true (fun a _ ih=>mn a && ih) l
def mo (P:Program) (E:Tr CV) (h:Tr CB) (nx:Nat) (s:TypeId) (x:Operand):Ro:=match P.underlying s with
 | some (.slice e)=>match P.underlying e with
   | some (.int .u8)=>match wA E x with
     | some .nils=>.val (.str .nil) h nx
     | some (.sl b o n sz _)=>match h.get b with
       | some (.cells l _ _ _)=>bif Nat.beq (vP (vU l o n)) n && TQ (vU l o n) then .val (.str (vU l o n)) h nx else .bad
       | _=>.bad
     | _=>.bad
   | _=>.bad
 | _=>.bad
def mq (P:Program) (E:Tr CV) (h:Tr CB) (nx:Nat) (s:TypeId) (x:Operand):Ro:=match P.underlying s with
 | some (.pointer u)=>match OD P u with
   | some k=>bif Nat.beq k 0 then .bad else (match wA E x with
     | some (.ptr t o)=>match h.get t with
       | some (.cells l _ _ _)=>bif Nat.ble (Nat.succ o) l.n then .val (.ptr t o) h nx else .bad
       | _=>.bad
     | _=>.bad)
   | none=>.bad
 | _=>.bad
def mr (P:Program) (E:Tr CV) (h:Tr CB) (nx:Nat) (s u:TypeId) (x:Operand):Ro:=match P.underlying s with
 | some .unsafePointer=>match P.info? u with
   | some _=>match wA E x with
     | some (.ptr t o)=>match h.get t with
       | some (.cells l ty false _)=>bif liesAt P P.depth ty (l.n / P.cellsOf ty) o u 1 then .val (.ptr t o) h nx else .bad
       | _=>.bad
     | _=>.bad
   | none=>.bad
 | _=>.bad
def mvC (P:Program) (E:Tr CV) (h:Tr CB) (nx:Nat) (s t:TypeId) (x:Operand):Ro:=match P.underlying t with
 | some .string=>mo P E h nx s x
 | some .unsafePointer=>mq P E h nx s x
 | some (.pointer u)=>mr P E h nx s u x
 | _=>mv6 P E h nx s t x
def mu (E:Tr CV) (h:Tr CB) (nx:Nat) (x:Operand):Ro:=match wA E x with
 | some (.sl t o n _ (some c))=>bif Nat.beq c 0 then .bad else .val (.ptr t o) h nx
 | some (.sl t o n _ none)=>bif Nat.beq n 0 then .bad else .val (.ptr t o) h nx
 | some .nils=>.val .nilp h nx
 | _=>.bad
def mw (P:Program) (E:Tr CV) (h:Tr CB) (nx:Nat) (x y:Operand) (pt it:TypeId):Ro:=match wA E y with
 | some (.int .i64 m)=>match wA E x with
   | some .nilp=>bif Lw m 0 then .val (.str .nil) h nx else .bad
   | some (.ptr t o)=>match P.underlying pt with
     | some (.pointer e)=>match h.get t with
       | some (.cells l ty _ _)=>bif (Nat.beq o 0 && (Nat.beq ty e && Nat.beq (P.cellsOf e) 1)) && ((yK 1 m && yK m 9223372036854775807) && (Nat.beq (vP (vU l 0 m.toNat)) m.toNat && (TQ (vU l 0 m.toNat) && Nat.ble nx uW))) then .val (.str (vU l 0 m.toNat)) (h.set none uW t) nx else .bad
       | _=>.bad
     | _=>.bad
   | _=>.bad
 | _=>.bad
def Wg (P:Program) (g:Nat):Bool:=match Ic P.funcs.toList g with
 | some fn => fn.name == "internal/abi.NoEscape" && (fn.origin == "" && fn.body.isNone)
 | none=>false
def my (P:Program):Operand→Bool
 | .func g=>Wg P g
 | _=>false
theorem TR {fn : Func} (hn : fn.name = "internal/abi.NoEscape") (ho : fn.origin = "") : Extern.findNext fn = none ∧ Extern.find fn = some Extern.AbiNoEscape.same := by
 have h1 : Extern.allNextRows.lookup "internal/abi.NoEscape" = none := by kernel_rfl
 have h2 : Extern.allNextRows.lookup "" = none := by kernel_rfl
 refine ⟨?_,?_⟩
 · unfold Extern.findNext;simp only [hn,ho,h1,h2];rfl
 unfold Extern.find;simp only [hn];have h3 : Extern.allGenericRows.lookup "internal/abi.NoEscape" = none := by kernel_rfl
 have h4 : Extern.allTypedRows.lookup "internal/abi.NoEscape" = none := by kernel_rfl
 simp only [h3,h4];rfl
theorem TS {P : Program} {g : Nat} (h : Wg P g = true) : ∃ fn, P.funcs[g]? = some fn ∧ (fn.name == "runtime.NumGoroutine") = false ∧ fn.body.isNone = true ∧ Extern.findNext fn = none ∧ Extern.find fn = some Extern.AbiNoEscape.same := by
 unfold Wg at h;split at h
 · rename_i fn hfn;simp only [aB,beq_iff_eq] at h;rw [zE,oV] at hfn;obtain ⟨k1,k2⟩:=TR h.1 h.2.1;exact ⟨fn,hfn,by rw [h.1];decide,h.2.2,k1,k2⟩
 cases h
def mz (P:Program) (E:Tr CV) (h:Tr CB) (nx:Nat) (g:Nat) (x:Operand):Ro:=bif Wg P g then (match wA E x with | some c=>.val c h nx | none=>.bad) else .bad
def nc (P:Program) (E:Tr CV) (h:Tr CB) (nx:Nat) (T:TypeId) (x:Operand):Ro:=match wA E x with
 | some (.str s)=>match P.underlying T with
   | some .string=>bif Nat.ble (Nat.succ nx) uW then .val (.ptr nx 0) (h.set (some (.it s 0 nx)) uW nx) (Nat.succ nx) else .bad
   | _=>.bad
 | _=>.bad
def nd (E:Tr CV) (h:Tr CB) (nx:Nat) (x:Operand):Ro:=match wA E x with
 | some (.ptr t o)=>bif Nat.beq o 0 then (match h.get t with
   | some (.it l pos _)=>match Lv l pos with
     | some (.int .u8 n)=>bif yK 0 n && (not (yK 128 n) && Nat.ble (Nat.succ nx) uW) then .val (.tup (.cons (.bool true) (.cons (.int .i64 pos) (.cons (.int .i32 n) .nil)))) (h.set (some (.it l (Nat.succ pos) nx)) uW t) (Nat.succ nx) else .bad
     | none=>bif Nat.ble (vP l) pos then .val (.tup (.cons (.bool false) .nil)) h nx else .bad
     | _=>.bad
   | _=>.bad) else .bad
 | _=>.bad
def mv (P:Program) (E:Tr CV) (h:Tr CB) (nx:Nat):Op→Ro
 | .makeMap T none=>ux P E h nx T
 | .lookup T x i c=>mv1 P E h nx T x i c
 | .mapUpdate T x i y=>mv2 P E h nx T x i y
 | .mapEntry T x i=>mv3 P E h nx T x i
 | .entryStore T x s y=>mv4 P E h nx T x s y
 | .buildSlice T n ⟨parts⟩=>mv5 P E h nx T n parts
 | .convert s t x=>mvC P E h nx s t x
 | .load T x=>mv7 P E h nx T x
 | .index T x i=>mv8 P E h nx T x i
 | .slice T x lo hi none=>mv9 P E h nx T x lo hi
 | .call ⟨.builtin .unsafeSliceData,⟨[x]⟩,_⟩=>mu E h nx x
 | .call ⟨.builtin .unsafeString,⟨[x,y]⟩,⟨[pt,it]⟩⟩=>mw P E h nx x y pt it
 | .call ⟨.value (.func g),⟨[x]⟩,_⟩=>mz P E h nx g x
 | .range T x=>nc P E h nx T x
 | .next x true=>nd E h nx x
 | _=>.bad
section
variable {P:Program} {nx n:Nat} {ρ:Pl} {Φ:A3→Prop} {w0:E5 Φ} {w:World} {E:Tr CV} {h:Tr CB} {a:Act}
theorem Yv {κ:Type} [DecidableEq κ] [A9 κ] {t:Nat} {b b':CB} {l:List (κ×Int)} (hm:Mem ρ w0 h nx w) (hfit:nx≤uW) (ht:h.get t=some b) (hst:Yl b'=nx) (hb:DB nx ρ (ρ t).2 b' (vV l)) :
 Mem ρ w0 (h.set (some b') uW t) (nx+1) { w with heap:=w.heap.setIfInBounds (ρ t).1 (vV l) }∧Tp ρ h nx w ρ (h.set (some b') uW t) { w with heap:=w.heap.setIfInBounds (ρ t).1 (vV l) }:=
 hm.write hfit hst ht VQ (by simp [hm.lt ht]) hb
variable {κ:Type} [DecidableEq κ] [A9 κ] {T kt:TypeId}
theorem Tt {r:Nat} {xs:List (κ×Int)} {k:κ} {v:Int} (hT:I1 P T kt κ) (hb:w.heap[r]?=some (vV xs)):(Instr.mapUpdate T (.map (some r)) (A9.val k) (.int .i64 v)).run P w =
 .ok () { w with heap:=w.heap.setIfInBounds r (vV (Su xs k v)) }:=by
 obtain ⟨⟨et,hu,hz⟩,hk⟩:=hT;simp only [Instr.mapUpdate,bL,aQ hu,aO,oK (P:=P) hb,bR,hk.check,hk.look];cases hm:yZ xs k with
 | none =>
   rw [(Kq xs k).1 hm,KB xs k v hm];simp only [Option.bind_none,oJ (P:=P) _ hb,aO];congr 3;simp [vV,Et,vI]
 | some u =>
   obtain ⟨i,h1,h2,h3⟩:=Ug xs k hm;rw [h1,h3];have hg:(vI 0 xs)[i]?=some { key:=A9.val k,val:=.int .i64 u,born:=0+i }:=by rw [yV,h2];rfl
   simp only [kG,fR,oU,hg,kF,bL,hk.stays,aO,oJ (P:=P) _ hb];congr 3;simp only [vV,aJ,Mj xs i k u v h2];congr 1;apply tG;simp only [Array.toList_modify];apply dW;intro j;simp only [sI,yV];by_cases hij:i=j
   · subst hij;simp [h2]
   simp [hij]
theorem Yw {r:Nat} {xs:List (κ×Int)} {k:κ} (hT:I1 P T kt κ) (hb:w.heap[r]?=some (vV xs)) (hk0:yZ xs k=none):(Instr.mapEntry T (.map (some r)) (A9.val k)).run P w =
 .ok (.tuple #[.int .i64 0,.int .i64 xs.length]) { w with heap:=w.heap.setIfInBounds r (vV (xs++[(k,0)])) }:=by
 obtain ⟨⟨et,hu,hz⟩,hk⟩:=hT;simp only [Instr.mapEntry,bL,aQ hu,aO,oK (P:=P) hb,bR,hk.check,hk.look];rw [(Kq xs k).1 hk0];simp only [Option.bind_none,bL,hz,aO,oJ (P:=P) _ hb,bR,goInt];congr 3;simp [vV,Et,vI]
theorem Sb {r i:Nat} {xs:List (κ×Int)} {v:Int} (hb:w.heap[r]?=some (vV xs)) (hi:i<xs.length):(Instr.entryStore T (.map (some r)) (.int .i64 i) (.int .i64 v)).run P w =
 .ok () { w with heap:=w.heap.setIfInBounds r (vV (xs.modify i fun p=>(p.1,v))) }:=by
 obtain ⟨k,u,hku⟩:∃ k u,xs[i]?=some (k,u):=⟨_,_,aA hi⟩
 have hfind:(vI 0 xs).toArray.findIdx? (fun e=>(e.born:Int) == (i:Int))=some i:=by
  rw [List.findIdx?_toArray,tH];have hl:(vI 0 xs).length=xs.length:=Ot xs 0;refine ⟨by omega,?_,?_⟩
  · have:=yV xs 0 i;rw [aA (show i<(vI 0 xs).length by omega),hku] at this;simp at this;simp [this]
  intro j hj;have:=yV xs 0 j;rw [aA (show j<(vI 0 xs).length by omega),aA (show j<xs.length by omega)] at this;simp at this;simp [this];omega
 simp only [Instr.entryStore,bL,oK (P:=P) hb,aO,asInt,asIntOf,bR];rw [hfind];simp only [oJ (P:=P) _ hb,aO,bR];congr 3;have h3:=Mj xs i k u v hku 0;have h4:xs.modify i (fun p=>(p.1,v))=xs.set i (k,v):=by
  apply dW;intro j;rw [sI,gL];by_cases hij:i=j
  · subst hij;obtain ⟨_,hg⟩:=aR.1 hku;simp [hi,hg]
  simp [hij]
 rw [h4];simp only [vV,h3,aJ];simp
theorem JI {κ:Type} [DecidableEq κ] [A9 κ] {eq:κ→κ→Bool} (he:∀ a b,eq a b=decide (a=b)) {T kt t:Nat} {x i:Operand} {c:Bool} {l:List (κ×Int)} {b:CB} {k:κ} {kc:CV} (hT:I1 P T kt κ) (hs:B4 ρ E nx n a) (hm:Mem ρ w0 h nx w) (hfit:nx≤uW)
 (hx:wA E x=some (.mp t)) (hi:wA E i=some kc) (hk:∀ v,Kn nx ρ kc v→v=A9.val k) (ht:h.get t=some b) (hb:∀ o,DB nx ρ (ρ t).2 b o→o=vV l):Wd P (.lookup T x i c) ρ w0 h nx a w (.val (gk c (To eq k l)) h nx):=by
 obtain ⟨v1,e1,k1⟩:=uQ hs hx;obtain ⟨v2,e2,k2⟩:=uQ hs hi;have:=Ri k1;subst this;have:=hk _ k2;subst this;obtain ⟨_,_,_,o,h3,h4⟩:=hm.own t _ ht;have:=hb o h4;subst this;rw [Ns he];refine ⟨aG _,_,w,ρ,dT _ _,TF,hm,hfit,gW,fun d ty pos after g=>?_⟩;simp only [execOp,wU e1,wU e2,bL,Hw hT h3 c,aO,bR]
theorem TT {κ:Type} [DecidableEq κ] [A9 κ] {eq:κ→κ→Bool} (he:∀ a b,eq a b=decide (a=b)) {T kt t:Nat} {x i y:Operand} {l:List (κ×Int)} {b b':CB} {k:κ} {kc:CV} {v:Int} (hT:I1 P T kt κ) (hs:B4 ρ E nx n a) (hm:Mem ρ w0 h nx w) (hfit:Nat.ble (Nat.succ nx) uW=true)
 (hx:wA E x=some (.mp t)) (hi:wA E i=some kc) (hy:wA E y=some (.int .i64 v)) (hk:∀ v,Kn nx ρ kc v→v=A9.val k) (ht:h.get t=some b) (hb:∀ o,DB nx ρ (ρ t).2 b o→o=vV l) (hst:Yl b'=nx) (hb':DB nx ρ (ρ t).2 b' (vV (TE eq k v l))) :
 Wd P (.mapUpdate T x i y) ρ w0 h nx a w (.unit (h.set (some b') uW t) (Nat.succ nx)):=by
 obtain ⟨v1,e1,k1⟩:=uQ hs hx;obtain ⟨v2,e2,k2⟩:=uQ hs hi;obtain ⟨v3,e3,k3⟩:=uQ hs hy;have:=Ri k1;subst this;have:=hk _ k2;subst this;have:=iJ.1 k3.2;subst this;obtain ⟨_,_,_,o,h3,h4⟩:=hm.own t _ ht;have:=hb o h4;subst this;have hf:=vC hfit;obtain ⟨g1,g2⟩:=Yv hm uJ ht hst hb';refine ⟨dL _,_,ρ,dT _ _,g1,hf,g2,fun ty pos after g=>?_⟩;rw [YM he];simp only [execOp,wU e1,wU e2,wU e3,bL,Tt hT h3,aO,bR]
theorem TU {κ:Type} [DecidableEq κ] [A9 κ] {eq:κ→κ→Bool} (he:∀ a b,eq a b=decide (a=b)) {T kt t:Nat} {x i:Operand} {l:List (κ×Int)} {b b':CB} {k:κ} {kc:CV} (hT:I1 P T kt κ) (hs:B4 ρ E nx n a) (hm:Mem ρ w0 h nx w) (hfit:Nat.ble (Nat.succ nx) uW=true)
 (hx:wA E x=some (.mp t)) (hi:wA E i=some kc) (h0:To eq k l=none) (hk:∀ v,Kn nx ρ kc v→v=A9.val k) (ht:h.get t=some b) (hb:∀ o,DB nx ρ (ρ t).2 b o→o=vV l) (hst:Yl b'=nx) (hb':DB nx ρ (ρ t).2 b' (vV (l++[(k,0)]))) :
 Wd P (.mapEntry T x i) ρ w0 h nx a w (.val (.tup (.cons (.int .i64 0) (.cons (.int .i64 l.length) .nil))) (h.set (some b') uW t) (Nat.succ nx)):=by
 obtain ⟨v1,e1,k1⟩:=uQ hs hx;obtain ⟨v2,e2,k2⟩:=uQ hs hi;have:=Ri k1;subst this;have:=hk _ k2;subst this;obtain ⟨_,_,_,o,h3,h4⟩:=hm.own t _ ht;have:=hb o h4;subst this;have hf:=vC hfit;rw [Ns he] at h0;obtain ⟨g1,g2⟩:=Yv hm uJ ht hst hb';refine ⟨dL _,.tuple #[.int .i64 0,.int .i64 l.length],_,ρ,dT _ _,⟨⟨I8,I8,I8⟩,rQ.2 ⟨_,mJ.2 ⟨_,_,U,U,mJ.2 ⟨_,_,U,U,U⟩⟩,U⟩⟩,g1,hf,g2,fun d ty pos after g=>?_⟩;simp only [execOp,wU e1,wU e2,bL,Yw hT h3 h0,aO,bR]
theorem TW {κ:Type} [DecidableEq κ] [A9 κ] {T t:Nat} {x s y:Operand} {l:List (κ×Int)} {b b':CB} {m v:Int} (hs:B4 ρ E nx n a) (hm:Mem ρ w0 h nx w) (hfit:Nat.ble (Nat.succ nx) uW=true)
 (hx:wA E x=some (.mp t)) (hi:wA E s=some (.int .i64 m)) (hy:wA E y=some (.int .i64 v)) (h0:0≤m) (hl:Nat.ble (Nat.succ m.toNat) l.length=true) (ht:h.get t=some b) (hb:∀ o,DB nx ρ (ρ t).2 b o→o=vV l) (hst:Yl b'=nx) (hb':DB nx ρ (ρ t).2 b' (vV (NO (fun p=>(p.1,v)) l m.toNat))) :
 Wd P (.entryStore T x s y) ρ w0 h nx a w (.unit (h.set (some b') uW t) (Nat.succ nx)):=by
 obtain ⟨v1,e1,k1⟩:=uQ hs hx;obtain ⟨v2,e2,k2⟩:=uQ hs hi;obtain ⟨v3,e3,k3⟩:=uQ hs hy;have:=Ri k1;subst this;have:=iJ.1 k2.2;subst this;have:=iJ.1 k3.2;subst this;obtain ⟨_,_,_,o,h3,h4⟩:=hm.own t _ ht;have:=hb o h4;subst this;have hf:=vC hfit;obtain ⟨g1,g2⟩:=Yv hm uJ ht hst hb';refine ⟨dL _,_,ρ,dT _ _,g1,hf,g2,fun ty pos after g=>?_⟩;rw [JH];have hr:=Sb (P:=P) (T:=T) (w:=w) (v:=v) h3 (vC hl);rw [dZ h0] at hr;simp only [execOp,wU e1,wU e2,wU e3,bL,hr,aO,bR]
theorem ZU {ρ':Pl} {s:Nat} (h:ρ' nx=(w.heap.size,s)):DV ρ' (.mp nx) (.map (some w.heap.size)):=by rw [DV.mp,h]
theorem run_mark {t e:TypeId} {b o n c:Nat} {cs:Array Value} {ty:TypeId} (ht:P.underlying t=some (.slice e)) (he:P.underlying e=some (.int .u8)) (hb:w.heap[b]?=some (.cells cs ty (0,0))) :
 (convert t t (.slice (some ⟨b,o,none⟩) n c)).run P w=.ok (.slice (some ⟨b,o,none⟩) n c) (w.freeze ⟨b,cs.size,none⟩ 1):=by
 have hsh:w.shape? b=some (ty,cs.size):=by unfold World.shape?;rw [hb]
 simp [convert,aQ ht,aQ he,markStringish,hsh]
theorem freeze_upd {b k:Nat}:D2 (·=b) w (w.freeze ⟨b,k,none⟩ 1):=⟨U,U,U,by simp [World.freeze],fun j _ hj=>by
 have hj':b≠j:=fun e=>hj e.symm;simp [World.freeze,kT,hj']⟩
theorem CT {b k:Nat} (hk:k≠0):D2 (·=b) w (w.freeze ⟨b,0,none⟩ k):=by
 have e:∃ f,w.freeze ⟨b,0,none⟩ k={ w with heap:=w.heap.modify b f }:=⟨_,by unfold World.freeze;simp only [hk,fJ];rfl⟩
 obtain ⟨f,e⟩:=e;rw [e];exact ⟨U,U,U,by simp,fun j _ hj=>by
  have hj':b≠j:=fun e=>hj e.symm;simp [kT,hj']⟩
theorem freeze_at {b k:Nat} {cs:Array Value} {ty:TypeId} (hb:w.heap[b]?=some (.cells cs ty (0,0))):(w.freeze ⟨b,k,none⟩ 1).heap[b]?=some (.cells cs ty (k,k+1)):=by
 simp [World.freeze,kT,hb]
theorem fe {a b:ByteArray} (h:a.data=b.data):a=b:=by cases a;cases b;exact congrArg _ h
theorem GK (l:List UInt8) (i j:Nat):(ByteArray.mk l.toArray).extract i j=⟨((l.drop i).take (j - i)).toArray⟩:=by
 apply fe;rw [ByteArray.data_extract];simp [List.extract_eq_take_drop]
theorem CU {P:Program} {e:B0} {H:Hp} {G:A3} {ty T:TypeId} {x:Operand} {lo hi:Option Operand} {s:ByteArray} {l h:Nat} (hT:P.underlying T=some .string) (hx:e.ev x=some (.string s))
 (hl:dy e 0 lo l) (hh:dy e s.size hi h) (hlh:l≤h) (hhs:h≤s.size):Qy P (.slice T x lo hi none) ty e H G (.string (s.extract l h)):=fun ac w _ _ _ _ hk=>by
 have e1:(h:Int)≤s.size:=uJ;have e2:(l:Int)≤h:=uJ;cases lo with
 | none =>
   have hl:l=0:=hl;subst hl;cases hi with
   | none=>have hh:h=s.size:=hh;subst hh;simp [execOp,Instr.sliceAt,Instr.slice,hk.eval hx,aQ hT,Instr.sliceBounds,Instr.sliceBound,asIntOf]
   | some y =>
     obtain ⟨k,hy⟩:=hh;simp [execOp,Instr.sliceAt,Instr.slice,hk.eval hx,hk.eval hy,aQ hT,Instr.sliceBounds,Instr.sliceBound,asIntOf,e1,hhs]
 | some z =>
   obtain ⟨kz,hz⟩:=hl;cases hi with
   | none =>
     have hh:h=s.size:=hh;subst hh;simp [execOp,Instr.sliceAt,Instr.slice,hk.eval hx,hk.eval hz,aQ hT,Instr.sliceBounds,Instr.sliceBound,asIntOf,e2,hlh]
   | some y =>
     obtain ⟨k,hy⟩:=hh;simp [execOp,Instr.sliceAt,Instr.slice,hk.eval hx,hk.eval hz,hk.eval hy,aQ hT,Instr.sliceBounds,Instr.sliceBound,asIntOf,e1,e2,hlh,hhs]
theorem JJ {l:CV} {vs:List Value} (hk:KL nx ρ l vs):TQ l=true→∃ bs:List UInt8,vs=bs.map fun b=>Value.int .u8 b.toNat:=by
 refine nD (motive:=fun l vs=>TQ l=true→∃ bs:List UInt8,vs=bs.map fun b=>Value.int .u8 b.toNat) (fun _=>⟨[],U⟩) ?_ hk;intro a b v vs hv _ ih h;have h':(mn a && TQ b)=true:=h;rw [aB] at h';obtain ⟨bs,rfl⟩:=ih h'.2;cases a <;> first | (exact absurd (show false=true from h'.1) uR) | skip
 rename_i k n;cases k <;> first | (exact absurd (show false=true from h'.1) uR) | skip
 have h2:(yK 0 n && not (yK 256 n))=true:=h'.1;simp only [aB,eJ,wI,aY,eZ] at h2;refine ⟨UInt8.ofNat n.toNat :: bs,?_⟩;rw [cA,iJ.1 hv.2];have h3:((UInt8.ofNat n.toNat).toNat:Int)=n:=by
  rw [nU];have:n.toNat % 2 ^ 8=n.toNat:=eS uJ;omega
 rw [h3]
theorem push_all:∀ (bs:List UInt8),((bs.map fun b=>(b.toNat:Int)).foldl (fun r n=>ByteArray.push r (UInt8.ofNat n.toNat)) ByteArray.empty)=⟨bs.toArray⟩:=by
 have key:∀ (bs:List UInt8) (s:List UInt8),((bs.map fun b=>(b.toNat:Int)).foldl (fun r n=>ByteArray.push r (UInt8.ofNat n.toNat)) ⟨s.toArray⟩)=⟨(s++bs).toArray⟩:=by
  intro bs;induction bs with
  | nil=>intro s;simp
  | cons b bs ih =>
    intro s;rw [cA,List.foldl_cons];have e:ByteArray.push ⟨s.toArray⟩ (UInt8.ofNat ((b.toNat:Int)).toNat)=⟨(s++[b]).toArray⟩:=by
     simp [ByteArray.push]
    rw [e,ih,cU];rfl
 intro bs;exact key bs []
theorem nf {op:Op} (hs:B4 ρ E nx n a) (hm:Mem ρ w0 h nx w) (hfit:nx≤uW):Wd P op ρ w0 h nx a w (mv P E h nx op):=by
 unfold mv ux mv1 mv2 mv3 mv4 mv5 mvC mv6 mo mq mr mv7 mv8 mv9 mu mw mz nc nd;split
 · rename_i T;refine uU (Wd _ _ _ _ _ _ _ _) (fun hb=>?_) fun _=>trivial;have hr:∀ (d:Option Tmp) (ty:TypeId) (pos:String) (after:Array Edge) (g:Option (Nat×Bool)),(execOp a.eval ⟨d,.makeMap T none,ty,pos,after,g⟩).run P w=.ok (.value (.map (some w.heap.size))) (w.alloc (vV ([]:List (Int×Int)))):=fun d ty pos after g=>by
    simp only [execOp,lX,bL,Cw,aO,bR];rfl
   refine uU (Wd _ _ _ _ _ _ _ _) (fun _=>?_) fun _=>?_
   · exact qY (s:=0) hm hb U (wQ w _) (wV w _) (vQ w _) U (fun ρ' h=>ZU h) (dB _) hr
   refine uU (Wd _ _ _ _ _ _ _ _) (fun _=>?_) fun _=>trivial;exact qY (s:=0) hm hb U (wQ w _) (wV w _) (vQ w _) U (fun ρ' h=>ZU h) (dB _) hr
 · rename_i T x i c;split
   · rename_i t hx;split
     · rename_i k hi;split
       · rename_i l st ht;split
         · rename_i m hk;refine uU (Wd _ _ _ _ _ _ _ _) (fun hT=>?_) fun _=>trivial;obtain ⟨kt,hT⟩:=Yq hT;exact JI yR hT hs hm hfit hx hi (fun v hv=>Nt hk hv) ht fun o ho=>ho
         trivial
       · rename_i l st ht;split
         · rename_i m hk;refine uU (Wd _ _ _ _ _ _ _ _) (fun hT=>?_) fun _=>trivial;obtain ⟨kt,hT⟩:=Yr hT;exact JI Yp hT hs hm hfit hx hi (fun v hv=>Nu hk hv) ht fun o ho=>ho
         trivial
       trivial
     trivial
   trivial
 · rename_i T x i y;split
   · rename_i t hx;split
     · rename_i k hi;split
       · rename_i v hy;refine uU (Wd _ _ _ _ _ _ _ _) (fun hb=>?_) fun _=>trivial;split
         · rename_i l st ht;split
           · rename_i m hk;refine uU (Wd _ _ _ _ _ _ _ _) (fun hT=>?_) fun _=>trivial;obtain ⟨kt,hT⟩:=Yq hT;exact TT yR hT hs hm hb hx hi hy (fun v hv=>Nt hk hv) ht (fun o ho=>ho) U U
           trivial
         · rename_i l st ht;split
           · rename_i m hk;refine uU (Wd _ _ _ _ _ _ _ _) (fun hT=>?_) fun _=>trivial;obtain ⟨kt,hT⟩:=Yr hT;exact TT Yp hT hs hm hb hx hi hy (fun v hv=>Nu hk hv) ht (fun o ho=>ho) U U
           trivial
         trivial
       trivial
     trivial
   trivial
 · rename_i T x i;split
   · rename_i t hx;split
     · rename_i k hi;refine uU (Wd _ _ _ _ _ _ _ _) (fun hb=>?_) fun _=>trivial;split
       · rename_i l st ht;split
         · rename_i m hk;refine uU (Wd _ _ _ _ _ _ _ _) (fun hT=>?_) fun _=>trivial;obtain ⟨kt,hT⟩:=Yr hT;split
           · rename_i h0;exact TU Yp hT hs hm hb hx hi h0 (fun v hv=>Nu hk hv) ht (fun o ho=>ho) U U
           trivial
         trivial
       · rename_i l st ht;split
         · rename_i m hk;refine uU (Wd _ _ _ _ _ _ _ _) (fun hT=>?_) fun _=>trivial;obtain ⟨kt,hT⟩:=Yq hT;split
           · rename_i h0;exact TU yR hT hs hm hb hx hi h0 (fun v hv=>Nt hk hv) ht (fun o ho=>ho) U U
           trivial
         trivial
       trivial
     trivial
   trivial
 · rename_i T x s y;split
   · rename_i t hx;split
     · rename_i m hi;split
       · rename_i v hy;refine uU (Wd _ _ _ _ _ _ _ _) (fun hb=>?_) fun _=>trivial;rw [aB,wI,aY] at hb;split
         · rename_i l st ht;refine uU (Wd _ _ _ _ _ _ _ _) (fun hl=>?_) fun _=>trivial;exact TW hs hm hb.1 hx hi hy hb.2 hl ht (fun o ho=>ho) U U
         · rename_i l st ht;refine uU (Wd _ _ _ _ _ _ _ _) (fun hl=>?_) fun _=>trivial;exact TW hs hm hb.1 hx hi hy hb.2 hl ht (fun o ho=>ho) U U
         trivial
       trivial
     trivial
   trivial
 · rename_i T N parts;refine uU (Wd _ _ _ _ _ _ _ _) (fun hb=>?_) fun _=>trivial;rw [aB] at hb;have:=aD hb.1;subst this;split
   · split
     · rename_i e sz hT;have hT':=xX hT;refine qY (s:=0) hm hb.2 U (wQ w _) (wV w _) (vQ w _) (v:=.slice (some ⟨w.heap.size,0,none⟩) 0 0) (yS pA e) (fun ρ' h=>lI.2 ⟨by rw [h],by omega,by omega,by omega⟩) (dB _) fun d ty pos after g=>?_;simp [execOp,Instr.buildSlice,aQ hT'.1,run_sizeOf w hT'.2,Instr.fill,newRow,show Array.range 0=#[] from pD vL]
     trivial
   trivial
 · rename_i s t x;split
   · rename_i ht;split
     · rename_i e hs1;split
       · rename_i he;have hrun:=fun (a':Option Addr) (l c:Nat)=>run_convert_bytes_string (P:=P) w s t e a' l c hs1 he ht;split
         · rename_i hx;obtain ⟨v,e1,k1⟩:=uQ hs hx;have e2:=oS.1 k1.2;subst e2;refine ⟨aG _,.string ByteArray.empty,w,ρ,dT _ _,⟨I8,[],[],U,U,U⟩,hm,hfit,gW,fun d ty pos after g=>?_⟩;simp only [execOp,wU e1,bL,hrun,Conv.bytesToString,bR,aO]
         · rename_i b o N sz c hx;split
           · rename_i l ty op st hbk;refine uU (Wd _ _ _ _ _ _ _ _) (fun hb=>?_) fun _=>trivial;rw [aB] at hb;obtain ⟨v,e1,k1⟩:=uQ hs hx;obtain ⟨C,hv⟩:=Fp k1;subst hv;obtain ⟨_,_,_,ob,h3,vs,junk,kl,rfl,hlen,hj⟩:=hm.own b _ hbk;have hl:=aD hb.1;have kk:=zZ kl hl;obtain ⟨bs,hbs⟩:=JJ kk hb.2;have hln:((vs.drop o).take N).length=N:=by rw [←vS kk];exact hl
             have hld:(loadCells ⟨(ρ b).1,o,none⟩ N).run P w=.ok ((bs.map fun b=>(b.toNat:Int)).map (Value.int .u8)).toArray w:=by
              have:=kI (P:=P) w ⟨(ρ b).1,o,none⟩ ((vs.drop o).take N) (fun j v hj=>by
               rw [add_lit,cell_of_block h3];rw [fO] at hj;split at hj
               · rw [eW] at hj;rw [bC (aR.1 hj).1];exact hj
               cases hj)
              rw [hln] at this;rw [this,hbs,gY];rfl
             refine ⟨aG _,.string ⟨bs.toArray⟩,w,ρ,dT _ _,⟨kk.1,(vs.drop o).take N,bs,kk.2,hbs,U⟩,hm,hfit,gW,fun d ty pos after g=>?_⟩;simp only [execOp,wU e1,bL,hrun,run_bytesToString w _ _ _ _ hld,aO,bR];rw [push_all]
           trivial
         trivial
       trivial
     trivial
   · rename_i hd;split
     · rename_i u hs1;split
       · rename_i k hk;refine uU (Wd _ _ _ _ _ _ _ _) (fun _=>trivial) fun h0=>?_;split
         · rename_i tb o hx;split
           · rename_i l ty op st hbk;refine uU (Wd _ _ _ _ _ _ _ _) (fun hb=>?_) fun _=>trivial;have hb:=vC hb;obtain ⟨v,e1,k1⟩:=uQ hs hx;have e3:=nX.1 k1.2;subst e3;obtain ⟨_,_,_,ob,h3,vs,junk,kl,rfl,hlen,hj⟩:=hm.own tb _ hbk;have hl:=Jy kl;have hsh:w.shape? (ρ tb).1=some (ty,(vs++junk).toArray.size):=by unfold World.shape?;rw [h3]
             obtain ⟨j,hj1,hj2⟩:=gG.1 (Hv hk);have hj0:j.size≠0:=by rw [hj2];exact fun e=>by subst e;simp at h0
             refine ⟨aG _,_,w,ρ,dT _ _,k1,hm,hfit,gW,fun d ty' pos after g=>?_⟩;simp only [execOp,wU e1,bL,Lib.run_to_unsafe w ⟨(ρ tb).1,o,none⟩ hs1 hd hj1 hj0 hsh (by simp;omega),aO,bR]
           trivial
         trivial
       trivial
     trivial
   · rename_i u hd;split
     · rename_i hs1;split
       · rename_i j hj1;split
         · rename_i tb o hx;split
           · rename_i l ty st hbk;refine uU (Wd _ _ _ _ _ _ _ _) (fun hb=>?_) fun _=>trivial;obtain ⟨v,e1,k1⟩:=uQ hs hx;have e3:=nX.1 k1.2;subst e3;obtain ⟨_,_,_,ob,h3,vs,junk,kl,rfl,hlen,hj⟩:=hm.own tb _ hbk;have hj0:=hj U;subst hj0;have hl:=Jy kl;have hsh:w.shape? (ρ tb).1=some (ty,l.n):=by unfold World.shape?;rw [h3];simp [hl]
             refine ⟨aG _,_,w,ρ,dT _ _,k1,hm,hfit,gW,fun d ty' pos after g=>?_⟩;simp only [execOp,wU e1,bL,Lib.run_from_unsafe w ⟨(ρ tb).1,o,none⟩ hs1 hd hj1 hsh hb,aO,bR]
           trivial
         trivial
       trivial
     trivial
   split
   · rename_i b o N sz c hx;split
     · rename_i e ht;split
       · rename_i he;refine uU (Wd _ _ _ _ _ _ _ _) (fun hb=>?_) fun _=>trivial;rw [aB] at hb;have:=aD hb.1;subst this;have hf:=vC hb.2;split
         · rename_i l ty st hbk;obtain ⟨v,e1,k1⟩:=uQ hs hx;obtain ⟨_,_,_,ob,h3,vs,junk,kl,rfl,hlen,hj⟩:=hm.own b _ hbk;have hj0:=hj U;subst hj0;rw [fH] at h3;obtain ⟨C,hv⟩:=Fp k1;subst hv;obtain ⟨m2,o2⟩:=hm.write (b':=.ro l ty nx) uJ U hbk freeze_upd (freeze_at (k:=vs.toArray.size) h3) ⟨vs,_,kl,U⟩;refine ⟨dL _,_,_,ρ,dT _ _,⟨k1.1.mono (dL _) _,k1.2⟩,m2,hf,o2,fun d ty pos after g=>?_⟩;simp only [execOp,wU e1,bL,run_mark ht he h3,aO,bR]
         trivial
       trivial
     trivial
   trivial
 · rename_i T x;split
   · rename_i t o hx;split
     · rename_i l ty st ht;refine uU (Wd _ _ _ _ _ _ _ _) (fun h1=>?_) fun _=>trivial;split
       · rename_i c hc;obtain ⟨v,e1,k1⟩:=uQ hs hx;have e3:=nX.1 k1.2;subst e3;obtain ⟨_,_,_,ob,h3,vs,fz,kl,rfl⟩:=hm.own t _ ht;obtain ⟨u,e2,k3⟩:=JC kl hc;refine ⟨aG _,u,w,ρ,dT _ _,k3,hm,hfit,gW,fun d ty pos after g=>?_⟩;have hc:w.cell? ⟨(ρ t).1,o,none⟩=some u:=by rw [cell_of_block h3];simpa using e2
         simp [execOp,wU e1,zB h1 hc]
       trivial
     trivial
   trivial
 · rename_i T x i;split
   · rename_i s hx;split
     · rename_i hT;split
       · rename_i k m hi;refine uU (Wd _ _ _ _ _ _ _ _) (fun h1=>?_) fun _=>trivial;rw [wI,aY] at h1;split
         · rename_i c hc;obtain ⟨v,e1,k1⟩:=uQ hs hx;obtain ⟨bs,rfl,k2⟩:=Kd k1;obtain ⟨v2,e2,k3⟩:=uQ hs hi;have e3:=iJ.1 k3.2;subst e3;obtain ⟨u,e4,k4⟩:=Gf k2 hc;refine ⟨aG _,u,w,ρ,dT _ _,k4,hm,hfit,gW,fun d ty pos after g=>?_⟩;have e5:∃ b,bs[m.toNat]?=some b∧u=.int .u8 b.toNat:=by
            rw [bJ] at e4;cases hb:bs[m.toNat]? with
            | none=>rw [hb] at e4;cases e4
            | some b=>rw [hb] at e4;cases e4;exact ⟨b,U,U⟩
           obtain ⟨b,e6,rfl⟩:=e5;have e7:(ByteArray.mk bs.toArray)[m.toNat]?=some b:=by
            obtain ⟨hl,hg⟩:=aR.1 e6;have hs':m.toNat<(ByteArray.mk bs.toArray).size:=by show m.toNat<bs.toArray.size;simpa using hl
            rw [getElem?_pos (ByteArray.mk bs.toArray) m.toNat hs'];congr 1
           simp [execOp,wU e1,wU e2,Instr.index,asIntOf,aQ hT,h1,e7]
         trivial
       trivial
     trivial
   trivial
 · rename_i T x lo hi;split
   · rename_i t o hx;split
     · split
       · split
         · rename_i N E' sz hT;obtain ⟨hu,hs'⟩:=Lx hT;split
           · rename_i l ty op st ht;refine uU (Wd _ _ _ _ _ _ _ _) (fun h1=>?_) fun _=>trivial;rw [aB] at h1;have h2:o+N*sz≤l.n:=vC h1.1;have h3:=vC h1.2;obtain ⟨v,e1,k1⟩:=uQ hs hx;have e3:=nX.1 k1.2;subst e3;obtain ⟨_,_,_,ob,_,vs,junk,kl,_,hsz,_⟩:=hm.own t _ ht;have hl:=Jy kl;refine ⟨aG _,_,w,ρ,dT _ _,⟨k1.1,lI.2 ⟨U,by omega,aG _,by simp only [maxLen];omega⟩⟩,hm,hfit,gW,fun d ty pos after g=>?_⟩;have hr:=run_sizeOf (P:=P) w hs';simp [execOp,Instr.sliceAt,wU e1,aQ hu,Instr.sureAddr,Instr.sliceBounds,hr,add_lit]
           trivial
         trivial
       trivial
     trivial
   · rename_i s hx;split
     · rename_i hT;split
       · rename_i l hl;split
         · rename_i hh hhi;refine uU (Wd _ _ _ _ _ _ _ _) (fun h1=>?_) fun _=>trivial;simp only [aB,wI,aY] at h1;obtain ⟨h1,h2,h3⟩:=h1;obtain ⟨v,e1,k1⟩:=uQ hs hx;obtain ⟨bs,rfl,k2⟩:=Kd k1;have e2:=vS k2;rw [aW] at e2;have hsz:(ByteArray.mk bs.toArray).size=bs.length:=by show bs.toArray.size=_;simp
           have hhi':=Rk hs hhi uJ;rw [e2,←hsz] at hhi';have hq:=fun ty=>CU (P:=P) (H:=[]) (G:=fun _=>none) (ty:=ty) hT e1 (Rj hs hl h1) hhi' uJ uJ;refine ⟨aG _,.string ((ByteArray.mk bs.toArray).extract l.toNat hh.toNat),w,ρ,dT _ _,?_,hm,hfit,gW,fun d ty pos after g=>hq ty a w d pos after g (lookN a w)⟩;have k3:=Jx (hh.toNat - l.toNat) (Jw l.toNat k2);rw [GK];refine ⟨k3.1,_,(bs.drop l.toNat).take (hh.toNat - l.toNat),k3.2,by simp [List.map_take,List.map_drop],U⟩
         trivial
       trivial
     trivial
   trivial
 · rename_i x ts;split
   · rename_i tb o N sz c hx;refine uU (Wd _ _ _ _ _ _ _ _) (fun _=>trivial) fun h0=>?_;obtain ⟨v,e1,k1⟩:=uQ hs hx;obtain ⟨e2,_⟩:=lI.1 k1.2;subst e2;have hc:c≠0:=fun e=>by subst e;simp at h0
     refine ⟨aG _,.pointer (some ⟨(ρ tb).1,o,none⟩),w,ρ,dT _ _,⟨k1.1,U⟩,hm,hfit,gW,fun d ty pos after g=>?_⟩;simp [execOp,resolve,invoke,builtin,wU e1,pZ _ _ _ _ _ _ hc]
   · rename_i tb o N sz hx;refine uU (Wd _ _ _ _ _ _ _ _) (fun _=>trivial) fun h0=>?_;obtain ⟨v,e1,k1⟩:=uQ hs hx;obtain ⟨C,e2,_,e3,_⟩:=oR.1 k1.2;subst e2;have hN:N≠0:=fun e=>by subst e;simp at h0
     have hc:C≠0:=uJ;refine ⟨aG _,.pointer (some ⟨(ρ tb).1,o,none⟩),w,ρ,dT _ _,⟨k1.1,U⟩,hm,hfit,gW,fun d ty pos after g=>?_⟩;simp [execOp,resolve,invoke,builtin,wU e1,pZ _ _ _ _ _ _ hc]
   · rename_i hx;obtain ⟨v,e1,k1⟩:=uQ hs hx;have e2:=oS.1 k1.2;subst e2;refine ⟨aG _,.pointer none,w,ρ,dT _ _,⟨I8,U⟩,hm,hfit,gW,fun d ty pos after g=>?_⟩;simp [execOp,resolve,invoke,builtin,wU e1,Lib.run_unsafeSliceData_nil]
   trivial
 · rename_i x y pt it;split
   · rename_i m hy;obtain ⟨vy,ey,ky⟩:=uQ hs hy;have ey':=iJ.1 ky.2;subst ey';split
     · rename_i hx;refine uU (Wd _ _ _ _ _ _ _ _) (fun h0=>?_) fun _=>trivial;rw [yR,aY] at h0;subst h0;obtain ⟨v,e1,k1⟩:=uQ hs hx;have e2:=DV.nilp.1 k1.2;subst e2;refine ⟨aG _,.string .empty,w,ρ,dT _ _,⟨I8,[],[],U,U,U⟩,hm,hfit,gW,fun d ty pos after g=>?_⟩;simp [execOp,resolve,invoke,builtin,wU e1,wU ey,Lib.run_unsafeString_none]
     · rename_i tb o hx;split
       · rename_i e he;split
         · rename_i l ty op st hbk;refine uU (Wd _ _ _ _ _ _ _ _) (fun hb=>?_) fun _=>trivial;simp only [aB,wI,aY] at hb;obtain ⟨⟨b1,b2,b3⟩,⟨b4,b5⟩,b6,b7,b8⟩:=hb;have b1:=aD b1;have b2:=aD b2;have b3:=aD b3;have b6:=aD b6;subst b1 b2;obtain ⟨v,e1,k1⟩:=uQ hs hx;have e3:=nX.1 k1.2;subst e3;obtain ⟨_,_,_,ob,h3,vs,junk,kl,rfl,hlen,hj⟩:=hm.own tb _ hbk;have kk:=zZ kl b6;obtain ⟨bs,hbs⟩:=JJ kk b7;rw [kN] at hbs kk;have hbl:(vs.take m.toNat).length=m.toNat:=by rw [←vS kk];exact b6
           have hbl2:bs.length=m.toNat:=by rw [hbs,aW] at hbl;exact hbl
           have hle:m.toNat≤vs.length:=by rw [bI] at hbl;omega
           have hsh:w.shape? (ρ tb).1=some (ty,(vs++junk).toArray.size):=by unfold World.shape?;rw [h3]
           have hrun:=Lib.run_unsafeString_row (P:=P) (w:=w) pt it it ty he b3 (ρ tb).1 _ hsh bs (fun e=>by subst e;simp at hbl2;omega) (by simp;omega) uJ (fun j x hjx=>by
            rw [add_lit,cell_of_block h3,cF];have hjl:j<bs.length:=(aR.1 hjx).1;have h5:(vs.take m.toNat)[j]?=some (Value.int .u8 x.toNat):=by rw [hbs,bJ,hjx];rfl
            rw [fO,aM (by omega)] at h5;rw [bC uJ];exact h5)
           have hnz:bs≠[]:=fun e=>by subst e;simp at hbl2;omega
           obtain ⟨m2,o2⟩:=hm.drop hfit hbk (w':=w.freeze ⟨(ρ tb).1,0,none⟩ bs.length) (CT (by simpa using hnz));refine ⟨aG _,.string ⟨bs.toArray⟩,_,ρ,dT _ _,⟨kk.1,_,bs,kk.2,hbs,U⟩,m2,hfit,o2,fun d ty' pos after g=>?_⟩;have hm':m=((bs.length:Nat):Int):=uJ;rw [hm'] at ey;have hrun':=fun ty'=>(show (Builtin.unsafeString_ #[pt,it] ty' #[.pointer (some ⟨(ρ tb).1,0,none⟩),.int .i64 bs.length]).run P w=_ from hrun)
           simp [execOp,resolve,invoke,builtin,wU e1,wU ey,hrun']
         trivial
       trivial
     trivial
   trivial
 · rename_i g x ts;refine uU (Wd _ _ _ _ _ _ _ _) (fun h0=>?_) fun _=>trivial;obtain ⟨fn,f1,f2,f3,f4,f5⟩:=TS h0;split
   · rename_i c hx;obtain ⟨v,e1,k1⟩:=uQ hs hx;refine ⟨aG _,v,w,ρ,dT _ _,k1,hm,hfit,gW,fun d ty pos after g'=>?_⟩;have hcall:=run_callFunc_extern (P:=P) f1 f2 f3 f4 f5 #[v] w;rw [Lib.run_noEscape] at hcall;have hf:a.eval (.func g)=.func (.func g) #[] #[]:=rfl;simp [execOp,resolve,Deferred.ofValue,invoke,hf,wU e1,hcall]
   trivial
 · rename_i T x;split
   · rename_i s hx;split
     · rename_i hT;refine uU (Wd _ _ _ _ _ _ _ _) (fun hf=>?_) fun _=>trivial;obtain ⟨v,e1,k1⟩:=uQ hs hx;obtain ⟨bs,rfl,k2⟩:=Kd k1;refine qY (s:=0) hm hf U (wQ w (.stringIter ⟨bs.toArray⟩ 0)) (wV w _) (vQ w _) (v:=.pointer (some ⟨w.heap.size,0,none⟩)) ⟨bs,k2,U⟩ (fun ρ' h=>by rw [nX,h]) (dB _) fun d ty pos after g=>?_;simp only [execOp,Instr.range,wU e1,bL,aQ hT,aO,bR];rfl
     trivial
   trivial
 · rename_i x;split
   · rename_i tb o hx;refine uU (Wd _ _ _ _ _ _ _ _) (fun ho=>?_) fun _=>trivial;have ho:=aD ho;subst ho;obtain ⟨v,e1,k1⟩:=uQ hs hx;have e3:=nX.1 k1.2;subst e3;split
     · rename_i l pos st hbk;obtain ⟨_,_,_,ob,h3,bs,kl,rfl⟩:=hm.own tb _ hbk;have hlen:=vS kl;rw [aW] at hlen;have hsz:(ByteArray.mk bs.toArray).size=bs.length:=by show bs.toArray.size=_;simp
       have hget:(getObj (ρ tb).1).run P w=.ok (.stringIter ⟨bs.toArray⟩ pos) w:=by simp [getObj,Sem.run,h3]
       split
       · rename_i n hn;refine uU (Wd _ _ _ _ _ _ _ _) (fun hb=>?_) fun _=>trivial;simp only [aB,eJ,wI,aY,eZ] at hb;obtain ⟨b1,b2,b3⟩:=hb;have hf:=vC b3;obtain ⟨u,e4,k4⟩:=Gf kl hn;have e5:=iJ.1 k4.2;subst e5;rw [bJ] at e4;obtain ⟨c,e6,e7⟩:=gG.1 e4;injection e7 with _ e8;have hpos:pos<bs.length:=(aR.1 e6).1;have hdec:Utf8.decode ⟨bs.toArray⟩ pos=(c.toNat,1):=by
          have h9:(ByteArray.mk bs.toArray).get! (pos+0)=c:=by
           show bs.toArray[pos+0]! = c;rw [fQ,pV bs.toArray pos (by simpa using hpos)];have:=(aR.1 e6).2;simpa using this
          have h10:c.toNat<128:=uJ;unfold Utf8.decode;simp only [h9,h10,fI]
         obtain ⟨m2,o2⟩:=hm.write (b':=.it l (Nat.succ pos) nx) (o:=.stringIter ⟨bs.toArray⟩ (pos+1)) (w':=w.putObj (ρ tb).1 (.stringIter ⟨bs.toArray⟩ (pos+1))) uJ U hbk (xD w _ _) (gD (cK.1 h3).1) ⟨bs,kl,U⟩;have hset:(setObj (ρ tb).1 (.stringIter ⟨bs.toArray⟩ (pos+1))).run P w=.ok () (w.putObj (ρ tb).1 (.stringIter ⟨bs.toArray⟩ (pos+1))):=by
          simp [setObj,Sem.run,h3,World.putObj]
         refine ⟨dL _,.tuple #[.bool true,.int .i64 pos,.int .i32 c.toNat],_,ρ,dT _ _,⟨⟨I8,I8,I8,I8⟩,rQ.2 ⟨_,mJ.2 ⟨_,_,U,U,mJ.2 ⟨_,_,U,U,mJ.2 ⟨_,_,U,?_,U⟩⟩⟩,U⟩⟩,m2,hf,o2,fun d ty pos' after g=>?_⟩
         · rw [iJ,←e8]
         simp [execOp,Instr.next,wU e1,hget,hset,hdec,hsz,hpos,goInt]
       · rename_i hn;refine uU (Wd _ _ _ _ _ _ _ _) (fun hb=>?_) fun _=>trivial;have hb:=vC hb;refine ⟨aG _,.tuple #[.bool false],w,ρ,dT _ _,⟨⟨I8,I8⟩,rQ.2 ⟨_,mJ.2 ⟨_,_,U,U,U⟩,U⟩⟩,hm,hfit,gW,fun d ty pos' after g=>?_⟩;have hnp:¬pos<bs.length:=uJ;simp [execOp,Instr.next,wU e1,hget,hsz,hnp]
       trivial
     trivial
   trivial
 trivial
def wm (P:Program) (E:Tr CV) (h:Tr CB) (nx:Nat) (op:Op):Ro:=match wv P E h nx op with
 | .bad=>mv P E h nx op
 | r=>r
theorem YT {f:Operand} {args:Array Operand} {ats:Array TypeId} (hf:my P f=false):wm P E h nx (.call ⟨.value f,args,ats⟩)=.bad:=by
 obtain ⟨args⟩:=args;have hw:wv P E h nx (.call ⟨.value f,⟨args⟩,ats⟩)=.bad:=rfl;unfold wm;rw [hw];show mv P E h nx (.call ⟨.value f,⟨args⟩,ats⟩)=.bad;cases f with
 | func g =>
   have hg:Wg P g=false:=hf;cases args with
   | nil=>rfl
   | cons x xs =>
     cases xs with
     | nil=>show (bif Wg P g then _ else Ro.bad)=.bad;rw [hg];rfl
     | cons y ys=>rfl
 | _=>cases args with
   | nil=>rfl
   | cons x xs=>cases xs <;> rfl
theorem ng {op:Op} (hs:B4 ρ E nx n a) (hm:Mem ρ w0 h nx w) (hfit:nx≤uW):Wd P op ρ w0 h nx a w (wm P E h nx op):=by
 unfold wm;have H:=mj (P:=P) (op:=op) hs hm hfit;split
 · exact nf hs hm hfit
 exact H
end
def nh (P:Program) (op:Op) (ρ:Pl) (h:Tr CB) (nx:Nat) (a:Act) (c:CV) (h':Tr CB) (nx':Nat):Prop:=
 ∃ (b:CB) (s:Nat) (o:Obj) (V:Nat→Value),nx'=nx+1∧h'=h.set (some b) uW nx∧nx+1≤uW∧Yl b=nx∧DB nx ρ s b o∧
  (∀ (ρ':Pl) (p:Nat),ρ' nx=(p,s)→Kn (nx+1) ρ' c (V p))∧
  ∀ (w:World) (d:Option Tmp) (ty:TypeId) (pos:String) (after:Array Edge) (g:Option (Nat×Bool)),(execOp a.eval ⟨d,op,ty,pos,after,g⟩).run P w=.ok (.value (V w.heap.size)) (w.alloc o)
def nj:Op→Option (List Operand)
 | .alloc _=>some []
 | .box _ x=>some [x]
 | .makeSlice _ x y=>some [x,y]
 | .buildSlice _ _ parts=>some (parts.toList.map (·.2))
 | .makeMap _ none=>some []
 | _=>none
section
variable {P:Program} {nx n:Nat} {ρ:Pl} {E:Tr CV} {h:Tr CB} {a:Act}
theorem TX (hs:B4 ρ E nx n a) {op:Op} {xs:List Operand} (hx:nj op=some xs) {c:CV} {h':Tr CB} {nx':Nat} (hw:wm P E h nx op=.val c h' nx'):nh P op ρ h nx a c h' nx':=by
 have hv:wv P E h nx op=.val c h' nx'∨mv P E h nx op=.val c h' nx':=by
  unfold wm at hw;split at hw
  · exact .inr hw
  exact .inl hw
 cases op with
 | alloc T =>
   rcases hv with hv | hv
   · have hv':(match ZR P T with | some z=>bif Nat.ble (Nat.succ nx) uW then Ro.val (.ptr nx 0) (h.set (some (.cells (Tk z) T false nx)) uW nx) (Nat.succ nx) else .bad | none=>.bad)=.val c h' nx':=hv;split at hv'
     · rename_i z hz;rcases uN hv' with ⟨hf,h1⟩ | ⟨_,h1⟩
       · cases h1;obtain ⟨i,v,hi,hv,kz⟩:=Rh hz nx ρ;refine ⟨_,v.cells.toList.length,.cells v.cells.toList.toArray T (0,0),fun p=>.pointer (some ⟨p,0,none⟩),U,U,vC hf,U,yS kz T,fun ρ' p hρ=>⟨dB nx,?_⟩,fun w d ty pos after g=>?_⟩
         · show _=Value.pointer (some ⟨(ρ' nx).1,0,none⟩);rw [hρ]
         simp [execOp,Instr.alloc,newVar,newRow,zeroValue,typeInfo,hi,hv]
       cases h1
     cases hv'
   · cases hv
 | box T x =>
   rcases hv with hv | hv
   · have hv':(match wA E x with
      | some c=>match Cu c with
        | some l=>bif Nat.ble (Nat.succ nx) uW then Ro.val (.ptr nx 0) (h.set (some (.cells (Tk l) T false nx)) uW nx) (Nat.succ nx) else .bad
        | none=>.bad
      | none=>.bad)=.val c h' nx':=hv
     split at hv'
     · rename_i c1 hc;split at hv'
       · rename_i l hl;rcases uN hv' with ⟨hf,h1⟩ | ⟨_,h1⟩
         · cases h1;obtain ⟨v,e1,k1⟩:=uQ hs hc;have kz:=Dg k1 hl;refine ⟨_,v.cells.toList.length,.cells v.cells.toList.toArray T (0,0),fun p=>.pointer (some ⟨p,0,none⟩),U,U,vC hf,U,yS kz T,fun ρ' p hρ=>⟨dB nx,?_⟩,fun w d ty pos after g=>?_⟩
           · show _=Value.pointer (some ⟨(ρ' nx).1,0,none⟩);rw [hρ]
           simp [execOp,Instr.box,newVar,newRow,wU e1]
         cases h1
       cases hv'
     cases hv'
   · cases hv
 | makeSlice T x y =>
   rcases hv with hv | hv
   · have hv':(match TI P T with
      | some (e,sz,by',z)=>match wA E x with
        | some (.int _ n)=>match wA E y with
          | some (.int _ c)=>bif yK 0 n && (yK n c && (Nat.ble (Nat.mul by' c.toNat) 281474976710656 && (Nat.ble c.toNat 4611686018427387904 && Nat.ble (Nat.succ nx) uW))) then
           Ro.val (.sl nx 0 n.toNat sz (some c.toNat)) (h.set (some (.cells (Tk (GA z c.toNat)) e false nx)) uW nx) (Nat.succ nx) else .bad
          | _=>.bad
        | _=>.bad
      | none=>.bad)=.val c h' nx':=hv
     split at hv'
     · rename_i e sz by' z hz;split at hv'
       · rename_i k N hx;split at hv'
         · rename_i k' C hy;rcases uN hv' with ⟨hb,h1⟩ | ⟨_,h1⟩
           · cases h1;simp only [aB,wI,aY] at hb;obtain ⟨hb1,hb2,hb3,hb4,hb5⟩:=hb;have hb3:by'*C.toNat≤281474976710656:=vC hb3;have hb4:=vC hb4;obtain ⟨hu,i,zv,hi,hzv,hsz,hby,kz,hzl,h0⟩:=Lz hz nx ρ;obtain ⟨v1,e1,k1⟩:=uQ hs hx;obtain ⟨v2,e2,k2⟩:=uQ hs hy;rw [iJ.1 k1.2] at e1;rw [iJ.1 k2.2] at e2;have hbc:(i.bytes:Int)*C≤281474976710656:=by
              have:((by'*C.toNat:Nat):Int)=(i.bytes:Int)*C:=by rw [dS,dZ uJ,hby]
              omega
             have hmade:madeCells zv.cells (C.toNat*i.size)=(List.replicate C.toNat zv.cells.toList).flatten.toArray:=by
              have:=Nw (zs:=zv.cells.toList) uJ C.toNat;rw [hzl] at this;rw [hsz,←this]
             have hlen:(List.replicate C.toNat zv.cells.toList).flatten.length=C.toNat*sz:=by simp [←hzl]
             refine ⟨_,C.toNat*sz,.cells (List.replicate C.toNat zv.cells.toList).flatten.toArray e (0,0),fun p=>.slice (some ⟨p,0,none⟩) N.toNat C.toNat,U,U,vC hb5,U,by rw [←hlen];exact yS (Np kz C.toNat) e,fun ρ' p hρ=>⟨dB nx,?_⟩,fun w d ty pos after g=>?_⟩
             · refine lI.2 ⟨by rw [hρ],by rw [hρ];show 0+C.toNat*sz≤C.toNat*sz;omega,by omega,?_⟩;simp only [maxLen];omega
             have hrun:=run_make (P:=P) w T e i zv hu hi hzv k k' N C hb1 hb2 hbc uJ;rw [hmade] at hrun;simp only [execOp,wU e1,wU e2,bL,hrun,aO,bR]
           cases h1
         cases hv'
       cases hv'
     cases hv'
   · cases hv
 | buildSlice T N parts =>
   obtain ⟨parts⟩:=parts;rcases hv with hv | hv
   · have hv':(match TI P T with
      | some (e,sz,_,z)=>bif Nat.ble 1 N && (Nat.ble (Nat.mul N sz) 16777216 && Nat.ble (Nat.succ nx) uW) then
       (match Kb E (xJ N sz) (Nat.mul N sz) parts (GA z N) with
       | some l=>Ro.val (.sl nx 0 N sz (some N)) (h.set (some (.cells (Tk l) e false nx)) uW nx) (Nat.succ nx)
       | none=>.bad) else .bad
      | none=>.bad)=.val c h' nx':=hv
     split at hv'
     · rename_i e sz by' z hz;rcases uN hv' with ⟨hb,h1⟩ | ⟨_,h1⟩
       · split at h1
         · rename_i l hl;cases h1;simp only [aB] at hb;obtain ⟨hu,i,zv,hi,hzv,hsz,hby,kz,hzl,h0⟩:=Lz hz nx ρ;have kr:=Np kz N;obtain ⟨vs,e1,o1,k1⟩:=Kc hs kr hl;have hN:=bK hb.1;have hNs:N*sz≤16777216:=bK hb.2.1;have hpos:0<N*sz:=pL hN h0;have hlen:(List.replicate N zv.cells.toList).flatten.length=N*sz:=by simp [←hzl]
           have hf:=Ik (fun i=>some (i*sz,sz)) (xJ N sz) (fun i x h=>by
            simp only [xJ,bJ,gG] at h;obtain ⟨j,hj,rfl⟩:=h;obtain ⟨hlt,hj⟩:=aR.1 hj;simp at hj;subst hj;rfl) vs (List.replicate N zv.cells.toList).flatten (N*sz) hlen o1
           have hmade:((Array.range (N*i.size)).map (zv.cells[· % zv.cells.size]!))=(List.replicate N zv.cells.toList).flatten.toArray:=by
            have:=Nw (zs:=zv.cells.toList) uJ N;rw [hzl] at this;simpa [madeCells,hsz] using this
           have hmm:(parts.toArray.map fun (i,x)=>(i,a.eval x))=vs.toArray:=by rw [←(lookN a (default:World)).parts e1];simp
           have hlenF:(Au (xJ N sz) (List.replicate N zv.cells.toList).flatten vs).length=N*sz:=by
            rw [←vS k1,Wb hl (by rw [vS kr,hlen];exact aG _),vS kr,hlen]
           refine ⟨_,(Au (xJ N sz) (List.replicate N zv.cells.toList).flatten vs).length,.cells (Au (xJ N sz) (List.replicate N zv.cells.toList).flatten vs).toArray e (0,0),fun p=>.slice (some ⟨p,0,none⟩) N N,U,U,vC hb.2.2,U,yS k1 e,fun ρ' p hρ=>⟨dB nx,?_⟩,fun w d ty pos after g=>?_⟩
           · refine lI.2 ⟨by rw [hρ],by rw [hρ,hlenF];omega,aG _,?_⟩;have:=jX N h0;simp only [maxLen];omega
           have hrun:=run_buildSlice (P:=P) w T e N vs.toArray (Au (xJ N sz) (List.replicate N zv.cells.toList).flatten vs).toArray i zv hu hi hzv Zg Zg (by rw [hmade,hsz];exact hf);simp only [execOp,hmm,bL,hrun,aO,bR]
         cases h1
       cases h1
     cases hv'
   · have hv':(bif Nat.beq N 0 && Nat.ble (Nat.succ nx) uW then (match parts with
      | []=>(match Vy P T with | some (e,sz)=>Ro.val (.sl nx 0 0 sz (some 0)) (h.set (some (.cells (Tk .nil) e false nx)) uW nx) (Nat.succ nx) | none=>.bad)
      | _=>.bad) else .bad)=.val c h' nx':=hv
     rcases uN hv' with ⟨hb,h1⟩ | ⟨_,h1⟩
     · rw [aB] at hb;have hN:=aD hb.1;subst hN;cases parts with
       | cons q qs=>cases h1
       | nil =>
         simp only at h1;split at h1
         · rename_i e sz hT;cases h1;have hT':=xX hT;refine ⟨_,0,.cells #[] e (0,0),fun p=>.slice (some ⟨p,0,none⟩) 0 0,U,U,vC hb.2,U,yS (vs:=[]) pA e,fun ρ' p hρ=>⟨dB nx,?_⟩,fun w d ty pos after g=>?_⟩
           · refine lI.2 ⟨by rw [hρ],by rw [hρ];omega,aG _,by simp [maxLen]⟩
           simp [execOp,Instr.buildSlice,aQ hT'.1,run_sizeOf w hT'.2,Instr.fill,newRow,show Array.range 0=#[] from pD vL]
         cases h1
     · cases h1
 | makeMap T o =>
   cases o with
   | some x=>cases hx
   | none =>
     rcases hv with hv | hv
     · cases hv
     · have hrun:∀ (w:World) (d:Option Tmp) (ty:TypeId) (pos:String) (after:Array Edge) (g:Option (Nat×Bool)),(execOp a.eval ⟨d,.makeMap T none,ty,pos,after,g⟩).run P w=.ok (.value (.map (some w.heap.size))) (w.alloc (vV ([]:List (Int×Int)))):=fun w d ty pos after g=>by
        simp only [execOp,lX,bL,Cw,aO,bR];rfl
       have hk:∀ (ρ':Pl) (p:Nat),ρ' nx=(p,0)→Kn (nx+1) ρ' (.mp nx) (.map (some p)):=fun ρ' p hρ=>⟨dB nx,by rw [DV.mp,hρ]⟩
       unfold mv ux at hv;rcases uN hv with ⟨hf,h1⟩ | ⟨_,h1⟩
       · rcases uN h1 with ⟨_,h2⟩ | ⟨_,h2⟩
         · cases h2;exact ⟨_,0,_,fun p=>.map (some p),U,U,vC hf,U,U,hk,hrun⟩
         rcases uN h2 with ⟨_,h3⟩ | ⟨_,h3⟩
         · cases h3;exact ⟨_,0,_,fun p=>.map (some p),U,U,vC hf,U,U,hk,hrun⟩
         cases h3
       · cases h1
 | _=>cases hx
end
inductive C5 where
 | code (c:Code) (n:Nat) (E:Tr CV) (h:Tr CB) (nx:Nat)
 | loop (c:Code) (n:Nat) (E:Tr CV) (h:Tr CB) (nx:Nat)
 | ops (all l:List Oper) (n:Nat) (E:Tr CV) (h:Tr CB) (nx:Nat)
 | one (o:Oper) (n:Nat) (E:Tr CV) (h:Tr CB) (nx:Nat)
 | call (f:Nat) (args:CV) (h:Tr CB) (nx:Nat)
 | round (t:Nat) (args:CV) (h:Tr CB) (nx:Nat)
 | reg (l:List Oper) (plan:List (Nat×Pk)) (pend:List (Nat×Nat×Nat)) (n:Nat) (E:Tr CV) (h:Tr CB) (nx:Nat)
inductive B3 where
 | bad (why:Nat) (at_:List Oper)
 | ok (x:Exit) (E:Tr CV) (h:Tr CB) (nx:Nat)
 | ret (v:CV) (h:Tr CB) (nx:Nat)
def pj (P:Program) (f:Nat):Option Func:=match Ic P.funcs.toList f with
 | some fn => bif fn.name == "runtime.NumGoroutine" then none else some fn
 | none=>none
theorem ff {P : Program} {f : Nat} {fn : Func} (h : pj P f = some fn) : P.funcs[f]? = some fn ∧ (fn.name == "runtime.NumGoroutine") = false := by
 unfold pj at h;split at h
 · rename_i g hg;rcases uN h with ⟨_,h⟩ | ⟨h1,h⟩
   · cases h
   cases h;rw [zE,oV] at hg;exact ⟨hg,h1⟩
 cases h
def CW (l:CV):Nat→Tr CV→Tr CV:=lrec (fun _ E=>E) (fun a _ ih i E=>ih (Nat.succ i) (E.set (some a) uW i)) l
def fg (P:Program) (E:Tr CV) (h:Tr CB):ResultVar→Option CV
 | .tmp t=>E.get t
 | .cell t T=>qv P E h (.load T (.tmp t))
def fh (P:Program) (E:Tr CV) (h:Tr CB) (l:List ResultVar):Option CV:=List.rec (some .nil) (fun x _ ih=>match fg P E h x with | some a=>(match ih with | some b=>some (.cons a b) | none=>none) | none=>none) l
def CX (P:Program) (E:Tr CV) (h:Tr CB) (l:List ResultVar):Option CV:=match fh P E h l with
 | some (.cons a .nil)=>some a
 | some x=>some (.tup x)
 | none=>none
def Ab (E:Tr CV) (n:Nat) (d:Option Nat) (v:CV):Option (Tr CV):=match d with
 | some d=>bif Nat.ble (Nat.succ d) n then some (E.set (some v) uW d) else none
 | none=>some E
def fj (a b:Bool):Bool:=bif a then b else not b
def Na (ih:C5→B3) (E:Tr CV) (n:Nat) (h:Tr CB) (nx:Nat) (dst:Option Nat):Op→B3
 | .call ⟨.value f,⟨args⟩,_⟩=>match wA E f with
   | some (.fn g fst cap)=>match NE E args with
     | some l=>(match ih (.call g (Df fst (Df l cap)) h nx) with
       | .ret v h nx=>(match Ab E n dst v with | some E=>.ok .normal E h nx | none=>.bad 11 [])
       | .ok _ _ _ _=>.bad 12 []
       | r=>r)
     | none=>.bad 13 []
   | some (.yl t)=>match NE E args with
     | some l=>(match ih (.round t l h nx) with
       | .ret v h nx=>(match Ab E n dst v with | some E=>.ok .normal E h nx | none=>.bad 51 [])
       | .ok _ _ _ _=>.bad 52 []
       | r=>r)
     | none=>.bad 53 []
   | _=>.bad 14 []
 | op => .bad 15 [⟨none, op, 0, "", #[], none⟩]
def ZV (l:List Oper) (E:Tr CV) (o:Oper):Option Bool:=match o.guard with
 | none=>some true
 | some (j,want)=>match Cm l j with
   | some t=>match E.get t with
     | some (.bool b)=>some (fj b want)
     | some (.tup .nil)=>some false
     | _=>none
   | none=>none
def vE (o:Oper) (pend:List (Nat×Nat×Nat)):List (Nat×Nat×Nat):=List.rec [] (fun x _ ih=>bif not (Ee o.op) && Rq o x.2.1 then ih else x :: ih) pend
def zR (h:Tr CB) (pend:List (Nat×Nat×Nat)):Bool:=Kf (fun x=>match h.get x.1 with | some b=>Nat.ble (Nat.succ (Yl b)) x.2.2 | none=>false) pend
def Ze (c:Code):Bool:=
 Code.rec (motive:=fun _=>Bool) true (fun _ _ _=>true) (fun _ _ a b=>a && b) (fun _ _ _ a b=>a && b) (fun _ _ a=>a) (fun _ a=>a) (fun _ _ _ _ _ _=>false) (fun _=>true) (fun _ a=>a) (fun _=>true) (fun _=>true) true (fun _=>true) c
def pk (n:Nat) (ps:List Nat):CV→Tr CV→Option (Tr CV):=List.rec (fun l E=>match l with | .nil=>some E | _=>none)
 (fun p _ ih l E=>match l with | .cons a b=>bif Nat.ble (Nat.succ p) n then ih b (E.set (some a) uW p) else none | _=>none) ps
def NP:Exit→Option (Option Code)
 | .normal=>some none
 | .ret=>some (some .ret)
 | .exit id=>some (some (.exit id))
 | _=>none
def CY:LoopState→Bool | .ready=>true | _=>false
def Yx:LoopState→Bool | .busy=>true | _=>false
abbrev wH:=List (Nat×(CV→Option CV))
def uy (pr:wH) (f:Nat):Option (CV→Option CV):=List.rec none (fun x _ ih=>bif Nat.beq x.1 f then some x.2 else ih) pr
def fk (P:Program) (ih:C5→B3) (n:Nat) (E:Tr CV) (h:Tr CB) (nx:Nat) (a:Code) (b:Code):B3:=match ih (.code a n E h nx) with
 | .ok x E h nx=>(match x with
   | .normal=>ih (.code b n E h nx)
   | x=>.ok x E h nx)
 | r=>r
def uz (P:Program) (ih:C5→B3) (n:Nat) (E:Tr CV) (h:Tr CB) (nx:Nat) (c:Operand) (a:Code) (b:Code):B3:=match wA E c with
 | some (.bool t)=>ih (.code (bif t then a else b) n E h nx)
 | _=>.bad 1 []
def fl (P:Program) (ih:C5→B3) (n:Nat) (E:Tr CV) (h:Tr CB) (nx:Nat) (id:Nat) (c:Code):B3:=match ih (.code c n E h nx) with
 | .ok x E h nx=>(match x with
   | .exit id'=>bif Nat.beq id' id then .ok .normal E h nx else .ok (.exit id') E h nx
   | x=>.ok x E h nx)
 | r=>r
def fm (P:Program) (ih:C5→B3) (n:Nat) (E:Tr CV) (h:Tr CB) (nx:Nat) (c:Code):B3:=match ih (.code c n E h nx) with
 | .ok x E h nx=>(match x with
   | .normal=>.ok .normal E h nx
   | .ret=>.ok .ret E h nx
   | .exit id=>.ok (.exit id) E h nx
   | _=>.bad 22 [])
 | r=>r
def vc (P:Program) (ih:C5→B3) (n:Nat) (E:Tr CV) (h:Tr CB) (nx:Nat) (g:Operand) (ps:List Nat) (asg:Code) (body:Code):B3:=match wA E g with
 | some (.fn f .nil cap)=>bif Nat.ble (Nat.succ nx) uW then
   (match ih (.call f (.cons (.yl nx) cap) (h.set (some (.lp E n ps asg body .ready none nx)) uW nx) (Nat.succ nx)) with
   | .ret _ h' nx'=>(match h'.get nx with
     | some (.lp _ _ _ _ _ st p _)=>bif Yx st || not (Nat.ble (Nat.succ nx') uW) then .bad 41 [] else
       (match p with
       | none=>.ok .normal E (h'.set none uW nx) (Nat.succ nx')
       | some c=>ih (.code c n E (h'.set none uW nx) (Nat.succ nx')))
     | _=>.bad 42 [])
   | .ok _ _ _ _=>.bad 43 []
   | r=>r) else .bad 44 []
 | _=>.bad 45 []
def TY (P:Program) (ih:C5→B3) (n:Nat) (E:Tr CV) (h:Tr CB) (nx:Nat) (l:List Oper):B3:=bif P.follows .mixedOrders then (match Rx l with
 | some p=>ih (.reg l p [] n E h nx)
 | none=>.bad 23 l) else .bad 24 []
def nk (P:Program) (ih:C5→B3) (n:Nat) (E:Tr CV) (h:Tr CB) (nx:Nat) (l:List Oper):B3:=bif l.all vT then ih (.ops l l n E h nx) else .bad 2 []
def stC (P:Program) (ih:C5→B3) (n:Nat) (E:Tr CV) (h:Tr CB) (nx:Nat):Code→B3
 | .skip=>.ok .normal E h nx
 | .label _=>.ok .normal E h nx
 | .exit id=>.ok (.exit id) E h nx
 | .ret=>.ok .ret E h nx
 | .seq a b=>fk P ih n E h nx a b
 | .cond c a b=>uz P ih n E h nx c a b
 | .block id c=>fl P ih n E h nx id c
 | .scope c=>fm P ih n E h nx c
 | .rangeFunc g ⟨ps⟩ asg body=>vc P ih n E h nx g ps asg body
 | .loop c=>ih (.loop c n E h nx)
 | .region _ ⟨l⟩ true=>TY P ih n E h nx l
 | .region _ ⟨l⟩ false=>nk P ih n E h nx l
 | _=>.bad 3 []
def stG (ih:C5→B3) (all:List Oper) (o:Oper) (rest:List Oper) (n:Nat) (E:Tr CV) (h:Tr CB) (nx:Nat) (j:Nat) (want:Bool):B3:=
 (match Cm all j with
  | some t=>(match E.get t with
    | some (.bool b)=>bif fj b want then
     (match ih (.one o n E h nx) with
     | .ok x E h nx=>ih (.ops all rest n E h nx)
     | r=>r)
      else (match Ab E n o.dst (.tup .nil) with | some E=>ih (.ops all rest n E h nx) | none=>.bad 4 [])
    | some (.tup .nil)=>(match Ab E n o.dst (.tup .nil) with | some E=>ih (.ops all rest n E h nx) | none=>.bad 4 [])
    | _=>.bad 5 [])
  | none=>.bad 6 [])
def CZ (P:Program) (pr:wH) (ih:C5→B3) (c:Code) (n:Nat) (E:Tr CV) (h:Tr CB) (nx:Nat):B3:=match ih (.code c n E h nx) with
 | .ok x E h nx=>(match x with
   | .normal=>ih (.loop c n E h nx)
   | x=>.ok x E h nx)
 | r=>r
def TZ (P:Program) (pr:wH) (ih:C5→B3) (all:List Oper) (l:List Oper) (n:Nat) (E:Tr CV) (h:Tr CB) (nx:Nat):B3:=match l with
 | []=>.ok .normal E h nx
 | o :: rest=>match o.guard with
   | none=>(match ih (.one o n E h nx) with
     | .ok x E h nx=>ih (.ops all rest n E h nx)
     | r=>r)
   | some (j,want)=>stG ih all o rest n E h nx j want
def Kg (P:Program) (pr:wH) (ih:C5→B3) (o:Oper) (n:Nat) (E:Tr CV) (h:Tr CB) (nx:Nat):B3:=match qv P E h o.op with
 | some c=>(match Ab E n o.dst c with | some E=>.ok .normal E h nx | none=>.bad 7 [])
 | none=>match wm P E h nx o.op with
   | .val c h nx=>(match Ab E n o.dst c with | some E=>.ok .normal E h nx | none=>.bad 8 [])
   | .unit h nx=>(match o.dst with | none=>.ok .normal E h nx | some _=>.bad 10 [])
   | .bad=>Na ih E n h nx o.dst o.op
def vO (l:List Oper) (R:List Nat) (E:Tr CV):Tr CV:=List.rec E (fun j _ ih=>match Cm l j with | some d=>ih.set none uW d | none=>ih) R
def Ax (P:Program) (l:List Oper) (R:List Nat) (n:Nat) (E:Tr CV) (h:Tr CB) (nx:Nat):Bool:=
 Kf (fun j=>Rs l j fun o=>(match o.dst with | some d=>Nat.ble (Nat.succ d) n | none=>false) && (match wm P E h nx o.op with | .val _ _ _=>true | _=>false)) R
def Kh (P:Program) (pr:wH) (ih:C5→B3) (l:List Oper) (plan:List (Nat×Pk)) (pend:List (Nat×Nat×Nat)) (n:Nat) (E:Tr CV) (h:Tr CB) (nx:Nat):B3:=match plan with
 | []=>.ok .normal E h nx
 | (i,.look) :: plan=>match Ic l i with
   | some o=>(match ZV l E o with
     | some g=>(bif g then (match qv P E h o.op with
      | some c=>(match Ab E n o.dst c with
        | some E'=>ih (.reg l plan (match TG E o.op with | some t=>(t,i,nx) :: pend | none=>pend) n E' h nx)
        | none=>.bad 25 [o])
      | none=>.bad 26 [o])
      else (match Ab E n o.dst (.tup .nil) with | some E=>ih (.reg l plan pend n E h nx) | none=>.bad 27 [o]))
     | none=>.bad 30 [o])
   | none=>.bad 31 []
 | (i,.only) :: plan=>match Ic l i with
   | some o=>(match ZV l E o with
     | some g=>(bif g then (match ih (.one o n E h nx) with
      | .ok _ E h nx=>bif zR h (vE o pend) then ih (.reg l plan (vE o pend) n E h nx) else .bad 28 [o]
      | r=>r)
      else (match Ab E n o.dst (.tup .nil) with | some E=>ih (.reg l plan (vE o pend) n E h nx) | none=>.bad 29 [o]))
     | none=>.bad 30 [o])
   | none=>.bad 31 []
 | (i,.race R) :: plan=>match Ic l i with
   | some o=>bif Ax P l R n (vO l R E) h nx then (match ih (.one o n (vO l R E) h nx) with
    | .ok _ E h nx=>bif zR h (vE o pend) then ih (.reg l plan (vE o pend) n E h nx) else .bad 28 [o]
    | r=>r) else .bad 32 [o]
   | none=>.bad 31 []
 | (i,.make R) :: plan=>match Ic l i with
   | some o=>bif Ax P l R n (vO l R E) h nx then (match wm P (vO l R E) h nx o.op with
    | .val c h nx=>(match Ab (vO l R E) n o.dst c with | some E=>ih (.reg l plan (vE o pend) n E h nx) | none=>.bad 33 [o])
    | _=>.bad 34 [o]) else .bad 35 [o]
   | none=>.bad 31 []
def nl (P:Program) (pr:wH) (ih:C5→B3) (t:Nat) (args:CV) (h:Tr CB) (nx:Nat):B3:=match h.get t with
 | some (.lp E n ps asg body st _ _)=>bif CY st && (Ze asg && (Ze body && Nat.ble n 100000)) then
   (match pk n ps args E with
   | some E1=>match ih (.code asg n E1 h nx) with
     | .ok .normal E2 h2 nx2=>(match h2.get t with
       | some (.lp E0 n0 ps0 as0 body0 st0 p0 _)=>bif CY st0 && Nat.ble (Nat.succ nx2) uW then
         (match ih (.code body n E2 (h2.set (some (.lp E0 n0 ps0 as0 body0 .busy p0 nx2)) uW t) (Nat.succ nx2)) with
         | .ok x _ h3 nx3=>(match h3.get t with
           | some (.lp E4 n4 ps4 as4 body4 _ _ _)=>bif Nat.ble (Nat.succ nx3) uW then
             (match NP x with
             | some none=>.ret (.bool true) (h3.set (some (.lp E4 n4 ps4 as4 body4 .ready none nx3)) uW t) (Nat.succ nx3)
             | some (some c)=>.ret (.bool false) (h3.set (some (.lp E4 n4 ps4 as4 body4 .done (some c) nx3)) uW t) (Nat.succ nx3)
             | none=>.bad 46 []) else .bad 47 []
           | _=>.bad 48 [])
         | .ret _ _ _=>.bad 49 []
         | r=>r) else .bad 50 []
       | _=>.bad 54 [])
     | .ok _ _ _ _=>.bad 55 []
     | .ret _ _ _=>.bad 56 []
     | r=>r
   | none=>.bad 57 []) else .bad 58 []
 | _=>.bad 59 []
def nm (P:Program) (pr:wH) (ih:C5→B3) (f:Nat) (args:CV) (h:Tr CB) (nx:Nat):B3:=match uy pr f with
 | some g=>(match g args with | some v=>.ret v h nx | none=>.bad 60 [])
 | none=>match pj P f with
 | some fn=>(match fn.body with
   | some c=>bif Nat.ble (vP args) fn.ntmps && Nat.ble fn.ntmps 100000 then (match ih (.code c fn.ntmps (CW args 0 .e) h nx) with
     | .ok x E h nx=>(match x with
       | .normal=>(match CX P E h fn.results.toList with | some v=>.ret v h nx | none=>.bad 16 [])
       | .ret=>(match CX P E h fn.results.toList with | some v=>.ret v h nx | none=>.bad 16 [])
       | _=>.bad 17 [])
     | .ret _ _ _=>.bad 18 []
     | r=>r) else .bad 19 []
   | none=>.bad 20 [])
 | none=>.bad 21 []
def step (P:Program) (pr:wH) (ih:C5→B3):C5→B3
 | .code c n E h nx=>stC P ih n E h nx c
 | .loop c n E h nx=>CZ P pr ih c n E h nx
 | .ops all l n E h nx=>TZ P pr ih all l n E h nx
 | .one o n E h nx=>Kg P pr ih o n E h nx
 | .reg l plan pend n E h nx=>Kh P pr ih l plan pend n E h nx
 | .round t args h nx=>nl P pr ih t args h nx
 | .call f args h nx=>nm P pr ih f args h nx
def run (P:Program) (pr:wH) (fuel:Nat):C5→B3:=Nat.rec (fun _=>.bad 0 []) (fun _ ih=>step P pr ih) fuel
structure Nx (ρ:Pl) (h:Tr CB) (nx:Nat) (w:World) (ρ':Pl) (h':Tr CB) (nx':Nat) (w':World):Prop where
 le:nx≤nx'
 fit:nx'≤uW
 ext:F8 nx ρ ρ'
 old:Tp ρ h nx w ρ' h' w'
theorem Nx.refl {ρ:Pl} {h:Tr CB} {nx:Nat} {w:World} (hf:nx≤uW):Nx ρ h nx w ρ h nx w:=⟨aG _,hf,dT _ _,gW⟩
theorem Nx.trans {Φ:A3→Prop} {w0:E5 Φ} {ρ ρ' ρ2:Pl} {h h' h2:Tr CB} {nx nx' nx2:Nat} {w w' w2:World} (hm:Mem ρ w0 h nx w) (a:Nx ρ h nx w ρ' h' nx' w') (b:Nx ρ' h' nx' w' ρ2 h2 nx2 w2):Nx ρ h nx w ρ2 h2 nx2 w2:=
 ⟨aP a.le b.le,b.fit,a.ext.trans b.ext a.le,a.old.trans hm b.old a.le a.ext⟩
def NQ (l:List Oper) (i j:Nat):Prop:=∃ o,l[j]?=some o∧Ee o.op=false∧Rq o i=true
def CP (l:List Oper) (cs:List (Nat×Nat×Obj)) (L:Array Bool) (w:World):Prop:=∀ x∈cs,(∀ j,NQ l x.1 j→L.getD j false=false)→w.heap[x.2.1]?=some x.2.2
def YU (l:List Oper) (L:Array Bool):Prop:=∀ j o,l[j]?=some o→L.getD j false=true→∀ e∈o.after,Region.binds .any e=true→L.getD e.on false=true
def E6 (l:List Oper) (L:Array Bool) (ρ:Pl) (w:World) (nx:Nat) (pend:List (Nat×Nat×Nat)) (cs:List (Nat×Nat×Obj)):Prop:=
 ∀ x∈cs,(∃ j,NQ l x.1 j∧L.getD j false=true)∨∃ t bound,(t,x.1,bound)∈pend∧t<nx∧(ρ t).1=x.2.1∧bound≤nx∧w.heap[x.2.1]?=some x.2.2
theorem E6.cp {l:List Oper} {L:Array Bool} {ρ:Pl} {w:World} {nx:Nat} {pend:List (Nat×Nat×Nat)} {cs:List (Nat×Nat×Obj)} (h:E6 l L ρ w nx pend cs):CP l cs L w:=fun x hx hw=>by
 rcases h x hx with ⟨j,h1,h2⟩ | ⟨t,b,_,_,_,_,h3⟩
 · rw [hw j h1] at h2;cases h2
 exact h3
structure D6 where
 j:Nat
 p:Nat
 o:Obj
 V:Nat→Value
structure EOk (P:Program) (l:List Oper) (ρ:Pl) (h:Tr CB) (a:Act) (w ws:World) (e:D6):Prop where
 ex:∃ oj d,l[e.j]?=some oj∧Rr oj=true∧oj.dst=some d∧a.tmps[d]?=some (e.V e.p)∧∀ w2,(execOp a.eval oj).run P w2=.ok (.value (e.V w2.heap.size)) (w2.alloc e.o)
 lt:e.p<w.heap.size
 at_:w.heap[e.p]?=some e.o
 ge:ws.heap.size≤e.p
 un:∀ t b,h.get t=some b→(ρ t).1≠e.p
structure LR (L:Array Bool) (S:List D6) (Lm:Array Bool):Prop where
 size:Lm.size=L.size
 iff:∀ j,Lm.getD j false=true↔(L.getD j false=true∨∃ e∈S,e.j=j)
 un:∀ e∈S,L.getD e.j true=false
structure RI {Φ:A3→Prop} (P:Program) (l:List Oper) (n:Nat) (E:Tr CV) (h:Tr CB) (nx:Nat) (pend:List (Nat×Nat×Nat)) (ρ ρs:Pl) (w0:E5 Φ) (a:Act) (w ws:World) (hs:Tr CB) (Nc:Nat) (L Lm:Array Bool) (Rc:List Nat) (S:List D6) (cs:List (Nat×Nat×Obj)):Prop where
 rel:F1 ρ w0 n E h nx a w
 lr:LR L S Lm
 down:YU l Lm
 sub:∀ e∈S,e.j∈Rc
 ndj:(S.map (·.j)).Nodup
 ndp:(S.map (·.p)).Nodup
 eok:∀ e∈S,EOk P l ρ h a w ws e
 pend:E6 l Lm ρ w nx pend cs
 ms:Mem ρs w0 hs Nc ws
 nxb:Nx ρs hs Nc ws ρ h nx w
def H8 (d:Option Nat) (a a':Act):Prop:=∀ i,d≠some i→a'.tmps[i]?=a.tmps[i]?
def uP (P:Program) (Φ:A3→Prop):C5→B3→Prop
 | .code c n E h nx,.ok x E' h' nx'=>∀ (r:Option Nat) (ρ:Pl) (w0:E5 Φ) (a:Act) (w:World),F1 ρ w0 n E h nx a w→nx≤uW→n≤100000→(r=none∨Ze c=true)→
  ∀ Q:Exit→Act→World→Prop,(∀ ρ' a' w',Nx ρ h nx w ρ' h' nx' w'→F1 ρ' w0 n E' h' nx' a' w'→Q x a' w')→c.wpIn (FF r) 0 P Q a w
 | .loop c n E h nx,.ok x E' h' nx'=>∀ (r:Option Nat) (ρ:Pl) (w0:E5 Φ) (a:Act) (w:World),F1 ρ w0 n E h nx a w→nx≤uW→n≤100000→(r=none∨Ze c=true)→
  ∀ Q:Exit→Act→World→Prop,(∀ ρ' a' w',Nx ρ h nx w ρ' h' nx' w'→F1 ρ' w0 n E' h' nx' a' w'→Q x a' w')→Kv r P c Q a w
 | .ops all l n E h nx,.ok x E' h' nx'=>x=.normal∧∀ (ρ:Pl) (w0:E5 Φ) (a:Act) (w:World),F1 ρ w0 n E h nx a w→nx≤uW→n≤100000→
  ∀ K:Act→World→Prop,(∀ ρ' a' w',Nx ρ h nx w ρ' h' nx' w'→F1 ρ' w0 n E' h' nx' a' w'→K a' w')→uZ P all.toArray l a w K
 | .one o n E h nx,.ok x E' h' nx'=>x=.normal∧∀ (ρ:Pl) (w0:E5 Φ) (a:Act) (w:World),F1 ρ w0 n E h nx a w→nx≤uW→n≤100000→
  ∀ K:Act→World→Prop,(∀ ρ' a' w',Nx ρ h nx w ρ' h' nx' w'→F1 ρ' w0 n E' h' nx' a' w'→H8 o.dst a a'→K a' w')→Ag P o a w K
 | .call f args h nx,.ret v h' nx'=>wJ P f∧∀ (ρ:Pl) (w0:E5 Φ) (w:World) (vs:List Value),Mem ρ w0 h nx w→KL nx ρ args vs→nx≤uW→
  Calls P f vs.toArray w (fun e w'=>∃ u ρ',e=.returned u∧Nx ρ h nx w ρ' h' nx' w'∧Kn nx' ρ' v u∧Mem ρ' w0 h' nx' w')
 | .round t args h nx,.ret v h' nx'=>∀ (ρ:Pl) (w0:E5 Φ) (w:World) (vs:List Value),Mem ρ w0 h nx w→KL nx ρ args vs→nx≤uW→
  ∃ f tmps assign body,(Instr.yield (ρ t).1 vs.toArray).run P w=.ok (.round (ρ t).1 f tmps assign body) w∧
   RoundIn Fence.wide 0 P (ρ t).1 f tmps assign body w (fun e w'=>∃ u ρ',e=.returned u∧Nx ρ h nx w ρ' h' nx' w'∧Kn nx' ρ' v u∧Mem ρ' w0 h' nx' w')
 | .reg l plan pend n E h nx,.ok x E' h' nx'=>x=.normal∧∀ (ρ ρs:Pl) (w0:E5 Φ) (a:Act) (w ws:World) (hs:Tr CB) (Nc:Nat) (L Lm:Array Bool) (Rc:List Nat) (S:List D6) (cs:List (Nat×Nat×Obj)) (f:Nat),RI P l n E h nx pend ρ ρs w0 a w ws hs Nc L Lm Rc S cs→nx≤uW→n≤100000→
  Region.noSelect l.toArray=true→C7 l L Rc plan→plan.length=f+S.length→
  ∀ K:Act→World→Prop,(∀ ρ' a' w',Nx ρs hs Nc ws ρ' h' nx' w'→F1 ρ' w0 n E' h' nx' a' w'→K a' w')→gm P l.toArray K (CP l cs) f Lm a w
 | _,.bad _ _=>True
 | _,_=>False
section
variable {P:Program} {Φ:A3→Prop} {pr:wH} {nx nx' n:Nat} {ρ ρ':Pl} {w0:E5 Φ} {w w':World} {E:Tr CV} {h h':Tr CB} {a:Act}
theorem B4.up (hs:B4 ρ E nx n a) (hn:nx≤nx') (he:F8 nx ρ ρ'):B4 ρ' E nx' n a:=⟨hs.1,fun i x hx=>by
 obtain ⟨v,h1,h2⟩:=hs.2 i x hx;exact ⟨v,h1,h2.up hn he⟩⟩
theorem xU (hs:B4 ρ E nx n a) {d:Option Nat} {c:CV} {v:Value} {E':Tr CV} (hn:n≤100000) (hp:Ab E n d c=some E') (hk:Kn nx ρ c v):B4 ρ E' nx n (a.put d v):=by
 cases d with
 | none=>cases hp;exact hs
 | some d =>
   have hp':(bif Nat.ble (Nat.succ d) n then some (E.set (some c) uW d) else none)=some E':=hp;rcases uN hp' with ⟨h1,h2⟩ | ⟨_,h2⟩
   · cases h2;have hd:d<n:=bK h1;refine ⟨by show (a.tmps.setIfInBounds d v).size=n;simp [hs.1],fun i x hx=>?_⟩;rw [fE (some c) uW E d i (by rw [Rm];omega)] at hx;show ∃ u,(a.tmps.setIfInBounds d v)[i]?=some u∧_;by_cases e:i=d
     · subst e;rw [aM rfl] at hx;cases hx;exact ⟨v,by simp [hs.1,hd],hk⟩
     rw [aE e] at hx;obtain ⟨u,h1,h2⟩:=hs.2 i x hx;exact ⟨u,by rw [jE (rM e)];exact h1,h2⟩
   cases h2
theorem Sc:Kn nx ρ (.tup .nil) undef:=⟨I8,rQ.2 ⟨[],U,U⟩⟩
theorem Bz (a:Act) (d:Option Nat) (v:Value):(a.put d v).defers=a.defers:=by cases d <;> rfl
theorem Hz (hs:B4 ρ E nx n a) {all:List Oper} {j t:Nat} {b:Bool} (hd:Cm all j=some t) (he:E.get t=some (.bool b)):yielded all.toArray a.tmps j=some b:=by
 obtain ⟨v,h1,h2⟩:=hs.2 t _ he;rw [sV.1 h2.2] at h1;rw [Dp] at hd;unfold yielded;have:(all.toArray[j]?).bind (·.dst)=some t:=by simpa using hd
 rw [this];simp [h1]
theorem Sd (hs:B4 ρ E nx n a) {all:List Oper} {j t:Nat} (hd:Cm all j=some t) (he:E.get t=some (.tup .nil)):yielded all.toArray a.tmps j=none:=by
 obtain ⟨v,h1,h2⟩:=hs.2 t _ he;obtain ⟨vs,h3,h4⟩:=rQ.1 h2.2;have:vs=[]:=h3;subst this;rw [h4] at h1;rw [Dp] at hd;unfold yielded;have:(all.toArray[j]?).bind (·.dst)=some t:=by simpa using hd
 rw [this];simp [h1]
theorem Mem.cong {h2:Tr CB} (hm:Mem ρ w0 h nx w) (e:∀ t,h2.get t=h.get t):Mem ρ w0 h2 nx w:=
 ⟨hm.upd,fun t b ht=>hm.own t b (by rw [←e];exact ht),fun t t' b b' h1 h2=>hm.one t t' b b' (by rw [←e];exact h1) (by rw [←e];exact h2),hm.imm,hm.nod,fun b hb=>⟨(hm.kept b hb).1,(hm.kept b hb).2.1,fun t c ht=>(hm.kept b hb).2.2 t c (by rw [←e];exact ht)⟩⟩
theorem H6.cong {h2:Tr CB} (ho:Tp ρ h nx w ρ' h' w') (e:∀ t,h2.get t=h'.get t):Tp ρ h nx w ρ' h2 w':=⟨fun t b ht=>ho.old t b (by rw [←e];exact ht),ho.fr,fun t b ht=>ho.nw t b (by rw [←e];exact ht),ho.sz⟩
theorem H8.put (a:Act) (d:Option Nat) (v:Value):H8 d a (a.put d v):=fun i hi=>by
 cases d with
 | none=>rfl
 | some d =>
   show (a.tmps.setIfInBounds d v)[i]?=_;rw [jE (fun e=>hi (by rw [e]))]
abbrev qK:=@H8.put
theorem H8.refl (d:Option Nat) (a:Act):H8 d a a:=fun _ _=>rfl
def nn (P:Program) (Q:Exit→Act→World→Prop) (p:Option Code) (a:Act) (w:World):Prop:=match p with
 | none=>Q .normal a w
 | some c=>c.wpIn (FF none) 0 P Q a w
theorem UA {g:Operand} {f:Nat} {cap:CV} {ps:List Nat} {asg body:Code} {v:CV} {h':Tr CB} {nx':Nat} {E4:Tr CV} {n4:Nat} {ps4:List Nat} {as4 body4:Code} {st:LoopState} {p0:Option Code} {stm:Nat}
 (hg:wA E g=some (.fn f .nil cap)) (hfit:Nat.ble (Nat.succ nx) uW=true) (H1:uP P Φ (.call f (.cons (.yl nx) cap) (h.set (some (.lp E n ps asg body .ready none nx)) uW nx) (Nat.succ nx)) (.ret v h' nx'))
 (hlp:h'.get nx=some (.lp E4 n4 ps4 as4 body4 st p0 stm)) (hst:Yx st=false) (hfit':Nat.ble (Nat.succ nx') uW=true)
 (ρ:Pl) (w0:E5 Φ) (a:Act) (w:World) (hR:F1 ρ w0 n E h nx a w) (hf:nx≤uW) (hn:n≤100000) (Q:Exit→Act→World→Prop)
 (hQ:∀ ρ' a' w',Nx ρ h nx w ρ' (h'.set none uW nx) (Nat.succ nx') w'→F1 ρ' w0 n E (h'.set none uW nx) (Nat.succ nx') a' w'→nn P Q p0 a' w') :
 (Code.rangeFunc g ⟨ps⟩ asg body).wpIn (FF none) 0 P Q a w:=by
 obtain ⟨os,hR⟩:=hR;obtain ⟨isf,H1⟩:=H1;have hf1:=vC hfit;refine wpIn_rangeFunc fun fn _=>?_;obtain ⟨q,hq⟩:∃ q:Loop,q={ state:=.ready,pending:=none,fn,tmps:=a.tmps,params:=ps.toArray,assign:=asg,body,defers:=w.heap.size }:=⟨_,U⟩
 obtain ⟨gv,e1,k1⟩:=uQ hR.slots hg;obtain ⟨xs,ys,kx,ky,rfl⟩:=Ly k1;have hx0:xs=[]:=kx.2;subst hx0;obtain ⟨m1,o1⟩:=hR.mem.keep;have hsz:(w.alloc (.deferred (some []))).heap.size=w.heap.size+1:=World.size_alloc ..;obtain ⟨ρ1,x1,p1,m2,o2⟩:=m1.new (b:=.lp E n ps asg body .ready none nx) (o:=.loop q) (s:=0) (w':=(w.alloc (.deferred (some []))).alloc (.loop q)) hf1 U (wQ _ _) (wV _ _) (vQ _ _)
  ⟨q,U,by rw [hq],by rw [hq],by rw [hq],by rw [hq],by rw [hq],by rw [hq];exact hR.slots.1,fun i x hx=>by rw [hq];exact hR.slots.2 i x hx⟩
 rw [hsz] at p1;obtain ⟨fnn,hf1',hf2,hf3⟩:=isf;refine ⟨w.heap.size+1,[mark w.heap.size],(w.alloc (.deferred (some []))).alloc (.loop q),{ target:=.fn (.func f) ys.toArray,args:=#[.func (.yield (w.heap.size+1)) #[] #[]] },(w.alloc (.deferred (some []))).alloc (.loop q),f,
  (.func (.yield (w.heap.size+1)) #[] #[] :: ys).toArray,(w.alloc (.deferred (some []))).alloc (.loop q),?_,?_,?_,?_,fun h=>by simp [FF] at h,?_⟩
 · have:=run_enterLoop_outer (P:=P) (w:=w) fn a.tmps ps.toArray asg body;rw [hq];exact this
 · have hev:Act.eval a g=.func (.func f) #[] ys.toArray:=wU e1;simp only [resolve,hev];simp [go_sem]
 · intro f' hf';trivial
 · simp [invoke,Az _ _ hf1' hf2 hf3]
 have hky:KL (nx+1) ρ1 cap ys:=ky.up (dL _) x1;have hyl:Kn (nx+1) ρ1 (.yl nx) (.func (.yield (w.heap.size+1)) #[] #[]):=⟨dB _,by show _=_;rw [p1]⟩
 have hC:=H1 ρ1 ⟨w0.w,w.heap.size :: (os++w0.ks),w0.G,w0.ok,w0.s⟩ _ (.func (.yield (w.heap.size+1)) #[] #[] :: ys) m2 (qT hyl hky) hf1;refine zS.2 (hC.mono fun ex w' ⟨u,ρ2,h1,h2,h3,h4⟩=>?_);subst h1;have hb:=h4.own nx _ hlp;have e3:ρ2 nx=ρ1 nx:=h2.ext nx (dB _);rw [e3,p1] at hb;obtain ⟨_,_,_,o,ho,hdb⟩:=hb;obtain ⟨q4,rfl,g1,g2,g3,g4,g5,g6,g7⟩:=hdb;have hend:(Instr.endLoop (w.heap.size+1)).run P w'=.ok q4.pending (w'.putObj (w.heap.size+1) (.loop { q4 with state:=.exhausted })):=run_endLoop ho (by rw [g1];intro hh;subst hh;cases hst);have hlt:=(cK.1 ho).1;have e4:(ρ2 nx).1=w.heap.size+1:=by rw [e3,p1]
 have hfit2:=vC hfit';obtain ⟨m3,o3⟩:=h4.write (b':=.lp E4 n4 ps4 as4 body4 .exhausted p0 nx') (o:=.loop { q4 with state:=.exhausted }) (w':=w'.putObj (w.heap.size+1) (.loop { q4 with state:=.exhausted })) uJ U hlp
  (by rw [e4];exact xD w' _ _) (by rw [e4];exact gD hlt) ⟨_,U,U,g2,g3,g4,g5,g6,fun i x hx=>g7 i x hx⟩
 have hnx:nx<nx':=h2.le;obtain ⟨m4,o4⟩:=m3.kill hfit2 (t:=nx) uJ;have hset:∀ t,(h'.set none uW nx).get t=((h'.set (some (CB.lp E4 n4 ps4 as4 body4 .exhausted p0 nx')) uW nx).set none uW nx).get t:=fun t=>by
  rw [fE _ _ _ _ _ uJ,fE _ _ _ _ _ uJ,fE _ _ _ _ _ uJ];split <;> rfl
 have m4:=m4.cong hset;have o4:=o4.cong hset;have hnxx:Nx ρ h nx w ρ2 (h'.set none uW nx) (Nat.succ nx') (w'.putObj (w.heap.size+1) (.loop { q4 with state:=.exhausted })):=by
  have a1:Nx ρ h nx w ρ h nx (w.alloc (.deferred (some []))):=⟨aG _,hf,dT _ _,o1⟩
  have a2:Nx ρ h nx (w.alloc (.deferred (some []))) ρ1 _ (nx+1) _:=⟨dL _,hf1,x1,o2⟩
  have a3:=(a1.trans hR.mem a2).trans hR.mem h2;have a4:Nx ρ2 h' nx' w' ρ2 _ (nx'+1) _:=⟨dL _,hfit2,dT _ _,o3⟩
  have a5:=a3.trans hR.mem a4;exact a5.trans hR.mem ⟨aG _,hfit2,dT _ _,o4⟩
 have hRel:F1 ρ2 w0 n E (h'.set none uW nx) (Nat.succ nx') { a with defers:=[mark w.heap.size]++a.defers } (w'.putObj (w.heap.size+1) (.loop { q4 with state:=.exhausted })):=
  ⟨w.heap.size :: os,hR.slots.up hnxx.le hnxx.ext,by show [mark w.heap.size]++a.defers=_;rw [hR.defers];rfl,m4,fun b hb=>by
   rcases dK.1 hb with rfl | hb
   · exact hR.ss
   exact hR.mks b hb,aP hR.ss hnxx.old.sz⟩
 have H:=hQ _ _ _ hnxx hRel;rw [←g2] at H;exact ⟨q4.pending,_,hend,H⟩
theorem Ac {ih:C5→B3} (H:∀ c,uP P Φ c (ih c)) (c:Code) (n:Nat) (E:Tr CV) (h:Tr CB) (nx:Nat):uP P Φ (.code c n E h nx) (step P pr ih (.code c n E h nx)):=by
 have quiet:∀ (x:Exit) (c:Code),(∀ (r:Option Nat) (a:Act) (w:World) (Q:Exit→Act→World→Prop),Q x a w→c.wpIn (FF r) 0 P Q a w)→uP P Φ (.code c n E h nx) (.ok x E h nx):=fun x c hc r ρ w0 a w hR hf hn hrr =>
  fun Q hQ=>hc r a w Q (hQ ρ a w (Nx.refl hf) hR)
 cases c with
 | skip=>exact quiet .normal _ fun r a w Q hq=>wpIn_skip hq
 | label l=>exact quiet .normal _ fun r a w Q hq=>wpIn_label hq
 | exit id=>exact quiet (.exit id) _ fun r a w Q hq=>wpIn_exit hq
 | ret=>exact quiet .ret _ fun r a w Q hq=>wpIn_ret hq
 | goto l=>trivial
 | refuse s=>trivial
 | rangeFunc g ps asg body =>
   obtain ⟨ps⟩:=ps;show uP P Φ _ (match wA E g with
    | some (.fn f .nil cap)=>bif Nat.ble (Nat.succ nx) uW then
      (match ih (.call f (.cons (.yl nx) cap) (h.set (some (.lp E n ps asg body .ready none nx)) uW nx) (Nat.succ nx)) with
      | .ret _ h' nx'=>(match h'.get nx with
        | some (.lp _ _ _ _ _ st p _)=>bif Yx st || not (Nat.ble (Nat.succ nx') uW) then .bad 41 [] else
          (match p with
          | none=>.ok .normal E (h'.set none uW nx) (Nat.succ nx')
          | some c=>ih (.code c n E (h'.set none uW nx) (Nat.succ nx')))
        | _=>.bad 42 [])
      | .ok _ _ _ _=>.bad 43 []
      | r=>r) else .bad 44 []
    | _=>.bad 45 [])
   split
   · rename_i f cap hg;refine uU (uP P Φ _) (fun hfit=>?_) fun _=>trivial;have H1:=H (.call f (.cons (.yl nx) cap) (h.set (some (.lp E n ps asg body .ready none nx)) uW nx) (Nat.succ nx));generalize ih (.call f (.cons (.yl nx) cap) (h.set (some (.lp E n ps asg body .ready none nx)) uW nx) (Nat.succ nx))=q at H1;cases q with
     | bad=>trivial
     | ok _ _ _ _=>trivial
     | ret v h' nx' =>
       show uP P Φ _ (match h'.get nx with
        | some (.lp _ _ _ _ _ st p _)=>bif Yx st || not (Nat.ble (Nat.succ nx') uW) then .bad 41 [] else
          (match p with
          | none=>.ok .normal E (h'.set none uW nx) (Nat.succ nx')
          | some c=>ih (.code c n E (h'.set none uW nx) (Nat.succ nx')))
        | _=>.bad 42 [])
       split
       · rename_i E4 n4 ps4 as4 body4 st p stm hlp;refine uU (uP P Φ _) (fun _=>trivial) fun hbz=>?_;rw [Bool.or_eq_false_iff,Bool.not_eq_false'] at hbz;have hgo:=UA (P:=P) (Φ:=Φ) (ps:=ps) (asg:=asg) (body:=body) hg hfit H1 hlp hbz.1 hbz.2;cases p with
         | none =>
           intro r ρ w0 a w hR hf hn hrr Q hQ;have hr0:r=none:=hrr.elim id (fun q=>by cases (show (false:Bool)=true from q));subst hr0;exact hgo ρ w0 a w hR hf hn Q fun ρ' a' w' e1 e2=>hQ ρ' a' w' e1 e2
         | some c =>
           show uP P Φ _ (ih (.code c n E (h'.set none uW nx) (Nat.succ nx')));have H2:=H (.code c n E (h'.set none uW nx) (Nat.succ nx'));generalize ih (.code c n E (h'.set none uW nx) (Nat.succ nx'))=q2 at H2;cases q2 with
           | bad=>trivial
           | ret _ _ _=>exact H2.elim
           | ok x2 E2 h2 nx2 =>
             intro r ρ w0 a w hR hf hn hrr Q hQ;have hr0:r=none:=hrr.elim id (fun q=>by cases (show (false:Bool)=true from q));subst hr0;exact hgo ρ w0 a w hR hf hn Q fun ρ' a' w' e1 e2=>H2 none ρ' w0 a' w' e2 e1.fit hn (.inl U) Q fun ρ2 a2 w2 f1 f2=>hQ ρ2 a2 w2 (e1.trans hR.mem f1) f2
       trivial
   · trivial
 | region id ops draw =>
   obtain ⟨l⟩:=ops;cases draw with
   | true =>
     show uP P Φ _ (bif P.follows .mixedOrders then (match Rx l with
      | some p=>ih (.reg l p [] n E h nx)
      | none=>.bad 23 l) else .bad 24 [])
     cases hmx:P.follows .mixedOrders with
     | false=>trivial
     | true =>
       simp only [iA];split
       · rename_i p hp;have H1:=H (.reg l p [] n E h nx);generalize ih (.reg l p [] n E h nx)=q at H1;cases q with
         | bad=>trivial
         | ret v h' nx'=>exact H1.elim
         | ok x E' h' nx' =>
           obtain ⟨rfl,H1⟩:=H1;obtain ⟨hns,hnd,hpl,hlen⟩:=TP hp;intro r ρ w0 a w hR hf hn hrr Q hQ;have hR':F1 ρ w0 n E h nx a w.drew:=by
            obtain ⟨os,hR⟩:=hR;exact ⟨os,hR.slots,hR.defers,⟨hR.mem.upd.drew,hR.mem.own,hR.mem.one,hR.mem.imm,hR.mem.nod,hR.mem.kept⟩,hR.mks,hR.ss⟩
           have hg:=H1 ρ ρ w0 a w.drew w.drew h nx (Array.replicate l.length false) (Array.replicate l.length false) [] [] [] p.length ⟨hR',⟨U,fun j=>⟨.inl,fun h=>h.elim (fun q=>q) fun ⟨_,h,_⟩=>by cases h⟩,fun e he=>by cases he⟩,(fun j o hj hl=>by
            rw [(LM.start l).2,uD] at hl;cases hl),(fun e he=>by cases he),mS,mS,(fun e he=>by cases he),(fun x hx=>by cases hx),hR'.mem,Nx.refl hf⟩ hf hn hns hpl U (Q .normal) fun ρ' a' w' e1 e2=>hQ ρ' a' w' ⟨e1.le,e1.fit,e1.ext,⟨e1.old.old,e1.old.fr,e1.old.nw,e1.old.sz⟩⟩ e2
           rw [hlen] at hg;have:=Om (r:=r) (n:=0) (by simpa using hnd) _ _ _ _ hg;exact wpIn_region_any hmx (by simpa using this)
       · trivial
   | false =>
     show uP P Φ _ (bif l.all vT then ih (.ops l l n E h nx) else .bad 2 []);cases hd:l.all vT with
     | false=>trivial
     | true =>
       show uP P Φ _ (ih (.ops l l n E h nx));have H1:=H (.ops l l n E h nx);generalize ih (.ops l l n E h nx)=q at H1;cases q with
       | bad=>trivial
       | ret v h' nx'=>exact H1.elim
       | ok x E' h' nx' =>
         obtain ⟨rfl,H1⟩:=H1;intro r ρ w0 a w hR hf hn hrr Q hQ;exact wpIn_region_lit (Ce l a w hd (H1 ρ w0 a w hR hf hn _ hQ))
 | scope c =>
   show uP P Φ _ (match ih (.code c n E h nx) with
    | .ok x E h nx=>(match x with
      | .normal=>.ok .normal E h nx
      | .ret=>.ok .ret E h nx
      | .exit id=>.ok (.exit id) E h nx
      | _=>.bad 22 [])
    | r=>r)
   have H1:=H (.code c n E h nx);generalize ih (.code c n E h nx)=q at H1;cases q with
   | bad=>trivial
   | ret v h' nx'=>exact H1.elim
   | ok x E' h' nx' =>
     have go:(∀ Q:Exit→Act→World→Prop,∀ a w,Q x a w→Xe Q x a w)→uP P Φ (.code (.scope c) n E h nx) (.ok x E' h' nx'):=fun hx r ρ w0 a w hR hf hn hrr Q hQ =>
      Ou (H1 r ρ w0 a w hR hf hn hrr _ fun ρ' a' w' e1 e2=>hx Q _ _ (hQ ρ' a' w' e1 e2))
     cases x with
     | normal=>exact go fun Q a w hq=>hq
     | ret=>exact go fun Q a w hq=>hq
     | exit id=>exact go fun Q a w hq=>hq
     | _=>trivial
 | loop c =>
   show uP P Φ _ (ih (.loop c n E h nx));have H1:=H (.loop c n E h nx);generalize ih (.loop c n E h nx)=q at H1;cases q with
   | bad=>trivial
   | ret v h' nx'=>exact H1.elim
   | ok x E' h' nx' =>
     intro r ρ w0 a w hR hf hn hrr Q hQ b k cs hro hb' hr;obtain ⟨e,a',w',hq,harr⟩:=H1 r ρ w0 a w hR hf hn hrr Q hQ b k cs hro hb' hr;exact ⟨e,a',w',hq,.of_steps (.one (nZ hb' hr U) stepR_loop) harr⟩
 | cond c x y =>
   show uP P Φ _ (match wA E c with
    | some (.bool t)=>ih (.code (bif t then x else y) n E h nx)
    | _=>.bad 1 [])
   split
   · rename_i t ht;have H1:=H (.code (bif t then x else y) n E h nx);generalize ih (.code (bif t then x else y) n E h nx)=q at H1;cases q with
     | bad=>trivial
     | ret v h' nx'=>exact H1.elim
     | ok x' E' h' nx' =>
       intro r ρ w0 a w hR hf hn hrr Q hQ;obtain ⟨v,e1,g1⟩:=uQ hR.slots ht;have e2:a.eval c=.bool t:=by rw [←sV.1 g1.2];exact wU e1
       refine wpIn_cond e2 ?_;have:=H1 r ρ w0 a w hR hf hn (hrr.imp id fun q=>by have q':(Ze x && Ze y)=true:=q;rw [aB] at q';cases t <;> first | exact q'.1 | exact q'.2) Q hQ;cases t <;> exact this
   · trivial
 | seq x y =>
   show uP P Φ _ (match ih (.code x n E h nx) with
    | .ok x E h nx=>(match x with
      | .normal=>ih (.code y n E h nx)
      | x=>.ok x E h nx)
    | r=>r)
   have H1:=H (.code x n E h nx);generalize ih (.code x n E h nx)=q at H1;cases q with
   | bad=>trivial
   | ret v h' nx'=>exact H1.elim
   | ok x' E' h' nx' =>
     have pass:x'≠.normal→uP P Φ (.code (.seq x y) n E h nx) (.ok x' E' h' nx'):=fun hx=>by
      intro r ρ w0 a w hR hf hn hrr Q hQ;refine wpIn_seq (H1 r ρ w0 a w hR hf hn (hrr.imp id fun q=>(aB _ _▸(show (Ze x && Ze y)=true from q)).1) _ fun ρ' a' w' e1 e2=>?_);have:=hQ ρ' a' w' e1 e2;cases x' <;> first | exact absurd U hx | exact this
     cases x' with
     | normal =>
       show uP P Φ _ (ih (.code y n E' h' nx'));have H2:=H (.code y n E' h' nx');generalize ih (.code y n E' h' nx')=q2 at H2;cases q2 with
       | bad=>trivial
       | ret v h2 nx2=>exact H2.elim
       | ok x2 E2 h2 nx2 =>
         intro r ρ w0 a w hR hf hn hrr Q hQ;refine wpIn_seq (H1 r ρ w0 a w hR hf hn (hrr.imp id fun q=>(aB _ _▸(show (Ze x && Ze y)=true from q)).1) _ fun ρ' a' w' e1 e2=>?_);exact H2 r ρ' w0 a' w' e2 e1.fit hn (hrr.imp id fun q=>(aB _ _▸(show (Ze x && Ze y)=true from q)).2) Q fun ρ2 a2 w2 f1 f2=>hQ ρ2 a2 w2 (e1.trans hR.mem f1) f2
     | _=>exact pass Mf
 | block id c =>
   show uP P Φ _ (match ih (.code c n E h nx) with
    | .ok x E h nx=>(match x with
      | .exit id'=>bif Nat.beq id' id then .ok .normal E h nx else .ok (.exit id') E h nx
      | x=>.ok x E h nx)
    | r=>r)
   have H1:=H (.code c n E h nx);generalize ih (.code c n E h nx)=q at H1;cases q with
   | bad=>trivial
   | ret v h' nx'=>exact H1.elim
   | ok x' E' h' nx' =>
     have go:∀ x2,(∀ (Q:Exit→Act→World→Prop) a w,Q x2 a w→Exit.inBlock id Q x' a w)→uP P Φ (.code (.block id c) n E h nx) (.ok x2 E' h' nx'):=fun x2 hx r ρ w0 a w hR hf hn hrr Q hQ =>
      wpIn_block (H1 r ρ w0 a w hR hf hn hrr _ fun ρ' a' w' e1 e2=>hx Q _ _ (hQ ρ' a' w' e1 e2))
     cases x' with
     | exit id' =>
       show uP P Φ _ (bif Nat.beq id' id then .ok .normal E' h' nx' else .ok (.exit id') E' h' nx');cases hb:Nat.beq id' id with
       | true =>
         have e:=aD hb;exact go .normal fun Q a w hq=>by simp only [Exit.inBlock,e,fI];exact hq
       | false =>
         have e:=GJ hb;exact go (.exit id') fun Q a w hq=>by simp only [Exit.inBlock,e,fJ];exact hq
     | normal=>exact go _ fun Q a w hq=>hq
     | ret=>exact go _ fun Q a w hq=>hq
     | goto l=>exact go _ fun Q a w hq=>hq
     | panic ch=>exact go _ fun Q a w hq=>hq
     | outgrown=>exact go _ fun Q a w hq=>hq
theorem Ki {r:Option Nat} {c:Code} {Q:Exit→Act→World→Prop} {a:Act} {w:World} (h:c.wpIn (FF r) 0 P (Exit.then (Kv r P c Q) Q) a w):Kv r P c Q a w:=by
 intro b k cs hro hb' hr;obtain ⟨x,a₁,w₁,hq,harr⟩:=h b (.inLoop c :: k) cs hro hb' hr;cases x with
 | normal =>
   obtain ⟨e₂,a₂,w₂,hq₂,harr₂⟩:=hq b k cs hro hb' hr;exact ⟨e₂,a₂,w₂,hq₂,.of_steps (tA harr (.one (nZ hb' hr U) stepR_inLoop)) harr₂⟩
 | exit id=>exact ⟨_,a₁,w₁,hq,.pass (x:=.inLoop c) U (fun _ _=>.inl vL) harr⟩
 | goto l=>exact ⟨_,a₁,w₁,hq,.pass (x:=.inLoop c) U (fun _ _=>.inl vL) harr⟩
 | ret=>exact ⟨_,a₁,w₁,hq,.pass (x:=.inLoop c) U (fun _ _=>.inl vL) harr⟩
 | panic ch=>exact ⟨_,a₁,w₁,hq,.pass (x:=.inLoop c) U (fun _ _=>.inl vL) harr⟩
 | outgrown=>exact ⟨_,a₁,w₁,hq,.pass (x:=.inLoop c) U (fun _ _=>.inl vL) harr⟩
theorem GL {op:Op} {t:Nat} {c:CV} (hr:TG E op=some t) (hq:qv P E h op=some c):∃ b,h.get t=some b:=by
 unfold TG at hr;split at hr
 · rename_i T x;split at hr
   · rename_i t' o hx;cases hr;have hq':(match wA E x with
      | some (.ptr t o)=>match h.get t with
        | some (.cells l _ _ _)=>bif xB P T then NC l o else
          (match gi P T with
          | some k=>bif Nat.beq (vP (vU l o k)) k then some (.agg (vU l o k)) else none
          | none=>none)
        | _=>none
      | _=>none)=some c:=hq
     rw [hx] at hq';simp only at hq';split at hq'
     · rename_i hb;exact ⟨_,hb⟩
     cases hq'
   cases hr
 · rename_i T x i cc;split at hr
   · rename_i t' hx;cases hr;have hq':ph P E h T x i cc=some c:=hq;unfold ph at hq';rw [hx] at hq';simp only at hq';split at hq'
     · split at hq'
       · rename_i l st hb;exact ⟨_,hb⟩
       · rename_i l st hb;exact ⟨_,hb⟩
       cases hq'
     cases hq'
   cases hr
 cases hr
theorem step_loop {ih:C5→B3} (H:∀ c,uP P Φ c (ih c)) (c:Code) (n:Nat) (E:Tr CV) (h:Tr CB) (nx:Nat):uP P Φ (.loop c n E h nx) (step P pr ih (.loop c n E h nx)):=by
 show uP P Φ _ (match ih (.code c n E h nx) with
  | .ok x E h nx=>(match x with
    | .normal=>ih (.loop c n E h nx)
    | x=>.ok x E h nx)
  | r=>r)
 have H1:=H (.code c n E h nx);generalize ih (.code c n E h nx)=q at H1;cases q with
 | bad=>trivial
 | ret v h' nx'=>exact H1.elim
 | ok x' E' h' nx' =>
   have pass:x'≠.normal→uP P Φ (.loop c n E h nx) (.ok x' E' h' nx'):=fun hx r ρ w0 a w hR hf hn hrr Q hQ=>by
    refine Ki (H1 r ρ w0 a w hR hf hn hrr _ fun ρ' a' w' e1 e2=>?_);have:=hQ ρ' a' w' e1 e2;cases x' <;> first | exact absurd U hx | exact this
   cases x' with
   | normal =>
     show uP P Φ _ (ih (.loop c n E' h' nx'));have H2:=H (.loop c n E' h' nx');generalize ih (.loop c n E' h' nx')=q2 at H2;cases q2 with
     | bad=>trivial
     | ret v h2 nx2=>exact H2.elim
     | ok x2 E2 h2 nx2 =>
       intro r ρ w0 a w hR hf hn hrr Q hQ;refine Ki (H1 r ρ w0 a w hR hf hn hrr _ fun ρ' a' w' e1 e2=>?_);exact H2 r ρ' w0 a' w' e2 e1.fit hn hrr Q fun ρ2 a2 w2 f1 f2=>hQ ρ2 a2 w2 (e1.trans hR.mem f1) f2
   | _=>exact pass Mf
theorem Di {ih:C5→B3} (H:∀ c,uP P Φ c (ih c)) (o:Oper) (n:Nat) (E:Tr CV) (h:Tr CB) (nx:Nat):uP P Φ (.one o n E h nx) (step P pr ih (.one o n E h nx)):=by
 obtain ⟨dst,op,ty,pos,after,g⟩:=o;show uP P Φ _ (match qv P E h op with
  | some c=>(match Ab E n dst c with | some E=>.ok .normal E h nx | none=>.bad 7 [])
  | none=>match wm P E h nx op with
    | .val c h nx=>(match Ab E n dst c with | some E=>.ok .normal E h nx | none=>.bad 8 [])
    | .unit h nx=>(match dst with | none=>.ok .normal E h nx | some _=>.bad 10 [])
    | .bad=>Na ih E n h nx dst op)
 split
 · rename_i c hq;split
   · rename_i E' hp;refine ⟨U,fun ρ w0 a w hR hf hn K hK=>?_⟩;obtain ⟨ob,hob⟩:∃ ob:Nat→Obj,∀ t b,h.get t=some b→w.heap[(ρ t).1]?=some (ob t)∧DB nx ρ (ρ t).2 b (ob t):=by
      refine ⟨fun t=>(w.heap[(ρ t).1]?).getD default,fun t b hb=>?_⟩;obtain ⟨_,_,_,o,h1,h2⟩:=hR.mem.own t b hb;exact ⟨by show _=some ((w.heap[(ρ t).1]?).getD default);rw [h1];rfl,by show DB _ _ _ _ ((w.heap[(ρ t).1]?).getD default);rw [h1];exact h2⟩
     obtain ⟨v,k1,k2⟩:=JF (ob:=ob) hR.slots (fun t b _ hb=>(hob t b hb).2) hq;have hr:(execOp a.eval ⟨dst,op,ty,pos,after,g⟩).run P w=.ok (.value v) w:=by
      refine k2 w (fun t ht=>?_) dst ty pos after g;obtain ⟨b,hb⟩:=GL ht hq;exact (hob t b hb).1
     unfold Ag;rw [hr];exact hK ρ _ w (Nx.refl hf) (hR.put (xU hR.slots hn hp k1)) (qK _ _ _)
   trivial
 have hw:∀ (ρ:Pl) (w0:E5 Φ) (a:Act) (w:World),B4 ρ E nx n a→Mem ρ w0 h nx w→nx≤uW→Wd P op ρ w0 h nx a w (wm P E h nx op):=fun ρ w0 a w hR hm hf=>ng hR hm hf;revert hw;generalize wm P E h nx op=q;intro hw;cases q with
 | val c h' nx' =>
   show uP P Φ _ (match Ab E n dst c with | some E=>.ok .normal E h' nx' | none=>.bad 8 []);split
   · rename_i E' hp;refine ⟨U,fun ρ w0 a w hR hf hn K hK=>?_⟩;obtain ⟨os,hR⟩:=hR;obtain ⟨k1,v,w',ρ',e1,e2,e3,e4,e5,e6⟩:=hw ρ (w0.plus os) a w hR.slots hR.mem hf;unfold Ag;rw [e6 dst ty pos after g];exact hK ρ' _ w' ⟨k1,e4,e1,e5⟩ ⟨os,xU (hR.slots.up k1 e1) hn hp e2,(Bz _ _ _).trans hR.defers,e3,hR.mks,aP hR.ss e5.sz⟩ (qK _ _ _)
   · trivial
 | unit h' nx' =>
   show uP P Φ _ (match dst with | none=>.ok .normal E h' nx' | some _=>.bad 10 []);cases dst with
   | some d=>trivial
   | none =>
     refine ⟨U,fun ρ w0 a w hR hf hn K hK=>?_⟩;obtain ⟨os,hR⟩:=hR;obtain ⟨k1,w',ρ',e1,e3,e4,e5,e6⟩:=hw ρ (w0.plus os) a w hR.slots hR.mem hf;unfold Ag;rw [e6 ty pos after g];exact hK ρ' _ w' ⟨k1,e4,e1,e5⟩ ⟨os,hR.slots.up k1 e1,hR.defers,e3,hR.mks,aP hR.ss e5.sz⟩ (H8.refl _ _)
 | bad =>
   show uP P Φ _ (Na ih E n h nx dst op);unfold Na;split
   · rename_i f args ats _;split
     · rename_i g' fst cap hfv;split
       · rename_i l hl;have H1:=H (.call g' (Df fst (Df l cap)) h nx);generalize ih (.call g' (Df fst (Df l cap)) h nx)=q at H1;cases q with
         | bad=>trivial
         | ok _ _ _ _=>trivial
         | ret v h' nx' =>
           show uP P Φ _ (match Ab E n dst v with | some E=>.ok .normal E h' nx' | none=>.bad 11 []);split
           · rename_i E' hp;obtain ⟨⟨fn,f1,f2,f3⟩,H1⟩:=H1;refine ⟨U,fun ρ w0 a w hR hf hn K hK=>?_⟩;obtain ⟨os,hR⟩:=hR;obtain ⟨fv,e1,k1⟩:=uQ hR.slots hfv;obtain ⟨xs,ys,k2,k3,rfl⟩:=Ly k1;obtain ⟨vs,e2,k4⟩:=Nq hR.slots hl;have hC:=H1 ρ (w0.plus os) w (xs++vs++ys) hR.mem (by rw [cU];exact Gg k2 (Gg k4 k3)) hf;have hrun:(execOp a.eval ⟨dst,.call ⟨.value f,⟨args⟩,ats⟩,ty,pos,after,g⟩).run P w=.ok (.enter g' (xs++vs++ys).toArray) w:=by
              have hargs:(args.map a.eval)=vs:=(lookN a w).evals e2;simp [execOp,resolve,Deferred.ofValue,invoke,wU e1,hargs,Az w _ f1 f2 f3]
             unfold Ag;rw [hrun];refine hC.mono fun e w' ⟨u,ρ',q1,q2,q3,q4⟩=>⟨u,q1,?_⟩
             exact hK ρ' _ w' q2 ⟨os,xU (hR.slots.up q2.le q2.ext) hn hp q3,(Bz _ _ _).trans hR.defers,q4,hR.mks,aP hR.ss q2.old.sz⟩ (qK _ _ _)
           trivial
       trivial
     · rename_i t hfv;split
       · rename_i l hl;have H1:=H (.round t l h nx);generalize ih (.round t l h nx)=q at H1;cases q with
         | bad=>trivial
         | ok _ _ _ _=>trivial
         | ret v h' nx' =>
           show uP P Φ _ (match Ab E n dst v with | some E=>.ok .normal E h' nx' | none=>.bad 51 []);split
           · rename_i E' hp;refine ⟨U,fun ρ w0 a w hR hf hn K hK=>?_⟩;obtain ⟨os,hR⟩:=hR;obtain ⟨fv,e1,k1⟩:=uQ hR.slots hfv;have e3:fv=.func (.yield (ρ t).1) #[] #[]:=k1.2;subst e3;obtain ⟨vs,e2,k4⟩:=Nq hR.slots hl;obtain ⟨f',tmps,assign,body,hy,hC⟩:=H1 ρ (w0.plus os) w vs hR.mem k4 hf;have hrun:(execOp a.eval ⟨dst,.call ⟨.value f,⟨args⟩,ats⟩,ty,pos,after,g⟩).run P w=.ok (.round (ρ t).1 f' tmps assign body) w:=by
              have hargs:(args.map a.eval)=vs:=(lookN a w).evals e2;simp [execOp,resolve,Deferred.ofValue,invoke,wU e1,hargs,hy]
             unfold Ag;rw [hrun];refine hC.mono fun e w' ⟨u,ρ',q1,q2,q3,q4⟩=>⟨u,q1,?_⟩
             exact hK ρ' _ w' q2 ⟨os,xU (hR.slots.up q2.le q2.ext) hn hp q3,(Bz _ _ _).trans hR.defers,q4,hR.mks,aP hR.ss q2.old.sz⟩ (qK _ _ _)
           trivial
       trivial
     trivial
   trivial
end
end Go.Sl.Ev
end
