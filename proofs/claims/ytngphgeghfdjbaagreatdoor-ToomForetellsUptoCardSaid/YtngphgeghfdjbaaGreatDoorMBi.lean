/- uK of the proof (part 9): what the rows' text needs of the texts that lead to it. -/
import Derived.Test.YtngphgeghfdjbaaGreatDoorMBh
set_option linter.unusedVariables false
set_option linter.unusedSimpArgs false
set_option linter.unusedSectionVars false
set_option maxHeartbeats 4000000
noncomputable section
set_option maxRecDepth 100000
namespace Go.Sl.Ev
open Go Go.Sl
section
variable {P:Program} {nx n:Nat} {ρ:Pl} {Φ:Imm→Prop} {w0:Bas Φ} {w:World} {E:Tr CV} {h:Tr CB} {a:Act}
theorem Ab {s x:Operand} {T tx:TypeId} {v1 v2 v:Value} {w':World} (e1:(eA a).ev s=some v1) (e2:(eA a).ev x=some v2) (hr:∀ ty,(Builtin.append_ #[T,tx] ty #[v1,v2]).run P w=.ok v w') (d:Option Tmp) (ty:TypeId) (pos:String) (after:Array Edge) (g:Option (Nat×Bool)) :
 (execOp a.eval ⟨d,.call ⟨.builtin .append,⟨[s,x]⟩,⟨[T,tx]⟩⟩,ty,pos,after,g⟩).run P w=.ok (.value v) w':=by
 simp only [execOp,resolve,invoke,builtin,bG,bL,aP,lO,bY,jH,uZ e1,uZ e2,hr]
theorem Pu {s x:Operand} {T tx:TypeId} {v1 v2 v:Value} {w':World} (e1:(eA a).ev s=some v1) (e2:(eA a).ev x=some v2) (hr:∀ ty,(Builtin.copy_ #[T,tx] ty #[v1,v2]).run P w=.ok v w') (d:Option Tmp) (ty:TypeId) (pos:String) (after:Array Edge) (g:Option (Nat×Bool)) :
 (execOp a.eval ⟨d,.call ⟨.builtin .copy,⟨[s,x]⟩,⟨[T,tx]⟩⟩,ty,pos,after,g⟩).run P w=.ok (.value v) w':=by
 simp only [execOp,resolve,invoke,builtin,bG,bL,aP,lO,bY,jH,uZ e1,uZ e2,hr]
theorem Mi {T tx e:TypeId} {i:TypeInfo} {zv:Value} {sz m N C:Nat} {base:Option Addr} {xv:Value} {olds news:List Value} (hu:P.underlying T=some (.slice e)) (hi:P.info? e=some i) (hz:i.zero=some zv) (hsz:i.size=sz) (hzl:zv.cells.toList.length=sz) (h0:0<sz)
 (hold:(Builtin.firstCells i.size N (.slice base N C)).run P w.drew=.ok olds.toArray w.drew) (ho:olds.length=N*sz) (hs:Go.Src P sz tx xv m news w) (hC:C<N+m) (h1:(N+m)*i.bytes≤140737488355328) (h2:N+m≤4611686018427387904) :
 ∃ cap junk,(∀ ty,(Builtin.append_ #[T,tx] ty #[.slice base N C,xv]).run P w=.ok (.slice (some ⟨w.heap.size,0,none⟩) (N+m) cap) (w.drew.alloc (.cells (olds++news++junk).toArray e)))∧(olds++news).length+junk.length=cap*sz∧N+m≤cap∧cap≤maxLen:=by
 have hge:=grownCap_ge w (N+m) C e
 have hml:N+m≤maxLen:=by simp only [maxLen];omega
 have hle:=rL w (N+m) C e hml
 refine ⟨grownCap w (N+m) C e,(Builtin.zeroCells zv.cells (grownCap w (N+m) C e - (N+m))).toList,fun ty=>?_,?_,hge,hle⟩
 · rw [←hsz] at hs
   have hr:=run_append_grow_src (P:=P) w T tx ty e i zv hu hi hz base N C olds hold xv m news hs hC sV (growslice_fits hC h1)
   rw [hr]
   congr 3
   apply rS
   simp
 have hn:=hs.newsLen
 have e1:zv.cells.size=sz:=by rw [←hzl];simp
 have hz1:(Builtin.zeroCells zv.cells (grownCap w (N+m) C e - (N+m))).toList.length=(grownCap w (N+m) C e - (N+m))*sz:=by rw [lQ,size_zeroCells,e1]
 rw [aI,hz1,ho,hn,←eN,←eN]
 congr 1;omega
theorem zF (w:World) (o:Obj):Upd (fun _=>False) w (w.drew.alloc o):=(kU _ w).drew.alloc o
theorem yG (w:World) (o:Obj):(w.drew.alloc o).heap.size=w.heap.size+1:=by show (w.heap.push o).size=_;simp
theorem zG (w:World) (o:Obj):(w.drew.alloc o).heap[w.heap.size]?=some o:=by
 rw [show w.heap.size=w.drew.heap.size from rfl,uA]
theorem Sb {l:Rw} {vs junk:List Value} (hk:RL nx ρ l vs) (ty:Nat) {st:Nat}:DB nx ρ (vs.length+junk.length) (.cells l ty true st) (.cells (vs++junk).toArray ty (0,0)):=⟨vs,junk,hk,rfl,rfl,fun h=>by cases h⟩
theorem tD {α:Type} {b:Bool} {x y:α} (M:α→Prop) (h1:b=true→M x) (h2:b=false→M y):M (bif b then x else y):=by cases b;exact h2 rfl;exact h1 rfl
theorem tL {a b:Nat} (h:Nat.ble a b=true):a≤b:=bA h
theorem RX {a b:Nat} (h:Nat.ble a b=false):b<a:=by
 rcases aM b a with h1 | h1
 · exact h1
 rw [Nat.ble_eq_true_of_le h1] at h;cases h
theorem Yc {a b:Nat} (h:Nat.beq a b=false):a≠b:=fun e=>by subst e;simp at h
theorem Wd.kill {op:Op} {h' h2:Tr CB} {v:CV} {nx':Nat} (hm:Mem ρ w0 h nx w) (ho:Oc ρ h nx w ρ h2 w) (hw:Wd P op ρ w0 h2 nx a w (.val v h' nx')):Wd P op ρ w0 h nx a w (.val v h' nx'):=by
 obtain ⟨h1,v',w',ρ',e1,e2,e3,e4,e5,e6⟩:=hw
 exact ⟨h1,v',w',ρ',e1,e2,e3,e4,ho.trans hm e5 (aG _) (dH _ _),e6⟩
theorem RY {T tx:Nat} {s x:Operand} (hs:Slots ρ E nx n a) (hm:Mem ρ w0 h nx w) (hfit:nx≤tE):Wd P (.call ⟨.builtin .append,⟨[s,x]⟩,⟨[T,tx]⟩⟩) ρ w0 h nx a w (XQ P E h nx T tx s x):=by
 unfold XQ
 split
 · rename_i e sz by' z hz
   obtain ⟨hu,i,zv,hi,hzv,hsz,hby,kz,hzl,h0⟩:=Ib hz nx ρ
   split
   · rename_i m news hsrc
     obtain ⟨xv,nw,ex,kn,hnl,hS⟩:=OL hs hm hsrc
     split
     · -- from nil
       rename_i hsv
       obtain ⟨v,e1,k1⟩:=tB hs hsv
       have e2:=nG.1 k1.2
       subst e2
       refine tD (Wd _ _ _ _ _ _ _ _) (fun _=>trivial) fun hm0=>tD (Wd _ _ _ _ _ _ _ _) (fun hb=>?_) fun _=>trivial
       have hm0:=Yc hm0
       simp only [aC] at hb
       have hb1:m*by'≤140737488355328:=tL hb.1
       obtain ⟨cap,junk,hr,hlen,hc1,hc2⟩:=Mi (base:=none) (N:=0) (C:=0) (olds:=[]) hu hi hzv hsz hzl h0 (run_firstCells_none ..) tS hS sV (by rw [hby,cH];exact hb1) (by rw [cH];exact tL hb.2.1)
       rw [cH] at hr hc1
       simp only [fT] at hr hlen
       refine pR (s:=nw.length+junk.length) hm hb.2.2 rfl (zF w _) (yG w _) (zG w _) (Sb (Ru kn) e) (fun ρ' hρ=>?_) (cO nx) (Ab e1 ex hr)
       exact nF.2 ⟨cap,by rw [hρ],by rw [hρ,hlen];show 0+cap*sz=cap*sz;omega,hc1,hc2⟩
     · -- a slice
       rename_i t o N sz' c hsv
       refine tD (Wd _ _ _ _ _ _ _ _) (fun _=>trivial) fun hne=>?_
       have hsq:sz=sz':=by
        cases hb:Nat.beq sz sz' with
        | true=>exact aD hb
        | false=>rw [hb] at hne;cases hne
       subst hsq
       obtain ⟨v,e1,k1⟩:=tB hs hsv
       obtain ⟨C,hC⟩:=Cc k1
       subst hC
       have hNC:N≤C:=by
        cases c with
        | some c'=>obtain ⟨q1,_,q3,_⟩:=jU.1 k1.2;cases q1;exact q3
        | none=>obtain ⟨c',q1,_,q3,_⟩:=nF.1 k1.2;cases q1;exact q3
       refine tD (Wd _ _ _ _ _ _ _ _) (fun hm0=>?_) fun hm0=>?_
       · -- nothing to append
         have hm0:=aD hm0
         subst hm0
         have hnw:nw=[]:=cB (by rw [hnl,oO])
         subst hnw
         refine ⟨aG _,_,w,ρ,dH _ _,k1,hm,hfit,gB,Ab e1 ex fun ty=>?_⟩
         rw [←hsz] at hS
         rcases hS.kind with ⟨e',hk⟩ | hk <;> simp [Builtin.append_,aV hu,aV hk,sizeOf,typeInfo,hi,hS.len,hNC,hS.cells,storeCells]
       have hm0:=Yc hm0
       split
       · rename_i l bt op st ht
         refine tD (Wd _ _ _ _ _ _ _ _) (fun _=>trivial) fun hbt=>?_
         have hbt:bt=e:=by
          cases hb:Nat.beq bt e with
          | true=>exact aD hb
          | false=>rw [hb] at hbt;cases hbt
         subst hbt
         have inplace:∀ c',N+m≤C→o+(N+m)*sz≤l.n→nx+1≤tE→Kn nx ρ (.sl t o (N+m) sz c') (.slice (some ⟨(ρ t).1,o,none⟩) (N+m) C)→Wd P (.call ⟨.builtin .append,⟨[s,x]⟩,⟨[T,tx]⟩⟩) ρ w0 h nx a w (.val (.sl t o (Nat.add N m) sz c') (h.set (some (.cells (Nv (Nat.add o (Nat.mul N sz)) news l) bt op nx)) tE t) (Nat.succ nx)):=fun c' hr1 hr2 hf1 hk=>by
          have hp:o+N*sz+nw.length≤l.n:=by rw [hnl,kI,←eN];exact hr2
          obtain ⟨cur,g1,g2,g3,g4⟩:=Yb hm hfit ht kn hp
          have hrun:=fun ty=>Fw (P:=P) (tx:=tx) (ty:=ty) hu hi g1 (x:=xv) (by rw [hsz];exact hS) hr1 (by rw [hsz];exact g2)
          rw [hsz] at hrun
          have g5:=g4 _ (vE w (ρ t).1 _) FC
          exact ⟨dB _,_,_,ρ,dH _ _,hk.up (dB _) (dH _ _),g5.1,hf1,g5.2,Ab e1 ex hrun⟩
         split
         · -- room known
           rename_i c'
           obtain ⟨q1,q2,q3,q4⟩:=jU.1 k1.2
           cases q1
           refine tD (Wd _ _ _ _ _ _ _ _) (fun hroom=>?_) fun hroom=>?_
           · have hroom:N+m≤C:=tL hroom
             refine tD (Wd _ _ _ _ _ _ _ _) (fun hfitl=>?_) fun _=>trivial
             simp only [aC] at hfitl
             exact inplace (some C) hroom (tL hfitl.1) (tL hfitl.2) ⟨k1.1,jU.2 ⟨rfl,q2,hroom,q4⟩⟩
           have hroom:C<N+m:=RX hroom
           refine tD (Wd _ _ _ _ _ _ _ _) (fun hb=>?_) fun _=>trivial
           simp only [aC] at hb
           obtain ⟨hb1,hb2,hb3,hb4⟩:=hb
           have hb1:(N+m)*by'≤140737488355328:=tL hb1
           obtain ⟨_,_,_,ob,p3,vs,junk0,kl,rfl,_,_⟩:=hm.own t _ ht
           have kk:=xS (k:=N*sz) kl (aD hb4)
           have hlen:((vs.drop o).take (N*sz)).length=N*sz:=by rw [←tZ kk];exact aD hb4
           have hdrop:((vs++junk0).drop o).take (N*sz)=(vs.drop o).take (N*sz):=by
            rw [bC,eC] at hlen
            by_cases h0:N*sz=0
            · rw [h0];simp
            rw [eO sV,fG Yq]
           have hold:(Builtin.firstCells i.size N (.slice (some ⟨(ρ t).1,o,none⟩) N C)).run P w.drew=.ok ((vs.drop o).take (N*sz)).toArray w.drew:=
            run_firstCells_some w.drew i.size N _ N C _ (by rw [hsz];exact hlen) (fun j v hj=>by
             have:=Jv p3 hdrop.symm j v hj
             simpa using this)
           obtain ⟨cap,junk,hr,hl2,hc1,hc2⟩:=Mi hu hi hzv hsz hzl h0 hold hlen hS hroom (by rw [hby];exact hb1) (tL hb2)
           refine pR (s:=((vs.drop o).take (N*sz)++nw).length+junk.length) hm hb3 rfl (zF w _) (yG w _) (zG w _) (Sb (Ru (Cs kk kn)) bt) (fun ρ' hρ=>?_) (cO nx) (Ab e1 ex hr)
           exact nF.2 ⟨cap,by rw [hρ];rfl,by rw [hρ,hl2];show 0+cap*sz=cap*sz;omega,hc1,hc2⟩
         -- room unknown
         obtain ⟨C',q1,q2,q3,q4⟩:=nF.1 k1.2
         cases q1
         obtain ⟨p1,ps,p2,ob,p3,vs,junk0,kl,rfl,p5,p6⟩:=hm.own t _ ht
         have hvl:=Fp kl
         refine tD (Wd _ _ _ _ _ _ _ _) (fun hfitl=>?_) fun hfitl=>?_
         · simp only [aC] at hfitl
           have hff:=tL hfitl.2
           have hfitl:o+(N+m)*sz≤l.n:=tL hfitl.1
           have hroom:N+m≤C:=by
            have:(N+m)*sz≤C*sz:=sV
            exact Nat.le_of_mul_le_mul_right this h0
           exact inplace none hroom hfitl hff ⟨k1.1,nF.2 ⟨C,rfl,q2,hroom,q4⟩⟩
         refine tD (Wd _ _ _ _ _ _ _ _) (fun hb=>?_) fun _=>trivial
         simp only [aC] at hb
         obtain ⟨⟨hb1,hb2⟩,hb3,hb4,hb5⟩:=hb
         have ho:=aD hb1
         subst ho
         have hNl:N*sz=l.n:=aD hb2
         have hb3:(N+m)*by'≤140737488355328:=tL hb3
         have hf5:nx+1≤tE:=tL hb5
         by_cases hroom:N+m≤C
         · -- in its place
           have hfit2:0+N*i.size+nw.length≤((vs++junk0).toArray).size:=by
            have:(N+m)*sz≤C*sz:=gM _ hroom
            rw [eN] at this
            rw [hsz,hnl,pH,aI];omega
           have hrun:=fun ty=>Fw (P:=P) (tx:=tx) (ty:=ty) hu hi p3 (x:=xv) (by rw [hsz];exact hS) hroom hfit2
           obtain ⟨ρ',r1,r2,r3,r4⟩:=hm.rename (b':=.cells (RD l news) bt true nx) (w':=w.setRow (ρ t).1 ((vs++junk0).toArray.toList.take (0+N*i.size)++nw++(vs++junk0).toArray.toList.drop (0+N*i.size+nw.length)).toArray) hf5 rfl ht (vE w (ρ t).1 _) (by rw [mK w (ρ t).1 _ _ bt _ p3]) (by
            refine ⟨vs++nw,junk0.drop nw.length,AM kl kn,?_,?_,fun hh=>by cases hh⟩
            · have e5:0+N*i.size=vs.length:=by rw [hsz,cH,hNl,hvl]
              rw [e5]
              simp only [List.take_left,oR]
            rw [aI,eC]
            have:(N+m)*sz≤C*sz:=gM _ hroom
            rw [eN] at this
            omega)
           refine ⟨dB _,_,_,ρ',r1,⟨cO nx,nF.2 ⟨C,?_,?_,hroom,q4⟩⟩,r3,hf5,r4,Ab e1 ex hrun⟩
           · rw [r2];rfl
           rw [r2];exact q2
         have hroom:C<N+m:=sV
         have hold:(Builtin.firstCells i.size N (.slice (some ⟨(ρ t).1,0,none⟩) N C)).run P w.drew=.ok vs.toArray w.drew:=
          run_firstCells_some w.drew i.size N _ N C _ (by rw [hsz,←hvl];exact hNl.symm) (fun j v hj=>by
           have:=Jv p3 (o:=0) (m:=vs.length) (news:=vs) tS j v hj
           simpa using this)
         obtain ⟨cap,junk,hr,hl2,hc1,hc2⟩:=Mi hu hi hzv hsz hzl h0 hold (by rw [←hvl];exact hNl.symm) hS hroom (by rw [hby];exact hb3) (tL hb4)
         have hm2:=hm.kill hfit p1
         refine Wd.kill (h2:=h.set none tE t) hm hm2.2 ?_
         refine pR (s:=(vs++nw).length+junk.length) hm2.1 hb5 rfl (zF w _) (yG w _) (zG w _) (Sb (AM kl kn) bt) (fun ρ' hρ=>?_) (cO nx) (Ab e1 ex hr)
         exact nF.2 ⟨cap,by rw [hρ];rfl,by rw [hρ,hl2];show 0+cap*sz=cap*sz;omega,hc1,hc2⟩
       trivial
     trivial
   trivial
 trivial
end
section
variable {P:Program} {nx n:Nat} {ρ:Pl} {Φ:Imm→Prop} {w0:Bas Φ} {w:World} {E:Tr CV} {h:Tr CB} {a:Act}
theorem OM {T tx:Nat} {d x:Operand} (hs:Slots ρ E nx n a) (hm:Mem ρ w0 h nx w) (hfit:nx≤tE):Wd P (.call ⟨.builtin .copy,⟨[d,x]⟩,⟨[T,tx]⟩⟩) ρ w0 h nx a w (wv P E h nx (.call ⟨.builtin .copy,⟨[d,x]⟩,⟨[T,tx]⟩⟩)):=by
 show Wd _ _ _ _ _ _ _ _ (match JU P T with
  | some (_,sz,_,_)=>match uM E d with
    | some (.sl t o n sz' _)=>match uM E x with
      | some (.sl t2 o2 n2 sz2 _)=>bif Nat.beq sz sz' && Nat.beq sz sz2 then
       (match h.get t with
       | some (.cells l bt op _)=>(match h.get t2 with
         | some (.cells l2 _ _ _) =>
           bif Nat.beq (tW (uE l2 o2 (Nat.mul (Nat.min n2 n) sz))) (Nat.mul (Nat.min n2 n) sz) && (Fk (uE l2 o2 (Nat.mul (Nat.min n2 n) sz)) && (Nat.ble (Nat.add o (Nat.mul (Nat.min n2 n) sz)) l.n && Nat.ble (Nat.succ nx) tE)) then
            .val (.int .i64 (Nat.min n2 n)) (h.set (some (.cells (Nv o (uE l2 o2 (Nat.mul (Nat.min n2 n) sz)) l) bt op nx)) tE t) (Nat.succ nx) else .bad
         | _=>.bad)
       | _=>.bad) else .bad
      | some .nils=>.val (.int .i64 0) h nx
      | _=>.bad
    | _=>.bad
  | none=>.bad)
 split
 · rename_i e sz by' z hz
   obtain ⟨hu,i,zv,hi,hzv,hsz,hby,kz,hzl,h0⟩:=Ib hz nx ρ
   split
   · rename_i t o N sz' c hd
     obtain ⟨v,e1,k1⟩:=tB hs hd
     obtain ⟨C,rfl⟩:=Cc k1
     split
     · rename_i t2 o2 n2 sz2 c2 hx
       obtain ⟨v2,e2,k2⟩:=tB hs hx
       obtain ⟨C2,rfl⟩:=Cc k2
       refine tD (Wd _ _ _ _ _ _ _ _) (fun hb=>?_) fun _=>trivial
       simp only [aC] at hb
       have q1:=aD hb.1
       have q2:=aD hb.2
       subst q1 q2
       split
       · rename_i l bt op st ht
         split
         · rename_i l2 bt2 op2 st2 ht2
           refine tD (Wd _ _ _ _ _ _ _ _) (fun hb=>?_) fun _=>trivial
           simp only [aC] at hb
           obtain ⟨hb1,hb2,hb3,hb4⟩:=hb
           obtain ⟨k,hk⟩:∃ k,k=Nat.min n2 N:=⟨_,rfl⟩
           rw [←hk] at hb1 hb2 hb3 ⊢
           obtain ⟨_,_,_,ob,p3,vs,junk0,kl,rfl,_,_⟩:=hm.own t2 _ ht2
           have kk:=xS (k:=k*sz) kl (aD hb1)
           have hlen:((vs.drop o2).take (k*sz)).length=k*sz:=by rw [←tZ kk];exact aD hb1
           have hdrop:((vs++junk0).drop o2).take (k*sz)=(vs.drop o2).take (k*sz):=by
            rw [bC,eC] at hlen
            by_cases h0:k*sz=0
            · rw [h0];simp
            rw [eO sV,fG Yq]
           have hp:o+((vs.drop o2).take (k*sz)).length≤l.n:=by rw [hlen];exact tL hb3
           obtain ⟨cur,g1,g2,g3,g4⟩:=Yb hm hfit ht kk hp
           have hone:=Ly kk hb2
           have hrun:=fun ty=>JT (P:=P) (tx:=tx) (ty:=ty) (dCap:=C) (sCap:=C2) hu hi g1 hk.symm (by rw [hsz];exact hlen) (Jv p3 hdrop.symm) (fun v hv=>fC.1 hone v hv) g2
           have g5:=g4 _ (vE w (ρ t).1 _) FC
           exact ⟨dB _,_,_,ρ,dH _ _,xT,g5.1,tL hb4,g5.2,Pu e1 e2 hrun⟩
         trivial
       trivial
     · rename_i hx
       obtain ⟨v2,e2,k2⟩:=tB hs hx
       have q2:=nG.1 k2.2
       subst q2
       exact ⟨aG _,_,w,ρ,dH _ _,xT,hm,hfit,gB,Pu e1 e2 fun ty=>EH hu hi (Nat.zero_min _)⟩
     trivial
   trivial
 trivial
theorem VU {op:Op} (hs:Slots ρ E nx n a) (hm:Mem ρ w0 h nx w) (hfit:nx≤tE):Wd P op ρ w0 h nx a w (wv P E h nx op):=by
 obtain ⟨r,hr⟩:∃ r,wv P E h nx op=r:=⟨_,rfl⟩
 have hr':=hr
 unfold wv at hr
 split at hr
 · rw [hr'];exact JV hs hm hr'
 · rw [hr'];exact RW hs hm hr'
 · rw [hr'];exact JW hs hm hfit hr'
 · rw [hr'];exact Od hs hm hr'
 · rw [hr'];exact Sa hs hm hr'
 · exact RY hs hm hfit
 · exact OM hs hm hfit
 rw [hr',←hr];trivial
end
def bnd (o:Oper):List Nat:=(o.after.toList.filter (Region.binds .any)).map (·.on)
def Fx {α:Type} (p:α→Bool) (l:List α):Bool:=List.rec true (fun x _ ih=>p x && ih) l
def EI {α:Type} (p:α→Bool) (l:List α):Bool:=List.rec false (fun x _ ih=>p x || ih) l
theorem vU {α:Type} {p:α→Bool}:∀ {l:List α},Fx p l=true↔∀ x∈l,p x=true:=by
 intro l
 induction l with
 | nil=>exact ⟨fun _ x h=>yS,fun _=>rfl⟩
 | cons a l ih =>
   show (p a && Fx p l)=true↔_
   rw [aC,ih]
   exact ⟨fun h x hx=>by rcases dF.1 hx with rfl | hx;exact h.1;exact h.2 x hx,fun h=>⟨h a bP,fun x hx=>h x (bB _ hx)⟩⟩
theorem Mj {α:Type} {p:α→Bool}:∀ {l:List α},EI p l=true↔∃ x∈l,p x=true:=by
 intro l
 induction l with
 | nil=>exact ⟨fun h=>yS,fun ⟨x,h,_⟩=>yS⟩
 | cons a l ih =>
   show (p a || EI p l)=true↔_
   rw [mB,ih]
   exact ⟨fun h=>by rcases h with h | ⟨x,h1,h2⟩;exact ⟨a,bP,h⟩;exact ⟨x,bB _ h1,h2⟩,fun ⟨x,h1,h2⟩=>by rcases dF.1 h1 with rfl | h1;exact .inl h2;exact .inr ⟨x,h1,h2⟩⟩
def EJ (m i:Nat) (o:Oper):Bool:=not (Nat.testBit m i) && Fx (Nat.testBit m) (bnd o)
def Mk (o:Oper) (i:Nat):Bool:=EI (Nat.beq i) (bnd o)
def EK (p:Nat→Oper→Bool) (l:List Oper):Nat→Bool:=List.rec (fun _=>true) (fun o _ ih j=>p j o && ih (Nat.succ j)) l
def Iy (p:Nat→Oper→Bool) (l:List Oper):Nat→Option Nat:=List.rec (fun _=>none) (fun o _ ih j=>bif p j o then some j else ih (Nat.succ j)) l
theorem Sc {p:Nat→Oper→Bool}:∀ {l:List Oper} {j:Nat},EK p l j=true→∀ k o,l[k]?=some o→p (j+k) o=true:=by
 intro l
 induction l with
 | nil=>intro j _ k o h;simp at h
 | cons x l ih =>
   intro j h k o hk
   have h':(p j x && EK p l (j+1))=true:=h
   rw [aC] at h'
   cases k with
   | zero=>simp at hk;subst hk;exact h'.1
   | succ k =>
     have:=ih h'.2 k o (by simpa using hk)
     rw [show j+(k+1)=j+1+k by omega];exact this
theorem JX {p:Nat→Oper→Bool}:∀ {l:List Oper} {j i:Nat},Iy p l j=some i→∃ k o,i=j+k∧l[k]?=some o∧p i o=true:=by
 intro l
 induction l with
 | nil=>intro j i h;cases h
 | cons x l ih =>
   intro j i h
   have h':(bif p j x then some j else Iy p l (j+1))=some i:=h
   rcases sY h' with ⟨h1,h2⟩ | ⟨_,h2⟩
   · cases h2;exact ⟨0,x,rfl,rfl,h1⟩
   obtain ⟨k,o,e,h3,h4⟩:=ih h2
   exact ⟨k+1,o,by omega,by simpa using h3,h4⟩
def Av:Op→Bool
 | .move _ | .assign _ | .pick .. | .unOp .. | .binOp .. | .convert .. | .extract .. | .nilCheck _ | .fieldAddr .. | .field .. | .load .. | .makeFunc .. | .indexAddr .. | .index .. | .slice .. | .build .. | .lookup ..=>true
 | .call ⟨.builtin .len,_,_⟩ | .call ⟨.builtin .cap,_,_⟩ | .call ⟨.builtin .min,_,_⟩ | .call ⟨.builtin .max,_,_⟩=>true
 | _=>false
def frB (all:Array Oper) (m i:Nat) (oi:Oper) (l:List Oper):Bool:=EK (fun j oj=>Nat.beq j i || (Nat.testBit m j || (Mk oj i || oi.apart all oj))) l 0
def Ic (m i:Nat):Nat:=m ||| (1 <<< i)
inductive Pk where
 | look
 | only
 | race (R:List Nat)
 | make (R:List Nat)
def JY:Op→Bool
 | .alloc _ | .box .. | .makeSlice .. | .buildSlice .. | .makeMap _ none=>true
 | _=>false
def isT (d:Nat):Operand→Bool | .tmp t=>Nat.beq t d | _=>false
def Ml (o:Oper):Bool:=JY o.op && (match o.guard with | none=>(match o.dst with | some d=>not (EI (isT d) o.op.operands.toList) | none=>false) | some _=>false)
def ON (R:List Nat) (i:Nat):Bool:=EI (Nat.beq i) R
def Mm (l:List Oper) (i:Nat) (p:Oper→Bool):Bool:=match Ed l i with | some o=>p o | none=>false
def VV (R:List Nat) (m:Nat):Nat:=List.rec m (fun j _ ih=>Ic ih j) R
def Ay (l:List Oper) (m:Nat):List Nat:=List.rec (motive:=fun _=>Nat→List Nat) (fun _=>[]) (fun o _ ih j=>bif EJ m j o then j :: ih (Nat.succ j) else ih (Nat.succ j)) l 0
def Pv (l:List Oper) (m:Nat) (Rc:List Nat) (i:Nat) (o:Oper) (R:List Nat):Bool:=
 (EJ m i o && Fx (fun k=>Nat.beq k i || ON R k) Rc) && ((not (ON R i) && Fx (fun j=>Mm l j fun oj=>(Ml oj && not (Nat.testBit m j)) && (oj.apart l.toArray o && Fx (fun k=>Nat.beq k j || Mm l k fun ok=>oj.apart l.toArray ok) R)) R) &&
  EK (fun j oj=>Nat.beq j i || not (EJ (VV R m) j oj)) l 0)
def Mn (R Rc:List Nat):Bool:=match R,Rc with | [],[]=>true | _,_=>false
theorem Mo {R Rc:List Nat} (h:Mn R Rc=true):R=[]∧Rc=[]:=by
 cases R <;> cases Rc <;> first | exact ⟨rfl,rfl⟩ | cases h
def Mp (l:List Oper) (f:Nat):Nat→List Nat→Option (List (Nat×Pk)):=
 Nat.rec (fun m Rc=>bif EK (fun j o=>not (EJ m j o)) l 0 then (bif Mn [] Rc then some [] else none) else none)
  (fun _ ih m Rc=>match Iy (fun i o=>Av o.op && (EJ m i o && frB l.toArray m i o l)) l 0 with
   | some i=>(match ih (Ic m i) Rc with | some p=>some ((i,.look) :: p) | none=>none)
   | none=>(match Iy (fun i o=>EJ m i o && not (Ml o)) l 0 with
     | some i=>bif Mm l i (fun o=>Pv l m Rc i o ((Ay l m).filter fun j=>not (Nat.beq j i))) then
      (bif Mn ((Ay l m).filter fun j=>not (Nat.beq j i)) Rc then (match ih (Ic m i) [] with | some p=>some ((i,.only) :: p) | none=>none) else
      bif Mm l i (fun o=>not (JY o.op) && (match o.guard with | none=>true | some _=>false)) then (match ih (Ic m i) ((Ay l m).filter fun j=>not (Nat.beq j i)) with | some p=>some ((i,.race ((Ay l m).filter fun j=>not (Nat.beq j i))) :: p) | none=>none) else none) else none
     | none=>(match Iy (EJ m) l 0 with
       | some i=>bif Mm l i (fun o=>Ml o && Pv l m Rc i o ((Ay l m).filter fun j=>not (Nat.beq j i))) then
        (bif Mn ((Ay l m).filter fun j=>not (Nat.beq j i)) Rc then (match ih (Ic m i) [] with | some p=>some ((i,.only) :: p) | none=>none) else
        (match ih (Ic m i) ((Ay l m).filter fun j=>not (Nat.beq j i)) with | some p=>some ((i,.make ((Ay l m).filter fun j=>not (Nat.beq j i))) :: p) | none=>none)) else none
       | none=>none))) f
def Mq (l:List Oper):Option (List (Nat×Pk)):=bif Region.noSelect l.toArray && l.all uD then Mp l l.length 0 [] else none
def LM (l:List Oper) (L:Array Bool) (m:Nat):Prop:=L.size=l.length∧∀ i,L.getD i false=Nat.testBit m i
theorem LM.in {l:List Oper} {L:Array Bool} {m:Nat} (h:LM l L m) {i:Nat} (hi:i<l.length):L.getD i true=Nat.testBit m i:=by
 rw [←h.2 i]
 have:i<L.size:=by rw [h.1];exact hi
 simp [this]
theorem LM.set {l:List Oper} {L:Array Bool} {m i:Nat} (h:LM l L m) (hi:i<l.length):LM l (L.setIfInBounds i true) (Ic m i):=by
 refine ⟨by simp [h.1],fun j=>?_⟩
 unfold Ic
 rw [Nat.testBit_or,←h.2 j]
 have hsz:i<L.size:=by rw [h.1];exact hi
 by_cases e:i=j
 · subst e
   have:(1 <<< i).testBit i=true:=by rw [Nat.testBit_shiftLeft];simp
   rw [this,Bool.or_true]
   simp [hsz]
 have:(1 <<< i).testBit j=false:=by rw [Nat.one_shiftLeft,Nat.testBit_two_pow_of_ne e]
 rw [this,Bool.or_false]
 rw [fN,fN,gW e]
theorem LM.start (l:List Oper):LM l (Array.replicate l.length false) 0:=by
 refine ⟨by simp,fun i=>?_⟩
 rw [Nat.zero_testBit,fN,Array.getElem?_replicate]
 split <;> rfl
theorem Jw {l:List Oper} {L:Array Bool} {m j:Nat} {o:Oper} (h:LM l L m) (hj:l[j]?=some o):EJ m j o=true↔j∈Region.ready .any l.toArray L:=by
 have hlt:j<l.length:=(aS.1 hj).1
 rw [eZ]
 unfold EJ
 rw [aC,eD,vU,h.in hlt]
 have hj':l.toArray[j]?=some o:=by simpa using hj
 refine ⟨fun ⟨h1,h2⟩=>⟨h1,o,hj',fun e he hb=>?_⟩,fun ⟨h1,o',ho',h2⟩=>⟨h1,fun x hx=>?_⟩⟩
 · rw [h.2];exact h2 e.on (dY.2 ⟨e,gV.2 ⟨lG.2 he,hb⟩,rfl⟩)
 rw [hj'] at ho';cases ho'
 obtain ⟨e,he,rfl⟩:=dY.1 hx
 obtain ⟨he1,he2⟩:=gV.1 he
 rw [←h.2];exact h2 e (lG.1 he1) he2
theorem Mr {o:Oper} {i:Nat}:Mk o i=true↔∃ e∈o.after,Region.binds .any e=true∧e.on=i:=by
 unfold Mk
 rw [Mj]
 refine ⟨fun ⟨x,hx,hb⟩=>?_,fun ⟨e,he,hb,hi⟩=>⟨i,dY.2 ⟨e,gV.2 ⟨lG.2 he,hb⟩,hi⟩,by simp⟩⟩
 have:=aD hb
 subst this
 obtain ⟨e,he,rfl⟩:=dY.1 hx
 obtain ⟨he1,he2⟩:=gV.1 he
 exact ⟨e,lG.1 he1,he2,rfl⟩
def Ms (R:List Nat) (L:Array Bool):Array Bool:=R.foldr (fun j L=>L.setIfInBounds j true) L
structure RaceOk (l:List Oper) (L:Array Bool) (Rc:List Nat) (i:Nat) (R:List Nat):Prop where
 rd:i∈Region.ready .any l.toArray L
 sub:∀ k∈Rc,k=i∨k∈R
 ni:i ∉ R
 mks:∀ j∈R,∃ oj,l[j]?=some oj∧Ml oj=true∧L.getD j true=false∧(∀ o,l[i]?=some o→oj.apart l.toArray o=true)∧∀ k∈R,k≠j→∀ ok,l[k]?=some ok→oj.apart l.toArray ok=true
 only:∀ j,j∈Region.ready .any l.toArray (Ms R L)→j=i
def PlanOk (l:List Oper):Array Bool→List Nat→List (Nat×Pk)→Prop
 | L,Rc,[]=>Region.ready .any l.toArray L=[]∧Rc=[]
 | L,Rc,(i,.look) :: p=>(∃ o,l[i]?=some o∧Av o.op=true∧i∈Region.ready .any l.toArray L∧∀ j oj,l.toArray[j]?=some oj→j≠i→L.getD j true=false→(∀ e∈oj.after,Region.binds .any e=true→e.on≠i)→o.apart l.toArray oj=true)∧PlanOk l (L.setIfInBounds i true) Rc p
 | L,Rc,(i,.only) :: p=>Rc=[]∧(∃ o,l[i]?=some o∧i∈Region.ready .any l.toArray L∧∀ j∈Region.ready .any l.toArray L,j=i)∧PlanOk l (L.setIfInBounds i true) [] p
 | L,Rc,(i,.race R) :: p=>RaceOk l L Rc i R∧(∃ o,l[i]?=some o∧o.guard=none∧JY o.op=false)∧PlanOk l (L.setIfInBounds i true) R p
 | L,Rc,(i,.make R) :: p=>RaceOk l L Rc i R∧(∃ o,l[i]?=some o∧Ml o=true)∧PlanOk l (L.setIfInBounds i true) R p
theorem As {l:List Oper} {i:Nat} {p:Oper→Bool} (h:Mm l i p=true):∃ o,l[i]?=some o∧p o=true:=by
 unfold Mm at h
 split at h
 · rename_i o ho;exact ⟨o,by rw [←xA];exact ho,h⟩
 cases h
theorem Vg {R:List Nat} {i:Nat}:ON R i=true↔i∈R:=by
 unfold ON
 rw [Mj]
 exact ⟨fun ⟨x,h1,h2⟩=>by rw [aD h2];exact h1,fun h=>⟨i,h,by simp⟩⟩
theorem AR {l:List Oper}:∀ {R:List Nat} {L:Array Bool} {m:Nat},LM l L m→(∀ j∈R,j<l.length)→LM l (Ms R L) (VV R m)
 | [],_,_,h,_=>h
 | j :: R,_,_,h,hr=>(AR h fun k hk=>hr k (bB _ hk)).set (hr j (bP ..))
theorem Vh {l:List Oper} {m:Nat} {L:Array Bool} {Rc R:List Nat} {i:Nat} {o:Oper} (hL:LM l L m) (ho:l[i]?=some o) (h:Pv l m Rc i o R=true):RaceOk l L Rc i R:=by
 unfold Pv at h
 simp only [aC] at h
 obtain ⟨⟨h1,h2⟩,⟨h3,h4⟩,h5⟩:=h
 have hmk:∀ j∈R,∃ oj,l[j]?=some oj∧Ml oj=true∧Nat.testBit m j=false∧oj.apart l.toArray o=true∧∀ k∈R,k≠j→∀ ok,l[k]?=some ok→oj.apart l.toArray ok=true:=fun j hj=>by
  have:=vU.1 h4 j hj
  obtain ⟨oj,e1,e2⟩:=As this
  simp only [aC,eD] at e2
  obtain ⟨⟨e3,e4⟩,e5,e6⟩:=e2
  refine ⟨oj,e1,e3,e4,e5,fun k hk hne ok hok=>?_⟩
  have:=vU.1 e6 k hk
  simp only [mB] at this
  rcases this with h | h
  · exact absurd (aD h) hne
  obtain ⟨ok',e7,e8⟩:=As h
  rw [hok] at e7;cases e7;exact e8
 have hlt:∀ j∈R,j<l.length:=fun j hj=>by obtain ⟨oj,e1,_⟩:=hmk j hj;exact (aS.1 e1).1
 refine ⟨(Jw hL ho).1 h1,fun k hk=>?_,fun hi=>?_,fun j hj=>?_,fun j hj=>?_⟩
 · have:=vU.1 h2 k hk
   simp only [mB] at this
   exact this.imp aD Vg.1
 · rw [Vg.2 hi] at h3;cases h3
 · obtain ⟨oj,e1,e2,e3,e4,e5⟩:=hmk j hj
   exact ⟨oj,e1,e2,by rw [hL.in (hlt j hj)];exact e3,fun o' ho'=>by rw [ho] at ho';cases ho';exact e4,e5⟩
 obtain ⟨_,oj,hoj,_⟩:=eZ.1 hj
 have hoj':l[j]?=some oj:=by simpa using hoj
 have:=Sc h5 j oj hoj'
 rw [cH,(Jw (AR hL hlt) hoj').2 hj] at this
 simp only [Bool.not_true,Bool.or_false] at this
 exact aD this
theorem JZ {l:List Oper}:∀ {f m:Nat} {L:Array Bool} {Rc:List Nat} {p:List (Nat×Pk)},LM l L m→Mp l f m Rc=some p→PlanOk l L Rc p∧p.length=f:=by
 intro f
 induction f with
 | zero =>
   intro m L Rc p hL h
   have h':(bif EK (fun j o=>not (EJ m j o)) l 0 then (bif Mn [] Rc then some [] else none) else none)=some p:=h
   rcases sY h' with ⟨h1,h2⟩ | ⟨_,h2⟩
   · rcases sY h2 with ⟨h3,h2⟩ | ⟨_,h2⟩
     · obtain ⟨_,rfl⟩:=Mo h3
       cases h2
       refine ⟨⟨hZ.2 fun j hj=>?_,rfl⟩,rfl⟩
       obtain ⟨_,o,ho,_⟩:=eZ.1 hj
       have ho':l[j]?=some o:=by simpa using ho
       have:=Sc h1 j o ho'
       rw [cH] at this
       rw [(Jw hL ho').2 hj] at this
       cases this
     cases h2
   · cases h2
 | succ f ih =>
   intro m L Rc p hL h
   have h':(match Iy (fun i o=>Av o.op && (EJ m i o && frB l.toArray m i o l)) l 0 with
    | some i=>(match Mp l f (Ic m i) Rc with | some p=>some ((i,.look) :: p) | none=>none)
    | none=>(match Iy (fun i o=>EJ m i o && not (Ml o)) l 0 with
      | some i=>bif Mm l i (fun o=>Pv l m Rc i o ((Ay l m).filter fun j=>not (Nat.beq j i))) then
       (bif Mn ((Ay l m).filter fun j=>not (Nat.beq j i)) Rc then (match Mp l f (Ic m i) [] with | some p=>some ((i,.only) :: p) | none=>none) else
       bif Mm l i (fun o=>not (JY o.op) && (match o.guard with | none=>true | some _=>false)) then (match Mp l f (Ic m i) ((Ay l m).filter fun j=>not (Nat.beq j i)) with | some p=>some ((i,.race ((Ay l m).filter fun j=>not (Nat.beq j i))) :: p) | none=>none) else none) else none
      | none=>(match Iy (EJ m) l 0 with
        | some i=>bif Mm l i (fun o=>Ml o && Pv l m Rc i o ((Ay l m).filter fun j=>not (Nat.beq j i))) then
         (bif Mn ((Ay l m).filter fun j=>not (Nat.beq j i)) Rc then (match Mp l f (Ic m i) [] with | some p=>some ((i,.only) :: p) | none=>none) else
         (match Mp l f (Ic m i) ((Ay l m).filter fun j=>not (Nat.beq j i)) with | some p=>some ((i,.make ((Ay l m).filter fun j=>not (Nat.beq j i))) :: p) | none=>none)) else none
        | none=>none)))=some p:=h
   have lt:∀ {i:Nat} {o:Oper},l[i]?=some o→i<l.length:=fun h=>(aS.1 h).1
   have one:∀ {i:Nat} {o:Oper},l[i]?=some o→RaceOk l L [] i []→(∃ o,l[i]?=some o∧i∈Region.ready .any l.toArray L∧∀ j∈Region.ready .any l.toArray L,j=i):=fun ho hr=>⟨_,ho,hr.rd,hr.only⟩
   split at h'
   · rename_i i hi
     obtain ⟨k,o,rfl,ho,hp⟩:=JX hi
     rw [cH] at *
     simp only [aC] at hp
     split at h'
     · rename_i q hq
       cases h'
       obtain ⟨e1,e2⟩:=ih (hL.set (lt ho)) hq
       refine ⟨⟨⟨o,ho,hp.1,(Jw hL ho).1 hp.2.1,fun j oj hj hne hun hno=>?_⟩,e1⟩,by rw [bQ,e2]⟩
       have hj':l[j]?=some oj:=by simpa using hj
       have:=Sc hp.2.2 j oj hj'
       rw [cH] at this
       simp only [mB] at this
       rcases this with h1 | h1 | h1 | h1
       · exact absurd (aD h1) hne
       · rw [hL.in (lt hj')] at hun;rw [hun] at h1;cases h1
       · obtain ⟨e,he,hb,hi⟩:=Mr.1 h1
         exact absurd hi (hno e he hb)
       exact h1
     cases h'
   split at h'
   · rename_i i hi
     rcases sY h' with ⟨h1,h2⟩ | ⟨_,h2⟩
     · obtain ⟨o,ho,hr⟩:=As h1
       generalize ((Ay l m).filter fun j=>not (Nat.beq j i))=R at hr h2
       have hro:=Vh hL ho hr
       rcases sY h2 with ⟨h3,h2⟩ | ⟨_,h2⟩
       · obtain ⟨rfl,rfl⟩:=Mo h3
         split at h2
         · rename_i q hq
           cases h2
           obtain ⟨e1,e2⟩:=ih (hL.set (lt ho)) hq
           exact ⟨⟨rfl,one ho hro,e1⟩,by rw [bQ,e2]⟩
         cases h2
       rcases sY h2 with ⟨h3,h4⟩ | ⟨_,h4⟩
       · obtain ⟨o',ho',hg⟩:=As h3
         split at h4
         · rename_i q hq
           cases h4
           obtain ⟨e1,e2⟩:=ih (hL.set (lt ho)) hq
           rw [aC,eD] at hg
           refine ⟨⟨hro,⟨o',ho',?_,hg.1⟩,e1⟩,by rw [bQ,e2]⟩
           cases hgd:o'.guard with
           | none=>rfl
           | some g=>rw [hgd] at hg;cases hg.2
         cases h4
       cases h4
     cases h2
   split at h'
   · rename_i i hi
     rcases sY h' with ⟨h1,h2⟩ | ⟨_,h2⟩
     · obtain ⟨o,ho,hr⟩:=As h1
       rw [aC] at hr
       obtain ⟨hmk,hr⟩:=hr
       generalize ((Ay l m).filter fun j=>not (Nat.beq j i))=R at hr h2
       have hro:=Vh hL ho hr
       rcases sY h2 with ⟨h3,h2⟩ | ⟨_,h2⟩
       · obtain ⟨rfl,rfl⟩:=Mo h3
         split at h2
         · rename_i q hq
           cases h2
           obtain ⟨e1,e2⟩:=ih (hL.set (lt ho)) hq
           exact ⟨⟨rfl,one ho hro,e1⟩,by rw [bQ,e2]⟩
         cases h2
       split at h2
       · rename_i q hq
         cases h2
         obtain ⟨e1,e2⟩:=ih (hL.set (lt ho)) hq
         exact ⟨⟨hro,⟨o,ho,hmk⟩,e1⟩,by rw [bQ,e2]⟩
       cases h2
     cases h2
   cases h'
theorem KA {l:List Oper} {p:List (Nat×Pk)} (h:Mq l=some p):Region.noSelect l.toArray=true∧l.all uD=true∧PlanOk l (Array.replicate l.length false) [] p∧p.length=l.length:=by
 unfold Mq at h
 rcases sY h with ⟨h1,h2⟩ | ⟨_,h2⟩
 · rw [aC] at h1
   obtain ⟨e1,e2⟩:=JZ (LM.start l) h2
   exact ⟨h1.1,h1.2,e1,e2⟩
 cases h2
def EL {α:Type} (f:α→α) (l:List α):Nat→List α:=List.rec (fun _=>[]) (fun x xs ih n=>Nat.rec (f x :: xs) (fun n _=>x :: ih n) n) l
theorem AS {α:Type} (f:α→α):∀ (l:List α) (n:Nat),EL f l n=l.modify n f
 | [],n=>by simp [EL]
 | x :: l,0=>rfl
 | x :: l,n+1=>by show x :: EL f l n=_;rw [AS f l n];rfl
def dk (P:Program) (E:Tr CV) (h:Tr CB) (nx:Nat) (T:TypeId):Ro:=bif Nat.ble (Nat.succ nx) tE then
 (bif RO P T then .val (.mp nx) (h.set (some (.mapI [] nx)) tE nx) (Nat.succ nx) else
  bif RP P T then .val (.mp nx) (h.set (some (.mapK [] nx)) tE nx) (Nat.succ nx) else .bad) else .bad
def mv1 (P:Program) (E:Tr CV) (h:Tr CB) (nx:Nat) (T:TypeId) (x:Operand) (i:Operand) (c:Bool):Ro:=match uM E x with
 | some (.mp t)=>match uM E i with
   | some k=>match h.get t with
     | some (.mapI l _)=>match EE k with | some n=>(bif RO P T then .val (SQ c (Ob Hx n l)) h nx else .bad) | none=>.bad
     | some (.mapK l _)=>match EF k with | some n=>(bif RP P T then .val (SQ c (Ob SP n l)) h nx else .bad) | none=>.bad
     | _=>.bad
   | none=>.bad
 | _=>.bad
def mv2 (P:Program) (E:Tr CV) (h:Tr CB) (nx:Nat) (T:TypeId) (x:Operand) (i:Operand) (y:Operand):Ro:=match uM E x with
 | some (.mp t)=>match uM E i with
   | some k=>match uM E y with
     | some (.int .i64 v)=>bif Nat.ble (Nat.succ nx) tE then (match h.get t with
       | some (.mapI l _)=>match EE k with | some n=>(bif RO P T then .unit (h.set (some (.mapI (JQ Hx n v l) nx)) tE t) (Nat.succ nx) else .bad) | none=>.bad
       | some (.mapK l _)=>match EF k with | some n=>(bif RP P T then .unit (h.set (some (.mapK (JQ SP n v l) nx)) tE t) (Nat.succ nx) else .bad) | none=>.bad
       | _=>.bad) else .bad
     | _=>.bad
   | none=>.bad
 | _=>.bad
def mv3 (P:Program) (E:Tr CV) (h:Tr CB) (nx:Nat) (T:TypeId) (x:Operand) (i:Operand):Ro:=match uM E x with
 | some (.mp t)=>match uM E i with
   | some k=>bif Nat.ble (Nat.succ nx) tE then (match h.get t with
     | some (.mapK l _)=>match EF k with
       | some n=>(bif RP P T then (match Ob SP n l with
         | none=>.val (.tup (.cons (.int .i64 0) (.cons (.int .i64 l.length) .nil))) (h.set (some (.mapK (l++[(n,0)]) nx)) tE t) (Nat.succ nx)
         | some _=>.bad) else .bad)
       | none=>.bad
     | some (.mapI l _)=>match EE k with
       | some n=>(bif RO P T then (match Ob Hx n l with
         | none=>.val (.tup (.cons (.int .i64 0) (.cons (.int .i64 l.length) .nil))) (h.set (some (.mapI (l++[(n,0)]) nx)) tE t) (Nat.succ nx)
         | some _=>.bad) else .bad)
       | none=>.bad
     | _=>.bad) else .bad
   | none=>.bad
 | _=>.bad
def mv4 (P:Program) (E:Tr CV) (h:Tr CB) (nx:Nat) (T:TypeId) (x:Operand) (s:Operand) (y:Operand):Ro:=match uM E x with
 | some (.mp t)=>match uM E s with
   | some (.int .i64 m)=>match uM E y with
     | some (.int .i64 v)=>bif Nat.ble (Nat.succ nx) tE && wI 0 m then (match h.get t with
       | some (.mapK l _)=>bif Nat.ble (Nat.succ m.toNat) l.length then .unit (h.set (some (.mapK (EL (fun p=>(p.1,v)) l m.toNat) nx)) tE t) (Nat.succ nx) else .bad
       | some (.mapI l _)=>bif Nat.ble (Nat.succ m.toNat) l.length then .unit (h.set (some (.mapI (EL (fun p=>(p.1,v)) l m.toNat) nx)) tE t) (Nat.succ nx) else .bad
       | _=>.bad) else .bad
     | _=>.bad
   | _=>.bad
 | _=>.bad
def mv5 (P:Program) (E:Tr CV) (h:Tr CB) (nx:Nat) (T:TypeId) (n:Nat) (parts:List (Nat×Operand)):Ro:=bif Nat.beq n 0 && Nat.ble (Nat.succ nx) tE then (match parts with
 | []=>match Pq P T with
   | some (e,sz)=>.val (.sl nx 0 0 sz (some 0)) (h.set (some (.cells (Nw .nil) e false nx)) tE nx) (Nat.succ nx)
   | none=>.bad
 | _=>.bad) else .bad
def mv6 (P:Program) (E:Tr CV) (h:Tr CB) (nx:Nat) (s:TypeId) (t:TypeId) (x:Operand):Ro:=match uM E x with
 | some (.sl b o n sz c)=>match P.underlying t with
   | some (.slice e)=>match P.underlying e with
     | some (.int .u8)=>bif Nat.beq s t && Nat.ble (Nat.succ nx) tE then (match h.get b with
       | some (.cells l ty false _)=>.val (.sl b o n sz c) (h.set (some (.ro l ty nx)) tE b) (Nat.succ nx)
       | _=>.bad) else .bad
     | _=>.bad
   | _=>.bad
 | _=>.bad
def mv7 (P:Program) (E:Tr CV) (h:Tr CB) (nx:Nat) (T:TypeId) (x:Operand):Ro:=match uM E x with
 | some (.ptr t o)=>match h.get t with
   | some (.ro l _ _)=>bif vK P T then (match DY l o with | some c=>.val c h nx | none=>.bad) else .bad
   | _=>.bad
 | _=>.bad
def mv8 (P:Program) (E:Tr CV) (h:Tr CB) (nx:Nat) (T:TypeId) (x:Operand) (i:Operand):Ro:=match uM E x with
 | some (.str s)=>match P.underlying T with
   | some .string=>match uM E i with
     | some (.int _ m)=>bif wI 0 m then (match Hw s m.toNat with | some c=>.val c h nx | none=>.bad) else .bad
     | _=>.bad
   | _=>.bad
 | _=>.bad
def mv9 (P:Program) (E:Tr CV) (h:Tr CB) (nx:Nat) (T:TypeId) (x:Operand) (lo hi:Option Operand):Ro:=match uM E x with
 | some (.ptr t o)=>match lo with
   | none=>match hi with
     | none=>match VJ P T with
       | some (n,_,sz)=>match h.get t with
         | some (.cells l _ _ _)=>bif Nat.ble (Nat.add o (Nat.mul n sz)) l.n && Nat.ble n 4611686018427387904 then .val (.sl t o n sz (some n)) h nx else .bad
         | _=>.bad
       | none=>.bad
     | some _=>.bad
   | some _=>.bad
 | some (.str s)=>match P.underlying T with
   | some .string=>match RQ E lo with
     | some l=>match hiC E (tW s) hi with
       | some hh=>bif wI 0 l && (wI l hh && wI hh (tW s)) then .val (.str (Ca (hh.toNat - l.toNat) (Bz l.toNat s))) h nx else .bad
       | none=>.bad
     | none=>.bad
   | _=>.bad
 | _=>.bad
def VW:CV→Bool
 | .int .u8 n=>wI 0 n && not (wI 256 n)
 | _=>false
def KB (l:CV):Bool:=lrec true (fun a _ ih=>VW a && ih) l
def VX (P:Program) (E:Tr CV) (h:Tr CB) (nx:Nat) (s:TypeId) (x:Operand):Ro:=match P.underlying s with
 | some (.slice e)=>match P.underlying e with
   | some (.int .u8)=>match uM E x with
     | some .nils=>.val (.str .nil) h nx
     | some (.sl b o n sz _)=>match h.get b with
       | some (.cells l _ _ _)=>bif Nat.beq (tW (uE l o n)) n && KB (uE l o n) then .val (.str (uE l o n)) h nx else .bad
       | _=>.bad
     | _=>.bad
   | _=>.bad
 | _=>.bad
def VY (P:Program) (E:Tr CV) (h:Tr CB) (nx:Nat) (s:TypeId) (x:Operand):Ro:=match P.underlying s with
 | some (.pointer u)=>match EZ P u with
   | some k=>bif Nat.beq k 0 then .bad else (match uM E x with
     | some (.ptr t o)=>match h.get t with
       | some (.cells l _ _ _)=>bif Nat.ble (Nat.succ o) l.n then .val (.ptr t o) h nx else .bad
       | _=>.bad
     | _=>.bad)
   | none=>.bad
 | _=>.bad
def VZ (P:Program) (E:Tr CV) (h:Tr CB) (nx:Nat) (s u:TypeId) (x:Operand):Ro:=match P.underlying s with
 | some .unsafePointer=>match P.info? u with
   | some _=>match uM E x with
     | some (.ptr t o)=>match h.get t with
       | some (.cells l ty false _)=>bif liesAt P P.depth ty (l.n / P.cellsOf ty) o u 1 then .val (.ptr t o) h nx else .bad
       | _=>.bad
     | _=>.bad
   | none=>.bad
 | _=>.bad
def mvC (P:Program) (E:Tr CV) (h:Tr CB) (nx:Nat) (s t:TypeId) (x:Operand):Ro:=match P.underlying t with
 | some .string=>VX P E h nx s x
 | some .unsafePointer=>VY P E h nx s x
 | some (.pointer u)=>VZ P E h nx s u x
 | _=>mv6 P E h nx s t x
def WA (E:Tr CV) (h:Tr CB) (nx:Nat) (x:Operand):Ro:=match uM E x with
 | some (.sl t o n _ (some c))=>bif Nat.beq c 0 then .bad else .val (.ptr t o) h nx
 | some (.sl t o n _ none)=>bif Nat.beq n 0 then .bad else .val (.ptr t o) h nx
 | some .nils=>.val .nilp h nx
 | _=>.bad
def WB (P:Program) (E:Tr CV) (h:Tr CB) (nx:Nat) (x y:Operand) (pt it:TypeId):Ro:=match uM E y with
 | some (.int .i64 m)=>match uM E x with
   | some .nilp=>bif Hx m 0 then .val (.str .nil) h nx else .bad
   | some (.ptr t o)=>match P.underlying pt with
     | some (.pointer e)=>match h.get t with
       | some (.cells l ty _ _)=>bif (Nat.beq o 0 && (Nat.beq ty e && Nat.beq (P.cellsOf e) 1)) && ((wI 1 m && wI m 9223372036854775807) && (Nat.beq (tW (uE l 0 m.toNat)) m.toNat && (KB (uE l 0 m.toNat) && Nat.ble nx tE))) then .val (.str (uE l 0 m.toNat)) (h.set none tE t) nx else .bad
       | _=>.bad
     | _=>.bad
   | _=>.bad
 | _=>.bad
def Pw (P:Program) (g:Nat):Bool:=match Ed P.funcs.toList g with
 | some fn => fn.name == "internal/abi.NoEscape" && (fn.origin == "" && fn.body.isNone)
 | none=>false
def WC (P:Program):Operand→Bool
 | .func g=>Pw P g
 | _=>false
theorem KC {fn : Func} (hn : fn.name = "internal/abi.NoEscape") (ho : fn.origin = "") : Extern.findNext fn = none ∧ Extern.find fn = some Extern.AbiNoEscape.same := by
 have h1 : Extern.allNextRows.lookup "internal/abi.NoEscape" = none := by kernel_rfl
 have h2 : Extern.allNextRows.lookup "" = none := by kernel_rfl
 refine ⟨?_,?_⟩
 · unfold Extern.findNext
   simp only [hn,ho,h1,h2];rfl
 unfold Extern.find
 simp only [hn]
 have h3 : Extern.allGenericRows.lookup "internal/abi.NoEscape" = none := by kernel_rfl
 have h4 : Extern.allTypedRows.lookup "internal/abi.NoEscape" = none := by kernel_rfl
 simp only [h3,h4]
 rfl
theorem KD {P : Program} {g : Nat} (h : Pw P g = true) : ∃ fn, P.funcs[g]? = some fn ∧ (fn.name == "runtime.NumGoroutine") = false ∧ fn.body.isNone = true ∧ Extern.findNext fn = none ∧ Extern.find fn = some Extern.AbiNoEscape.same := by
 unfold Pw at h
 split at h
 · rename_i fn hfn
   simp only [aC,beq_iff_eq] at h
   rw [xA,nL] at hfn
   obtain ⟨k1,k2⟩:=KC h.1 h.2.1
   exact ⟨fn,hfn,by rw [h.1];decide,h.2.2,k1,k2⟩
 cases h
def WD (P:Program) (E:Tr CV) (h:Tr CB) (nx:Nat) (g:Nat) (x:Operand):Ro:=bif Pw P g then (match uM E x with | some c=>.val c h nx | none=>.bad) else .bad
def WE (P:Program) (E:Tr CV) (h:Tr CB) (nx:Nat) (T:TypeId) (x:Operand):Ro:=match uM E x with
 | some (.str s)=>match P.underlying T with
   | some .string=>bif Nat.ble (Nat.succ nx) tE then .val (.ptr nx 0) (h.set (some (.it s 0 nx)) tE nx) (Nat.succ nx) else .bad
   | _=>.bad
 | _=>.bad
def WF (E:Tr CV) (h:Tr CB) (nx:Nat) (x:Operand):Ro:=match uM E x with
 | some (.ptr t o)=>bif Nat.beq o 0 then (match h.get t with
   | some (.it l pos _)=>match Hw l pos with
     | some (.int .u8 n)=>bif wI 0 n && (not (wI 128 n) && Nat.ble (Nat.succ nx) tE) then .val (.tup (.cons (.bool true) (.cons (.int .i64 pos) (.cons (.int .i32 n) .nil)))) (h.set (some (.it l (Nat.succ pos) nx)) tE t) (Nat.succ nx) else .bad
     | none=>bif Nat.ble (tW l) pos then .val (.tup (.cons (.bool false) .nil)) h nx else .bad
     | _=>.bad
   | _=>.bad) else .bad
 | _=>.bad
def mv (P:Program) (E:Tr CV) (h:Tr CB) (nx:Nat):Op→Ro
 | .makeMap T none=>dk P E h nx T
 | .lookup T x i c=>mv1 P E h nx T x i c
 | .mapUpdate T x i y=>mv2 P E h nx T x i y
 | .mapEntry T x i=>mv3 P E h nx T x i
 | .entryStore T x s y=>mv4 P E h nx T x s y
 | .buildSlice T n ⟨parts⟩=>mv5 P E h nx T n parts
 | .convert s t x=>mvC P E h nx s t x
 | .load T x=>mv7 P E h nx T x
 | .index T x i=>mv8 P E h nx T x i
 | .slice T x lo hi none=>mv9 P E h nx T x lo hi
 | .call ⟨.builtin .unsafeSliceData,⟨[x]⟩,_⟩=>WA E h nx x
 | .call ⟨.builtin .unsafeString,⟨[x,y]⟩,⟨[pt,it]⟩⟩=>WB P E h nx x y pt it
 | .call ⟨.value (.func g),⟨[x]⟩,_⟩=>WD P E h nx g x
 | .range T x=>WE P E h nx T x
 | .next x true=>WF E h nx x
 | _=>.bad
section
variable {P:Program} {nx n:Nat} {ρ:Pl} {Φ:Imm→Prop} {w0:Bas Φ} {w:World} {E:Tr CV} {h:Tr CB} {a:Act}
theorem Sd {κ:Type} [DecidableEq κ] [OneVal κ] {t:Nat} {b b':CB} {l:List (κ×Int)} (hm:Mem ρ w0 h nx w) (hfit:nx≤tE) (ht:h.get t=some b) (hst:Rr b'=nx) (hb:DB nx ρ (ρ t).2 b' (uF l)) :
 Mem ρ w0 (h.set (some b') tE t) (nx+1) { w with heap:=w.heap.setIfInBounds (ρ t).1 (uF l) }∧Oc ρ h nx w ρ (h.set (some b') tE t) { w with heap:=w.heap.setIfInBounds (ρ t).1 (uF l) }:=
 hm.write hfit hst ht MG (by simp [hm.lt ht]) hb
variable {κ:Type} [DecidableEq κ] [OneVal κ] {T kt:TypeId}
theorem Oe {r:Nat} {xs:List (κ×Int)} {k:κ} {v:Int} (hT:MapT P T kt κ) (hb:w.heap[r]?=some (uF xs)):(Instr.mapUpdate T (.map (some r)) (OneVal.val k) (.int .i64 v)).run P w =
 .ok () { w with heap:=w.heap.setIfInBounds r (uF (Nk xs k v)) }:=by
 obtain ⟨⟨et,hu,hz⟩,hk⟩:=hT
 simp only [Instr.mapUpdate,bG,aV hu,aP,mX (P:=P) hb,bL,hk.check,hk.look]
 cases hm:wV xs k with
 | none =>
   rw [(Gu xs k).1 hm,BP xs k v hm]
   simp only [Option.bind_none,mW (P:=P) _ hb,aP]
   congr 3
   simp [uF,Bh,tP]
 | some u =>
   obtain ⟨i,h1,h2,h3⟩:=Ot xs k hm
   rw [h1,h3]
   have hg:(tP 0 xs)[i]?=some { key:=OneVal.val k,val:=.int .i64 u,born:=0+i }:=by rw [wR,h2];rfl
   simp only [iV,eY,nJ,hg,hJ,bG,hk.stays,aP,mW (P:=P) _ hb]
   congr 3
   simp only [uF,aH,Il xs i k u v h2]
   congr 1
   apply rS
   simp only [Array.toList_modify]
   apply fL
   intro j
   simp only [qR,wR]
   by_cases hij:i=j
   · subst hij;simp [h2]
   simp [hij]
theorem Se {r:Nat} {xs:List (κ×Int)} {k:κ} (hT:MapT P T kt κ) (hb:w.heap[r]?=some (uF xs)) (hk0:wV xs k=none):(Instr.mapEntry T (.map (some r)) (OneVal.val k)).run P w =
 .ok (.tuple #[.int .i64 0,.int .i64 xs.length]) { w with heap:=w.heap.setIfInBounds r (uF (xs++[(k,0)])) }:=by
 obtain ⟨⟨et,hu,hz⟩,hk⟩:=hT
 simp only [Instr.mapEntry,bG,aV hu,aP,mX (P:=P) hb,bL,hk.check,hk.look]
 rw [(Gu xs k).1 hk0]
 simp only [Option.bind_none,bG,hz,aP,mW (P:=P) _ hb,bL,goInt]
 congr 3
 simp [uF,Bh,tP]
theorem Mt {r i:Nat} {xs:List (κ×Int)} {v:Int} (hb:w.heap[r]?=some (uF xs)) (hi:i<xs.length):(Instr.entryStore T (.map (some r)) (.int .i64 i) (.int .i64 v)).run P w =
 .ok () { w with heap:=w.heap.setIfInBounds r (uF (xs.modify i fun p=>(p.1,v))) }:=by
 obtain ⟨k,u,hku⟩:∃ k u,xs[i]?=some (k,u):=⟨_,_,aB hi⟩
 have hfind:(tP 0 xs).toArray.findIdx? (fun e=>(e.born:Int) == (i:Int))=some i:=by
  rw [List.findIdx?_toArray,rT]
  have hl:(tP 0 xs).length=xs.length:=Kl xs 0
  refine ⟨by omega,?_,?_⟩
  · have:=wR xs 0 i
    rw [aB (show i<(tP 0 xs).length by omega),hku] at this
    simp at this
    simp [this]
  intro j hj
  have:=wR xs 0 j
  rw [aB (show j<(tP 0 xs).length by omega),aB (show j<xs.length by omega)] at this
  simp at this
  simp [this];omega
 simp only [Instr.entryStore,bG,mX (P:=P) hb,aP,asInt,asIntOf,bL]
 rw [hfind]
 simp only [mW (P:=P) _ hb,aP,bL]
 congr 3
 have h3:=Il xs i k u v hku 0
 have h4:xs.modify i (fun p=>(p.1,v))=xs.set i (k,v):=by
  apply fL
  intro j
  rw [qR,fD]
  by_cases hij:i=j
  · subst hij;obtain ⟨_,hg⟩:=aS.1 hku;simp [hi,hg]
  simp [hij]
 rw [h4]
 simp only [uF,h3,aH]
 simp
theorem AT {κ:Type} [DecidableEq κ] [OneVal κ] {eq:κ→κ→Bool} (he:∀ a b,eq a b=decide (a=b)) {T kt t:Nat} {x i:Operand} {c:Bool} {l:List (κ×Int)} {b:CB} {k:κ} {kc:CV} (hT:MapT P T kt κ) (hs:Slots ρ E nx n a) (hm:Mem ρ w0 h nx w) (hfit:nx≤tE)
 (hx:uM E x=some (.mp t)) (hi:uM E i=some kc) (hk:∀ v,Kn nx ρ kc v→v=OneVal.val k) (ht:h.get t=some b) (hb:∀ o,DB nx ρ (ρ t).2 b o→o=uF l):Wd P (.lookup T x i c) ρ w0 h nx a w (.val (SQ c (Ob eq k l)) h nx):=by
 obtain ⟨v1,e1,k1⟩:=tB hs hx
 obtain ⟨v2,e2,k2⟩:=tB hs hi
 have:=Md k1
 subst this
 have:=hk _ k2
 subst this
 obtain ⟨_,_,_,o,h3,h4⟩:=hm.own t _ ht
 have:=hb o h4
 subst this
 rw [Jq he]
 refine ⟨aG _,_,w,ρ,dH _ _,JR,hm,hfit,gB,fun d ty pos after g=>?_⟩
 simp only [execOp,uZ e1,uZ e2,bG,Dy hT h3 c,aP,bL]
theorem KE {κ:Type} [DecidableEq κ] [OneVal κ] {eq:κ→κ→Bool} (he:∀ a b,eq a b=decide (a=b)) {T kt t:Nat} {x i y:Operand} {l:List (κ×Int)} {b b':CB} {k:κ} {kc:CV} {v:Int} (hT:MapT P T kt κ) (hs:Slots ρ E nx n a) (hm:Mem ρ w0 h nx w) (hfit:Nat.ble (Nat.succ nx) tE=true)
 (hx:uM E x=some (.mp t)) (hi:uM E i=some kc) (hy:uM E y=some (.int .i64 v)) (hk:∀ v,Kn nx ρ kc v→v=OneVal.val k) (ht:h.get t=some b) (hb:∀ o,DB nx ρ (ρ t).2 b o→o=uF l) (hst:Rr b'=nx) (hb':DB nx ρ (ρ t).2 b' (uF (JQ eq k v l))) :
 Wd P (.mapUpdate T x i y) ρ w0 h nx a w (.unit (h.set (some b') tE t) (Nat.succ nx)):=by
 obtain ⟨v1,e1,k1⟩:=tB hs hx
 obtain ⟨v2,e2,k2⟩:=tB hs hi
 obtain ⟨v3,e3,k3⟩:=tB hs hy
 have:=Md k1
 subst this
 have:=hk _ k2
 subst this
 have:=gJ.1 k3.2
 subst this
 obtain ⟨_,_,_,o,h3,h4⟩:=hm.own t _ ht
 have:=hb o h4
 subst this
 have hf:=tL hfit
 obtain ⟨g1,g2⟩:=Sd hm sV ht hst hb'
 refine ⟨dB _,_,ρ,dH _ _,g1,hf,g2,fun ty pos after g=>?_⟩
 rw [OH he]
 simp only [execOp,uZ e1,uZ e2,uZ e3,bG,Oe hT h3,aP,bL]
theorem KF {κ:Type} [DecidableEq κ] [OneVal κ] {eq:κ→κ→Bool} (he:∀ a b,eq a b=decide (a=b)) {T kt t:Nat} {x i:Operand} {l:List (κ×Int)} {b b':CB} {k:κ} {kc:CV} (hT:MapT P T kt κ) (hs:Slots ρ E nx n a) (hm:Mem ρ w0 h nx w) (hfit:Nat.ble (Nat.succ nx) tE=true)
 (hx:uM E x=some (.mp t)) (hi:uM E i=some kc) (h0:Ob eq k l=none) (hk:∀ v,Kn nx ρ kc v→v=OneVal.val k) (ht:h.get t=some b) (hb:∀ o,DB nx ρ (ρ t).2 b o→o=uF l) (hst:Rr b'=nx) (hb':DB nx ρ (ρ t).2 b' (uF (l++[(k,0)]))) :
 Wd P (.mapEntry T x i) ρ w0 h nx a w (.val (.tup (.cons (.int .i64 0) (.cons (.int .i64 l.length) .nil))) (h.set (some b') tE t) (Nat.succ nx)):=by
 obtain ⟨v1,e1,k1⟩:=tB hs hx
 obtain ⟨v2,e2,k2⟩:=tB hs hi
 have:=Md k1
 subst this
 have:=hk _ k2
 subst this
 obtain ⟨_,_,_,o,h3,h4⟩:=hm.own t _ ht
 have:=hb o h4
 subst this
 have hf:=tL hfit
 rw [Jq he] at h0
 obtain ⟨g1,g2⟩:=Sd hm sV ht hst hb'
 refine ⟨dB _,.tuple #[.int .i64 0,.int .i64 l.length],_,ρ,dH _ _,⟨⟨trivial,trivial,trivial⟩,qE.2 ⟨_,kT.2 ⟨_,_,rfl,rfl,kT.2 ⟨_,_,rfl,rfl,rfl⟩⟩,rfl⟩⟩,g1,hf,g2,fun d ty pos after g=>?_⟩
 simp only [execOp,uZ e1,uZ e2,bG,Se hT h3 h0,aP,bL]
theorem KG {κ:Type} [DecidableEq κ] [OneVal κ] {T t:Nat} {x s y:Operand} {l:List (κ×Int)} {b b':CB} {m v:Int} (hs:Slots ρ E nx n a) (hm:Mem ρ w0 h nx w) (hfit:Nat.ble (Nat.succ nx) tE=true)
 (hx:uM E x=some (.mp t)) (hi:uM E s=some (.int .i64 m)) (hy:uM E y=some (.int .i64 v)) (h0:0≤m) (hl:Nat.ble (Nat.succ m.toNat) l.length=true) (ht:h.get t=some b) (hb:∀ o,DB nx ρ (ρ t).2 b o→o=uF l) (hst:Rr b'=nx) (hb':DB nx ρ (ρ t).2 b' (uF (EL (fun p=>(p.1,v)) l m.toNat))) :
 Wd P (.entryStore T x s y) ρ w0 h nx a w (.unit (h.set (some b') tE t) (Nat.succ nx)):=by
 obtain ⟨v1,e1,k1⟩:=tB hs hx
 obtain ⟨v2,e2,k2⟩:=tB hs hi
 obtain ⟨v3,e3,k3⟩:=tB hs hy
 have:=Md k1
 subst this
 have:=gJ.1 k2.2
 subst this
 have:=gJ.1 k3.2
 subst this
 obtain ⟨_,_,_,o,h3,h4⟩:=hm.own t _ ht
 have:=hb o h4
 subst this
 have hf:=tL hfit
 obtain ⟨g1,g2⟩:=Sd hm sV ht hst hb'
 refine ⟨dB _,_,ρ,dH _ _,g1,hf,g2,fun ty pos after g=>?_⟩
 rw [AS]
 have hr:=Mt (P:=P) (T:=T) (w:=w) (v:=v) h3 (tL hl)
 rw [cP h0] at hr
 simp only [execOp,uZ e1,uZ e2,uZ e3,bG,hr,aP,bL]
theorem PQ {ρ':Pl} {s:Nat} (h:ρ' nx=(w.heap.size,s)):DV ρ' (.mp nx) (.map (some w.heap.size)):=by rw [DV.mp,h]
theorem run_mark {t e:TypeId} {b o n c:Nat} {cs:Array Value} {ty:TypeId} (ht:P.underlying t=some (.slice e)) (he:P.underlying e=some (.int .u8)) (hb:w.heap[b]?=some (.cells cs ty (0,0))) :
 (convert t t (.slice (some ⟨b,o,none⟩) n c)).run P w=.ok (.slice (some ⟨b,o,none⟩) n c) (w.freeze ⟨b,cs.size,none⟩ 1):=by
 have hsh:w.shape? b=some (ty,cs.size):=by unfold World.shape?;rw [hb]
 simp [convert,aV ht,aV he,markStringish,hsh]
theorem freeze_upd {b k:Nat}:Upd (·=b) w (w.freeze ⟨b,k,none⟩ 1):=⟨rfl,rfl,rfl,by simp [World.freeze],fun j _ hj=>by
 have hj':b≠j:=fun e=>hj e.symm
 simp [World.freeze,kN,hj']⟩
theorem Vi {b k:Nat} (hk:k≠0):Upd (·=b) w (w.freeze ⟨b,0,none⟩ k):=by
 have e:∃ f,w.freeze ⟨b,0,none⟩ k={ w with heap:=w.heap.modify b f }:=⟨_,by unfold World.freeze;simp only [hk,eS];rfl⟩
 obtain ⟨f,e⟩:=e
 rw [e]
 exact ⟨rfl,rfl,rfl,by simp,fun j _ hj=>by
  have hj':b≠j:=fun e=>hj e.symm
  simp [kN,hj']⟩
theorem freeze_at {b k:Nat} {cs:Array Value} {ty:TypeId} (hb:w.heap[b]?=some (.cells cs ty (0,0))):(w.freeze ⟨b,k,none⟩ 1).heap[b]?=some (.cells cs ty (k,k+1)):=by
 simp [World.freeze,kN,hb]
theorem RZ {a b:ByteArray} (h:a.data=b.data):a=b:=by cases a;cases b;exact congrArg _ h
theorem Ye (l:List UInt8) (i j:Nat):(ByteArray.mk l.toArray).extract i j=⟨((l.drop i).take (j - i)).toArray⟩:=by
 apply RZ
 rw [ByteArray.data_extract]
 simp [List.extract_eq_take_drop]
theorem Vj {P:Program} {e:Env} {H:Hp} {G:Imm} {ty T:TypeId} {x:Operand} {lo hi:Option Operand} {s:ByteArray} {l h:Nat} (hT:P.underlying T=some .string) (hx:e.ev x=some (.string s))
 (hl:RG e 0 lo l) (hh:RG e s.size hi h) (hlh:l≤h) (hhs:h≤s.size):Qy P (.slice T x lo hi none) ty e H G (.string (s.extract l h)):=fun ac w _ _ _ _ hk=>by
 have e1:(h:Int)≤s.size:=sV
 have e2:(l:Int)≤h:=sV
 cases lo with
 | none =>
   have hl:l=0:=hl
   subst hl
   cases hi with
   | none=>have hh:h=s.size:=hh;subst hh;simp [execOp,Instr.sliceAt,Instr.slice,hk.eval hx,aV hT,Instr.sliceBounds,Instr.sliceBound,asIntOf]
   | some y =>
     obtain ⟨k,hy⟩:=hh
     simp [execOp,Instr.sliceAt,Instr.slice,hk.eval hx,hk.eval hy,aV hT,Instr.sliceBounds,Instr.sliceBound,asIntOf,e1,hhs]
 | some z =>
   obtain ⟨kz,hz⟩:=hl
   cases hi with
   | none =>
     have hh:h=s.size:=hh
     subst hh
     simp [execOp,Instr.sliceAt,Instr.slice,hk.eval hx,hk.eval hz,aV hT,Instr.sliceBounds,Instr.sliceBound,asIntOf,e2,hlh]
   | some y =>
     obtain ⟨k,hy⟩:=hh
     simp [execOp,Instr.sliceAt,Instr.slice,hk.eval hx,hk.eval hz,hk.eval hy,aV hT,Instr.sliceBounds,Instr.sliceBound,asIntOf,e1,e2,hlh,hhs]
theorem AU {l:CV} {vs:List Value} (hk:KL nx ρ l vs):KB l=true→∃ bs:List UInt8,vs=bs.map fun b=>Value.int .u8 b.toNat:=by
 refine lP (motive:=fun l vs=>KB l=true→∃ bs:List UInt8,vs=bs.map fun b=>Value.int .u8 b.toNat) (fun _=>⟨[],rfl⟩) ?_ hk
 intro a b v vs hv _ ih h
 have h':(VW a && KB b)=true:=h
 rw [aC] at h'
 obtain ⟨bs,rfl⟩:=ih h'.2
 cases a <;> first | (exact absurd (show false=true from h'.1) tF) | skip
 rename_i k n
 cases k <;> first | (exact absurd (show false=true from h'.1) tF) | skip
 have h2:(wI 0 n && not (wI 256 n))=true:=h'.1
 simp only [aC,eD,uR,aT,dM] at h2
 refine ⟨UInt8.ofNat n.toNat :: bs,?_⟩
 rw [bY,gJ.1 hv.2]
 have h3:((UInt8.ofNat n.toNat).toNat:Int)=n:=by
  rw [UInt8.toNat_ofNat']
  have:n.toNat % 2 ^ 8=n.toNat:=gN sV
  omega
 rw [h3]
theorem KH:∀ (bs:List UInt8),((bs.map fun b=>(b.toNat:Int)).foldl (fun r n=>ByteArray.push r (UInt8.ofNat n.toNat)) ByteArray.empty)=⟨bs.toArray⟩:=by
 have key:∀ (bs:List UInt8) (s:List UInt8),((bs.map fun b=>(b.toNat:Int)).foldl (fun r n=>ByteArray.push r (UInt8.ofNat n.toNat)) ⟨s.toArray⟩)=⟨(s++bs).toArray⟩:=by
  intro bs
  induction bs with
  | nil=>intro s;simp
  | cons b bs ih =>
    intro s
    rw [bY,List.foldl_cons]
    have e:ByteArray.push ⟨s.toArray⟩ (UInt8.ofNat ((b.toNat:Int)).toNat)=⟨(s++[b]).toArray⟩:=by
     simp [ByteArray.push]
    rw [e,ih,dQ];rfl
 intro bs
 exact key bs []
theorem WG {op:Op} (hs:Slots ρ E nx n a) (hm:Mem ρ w0 h nx w) (hfit:nx≤tE):Wd P op ρ w0 h nx a w (mv P E h nx op):=by
 unfold mv dk mv1 mv2 mv3 mv4 mv5 mvC mv6 VX VY VZ mv7 mv8 mv9 WA WB WD WE WF
 split
 · rename_i T
   refine tD (Wd _ _ _ _ _ _ _ _) (fun hb=>?_) fun _=>trivial
   have hr:∀ (d:Option Tmp) (ty:TypeId) (pos:String) (after:Array Edge) (g:Option (Nat×Bool)),(execOp a.eval ⟨d,.makeMap T none,ty,pos,after,g⟩).run P w=.ok (.value (.map (some w.heap.size))) (w.alloc (uF ([]:List (Int×Int)))):=fun d ty pos after g=>by
    simp only [execOp,kE,bG,zU,aP,bL];rfl
   refine tD (Wd _ _ _ _ _ _ _ _) (fun _=>?_) fun _=>?_
   · exact pR (s:=0) hm hb rfl (uV w _) (vA w _) (uA w _) rfl (fun ρ' h=>PQ h) (cO _) hr
   refine tD (Wd _ _ _ _ _ _ _ _) (fun _=>?_) fun _=>trivial
   exact pR (s:=0) hm hb rfl (uV w _) (vA w _) (uA w _) rfl (fun ρ' h=>PQ h) (cO _) hr
 · rename_i T x i c
   split
   · rename_i t hx
     split
     · rename_i k hi
       split
       · rename_i l st ht
         split
         · rename_i m hk
           refine tD (Wd _ _ _ _ _ _ _ _) (fun hT=>?_) fun _=>trivial
           obtain ⟨kt,hT⟩:=Rx hT
           exact AT wM hT hs hm hfit hx hi (fun v hv=>Jr hk hv) ht fun o ho=>ho
         trivial
       · rename_i l st ht
         split
         · rename_i m hk
           refine tD (Wd _ _ _ _ _ _ _ _) (fun hT=>?_) fun _=>trivial
           obtain ⟨kt,hT⟩:=Ry hT
           exact AT Rv hT hs hm hfit hx hi (fun v hv=>Js hk hv) ht fun o ho=>ho
         trivial
       trivial
     trivial
   trivial
 · rename_i T x i y
   split
   · rename_i t hx
     split
     · rename_i k hi
       split
       · rename_i v hy
         refine tD (Wd _ _ _ _ _ _ _ _) (fun hb=>?_) fun _=>trivial
         split
         · rename_i l st ht
           split
           · rename_i m hk
             refine tD (Wd _ _ _ _ _ _ _ _) (fun hT=>?_) fun _=>trivial
             obtain ⟨kt,hT⟩:=Rx hT
             exact KE wM hT hs hm hb hx hi hy (fun v hv=>Jr hk hv) ht (fun o ho=>ho) rfl rfl
           trivial
         · rename_i l st ht
           split
           · rename_i m hk
             refine tD (Wd _ _ _ _ _ _ _ _) (fun hT=>?_) fun _=>trivial
             obtain ⟨kt,hT⟩:=Ry hT
             exact KE Rv hT hs hm hb hx hi hy (fun v hv=>Js hk hv) ht (fun o ho=>ho) rfl rfl
           trivial
         trivial
       trivial
     trivial
   trivial
 · rename_i T x i
   split
   · rename_i t hx
     split
     · rename_i k hi
       refine tD (Wd _ _ _ _ _ _ _ _) (fun hb=>?_) fun _=>trivial
       split
       · rename_i l st ht
         split
         · rename_i m hk
           refine tD (Wd _ _ _ _ _ _ _ _) (fun hT=>?_) fun _=>trivial
           obtain ⟨kt,hT⟩:=Ry hT
           split
           · rename_i h0
             exact KF Rv hT hs hm hb hx hi h0 (fun v hv=>Js hk hv) ht (fun o ho=>ho) rfl rfl
           trivial
         trivial
       · rename_i l st ht
         split
         · rename_i m hk
           refine tD (Wd _ _ _ _ _ _ _ _) (fun hT=>?_) fun _=>trivial
           obtain ⟨kt,hT⟩:=Rx hT
           split
           · rename_i h0
             exact KF wM hT hs hm hb hx hi h0 (fun v hv=>Jr hk hv) ht (fun o ho=>ho) rfl rfl
           trivial
         trivial
       trivial
     trivial
   trivial
 · rename_i T x s y
   split
   · rename_i t hx
     split
     · rename_i m hi
       split
       · rename_i v hy
         refine tD (Wd _ _ _ _ _ _ _ _) (fun hb=>?_) fun _=>trivial
         rw [aC,uR,aT] at hb
         split
         · rename_i l st ht
           refine tD (Wd _ _ _ _ _ _ _ _) (fun hl=>?_) fun _=>trivial
           exact KG hs hm hb.1 hx hi hy hb.2 hl ht (fun o ho=>ho) rfl rfl
         · rename_i l st ht
           refine tD (Wd _ _ _ _ _ _ _ _) (fun hl=>?_) fun _=>trivial
           exact KG hs hm hb.1 hx hi hy hb.2 hl ht (fun o ho=>ho) rfl rfl
         trivial
       trivial
     trivial
   trivial
 · rename_i T N parts
   refine tD (Wd _ _ _ _ _ _ _ _) (fun hb=>?_) fun _=>trivial
   rw [aC] at hb
   have:=aD hb.1
   subst this
   split
   · split
     · rename_i e sz hT
       have hT':=vZ hT
       refine pR (s:=0) hm hb.2 rfl (uV w _) (vA w _) (uA w _) (v:=.slice (some ⟨w.heap.size,0,none⟩) 0 0) (wN nS e) (fun ρ' h=>jU.2 ⟨by rw [h],by omega,by omega,by omega⟩) (cO _) fun d ty pos after g=>?_
       simp [execOp,Instr.buildSlice,aV hT'.1,run_sizeOf w hT'.2,Instr.fill,newRow,show Array.range 0=#[] from nV tS]
     trivial
   trivial
 · rename_i s t x
   split
   · rename_i ht
     split
     · rename_i e hs1
       split
       · rename_i he
         have hrun:=fun (a':Option Addr) (l c:Nat)=>run_convert_bytes_string (P:=P) w s t e a' l c hs1 he ht
         split
         · rename_i hx
           obtain ⟨v,e1,k1⟩:=tB hs hx
           have e2:=nG.1 k1.2
           subst e2
           refine ⟨aG _,.string ByteArray.empty,w,ρ,dH _ _,⟨trivial,[],[],rfl,rfl,rfl⟩,hm,hfit,gB,fun d ty pos after g=>?_⟩
           simp only [execOp,uZ e1,bG,hrun,Conv.bytesToString,bL,aP]
         · rename_i b o N sz c hx
           split
           · rename_i l ty op st hbk
             refine tD (Wd _ _ _ _ _ _ _ _) (fun hb=>?_) fun _=>trivial
             rw [aC] at hb
             obtain ⟨v,e1,k1⟩:=tB hs hx
             obtain ⟨C,hv⟩:=Cc k1
             subst hv
             obtain ⟨_,_,_,ob,h3,vs,junk,kl,rfl,hlen,hj⟩:=hm.own b _ hbk
             have hl:=aD hb.1
             have kk:=xS kl hl
             obtain ⟨bs,hbs⟩:=AU kk hb.2
             have hln:((vs.drop o).take N).length=N:=by rw [←tZ kk];exact hl
             have hld:(loadCells ⟨(ρ b).1,o,none⟩ N).run P w=.ok ((bs.map fun b=>(b.toNat:Int)).map (Value.int .u8)).toArray w:=by
              have:=mC (P:=P) w ⟨(ρ b).1,o,none⟩ ((vs.drop o).take N) (fun j v hj=>by
               rw [add_lit,cell_of_block h3]
               rw [iY] at hj
               split at hj
               · rw [eV] at hj
                 rw [bH (aS.1 hj).1];exact hj
               cases hj)
              rw [hln] at this
              rw [this,hbs,List.map_map];rfl
             refine ⟨aG _,.string ⟨bs.toArray⟩,w,ρ,dH _ _,⟨kk.1,(vs.drop o).take N,bs,kk.2,hbs,rfl⟩,hm,hfit,gB,fun d ty pos after g=>?_⟩
             simp only [execOp,uZ e1,bG,hrun,run_bytesToString w _ _ _ _ hld,aP,bL]
             rw [KH]
           trivial
         trivial
       trivial
     trivial
   · rename_i hd
     split
     · rename_i u hs1
       split
       · rename_i k hk
         refine tD (Wd _ _ _ _ _ _ _ _) (fun _=>trivial) fun h0=>?_
         split
         · rename_i tb o hx
           split
           · rename_i l ty op st hbk
             refine tD (Wd _ _ _ _ _ _ _ _) (fun hb=>?_) fun _=>trivial
             have hb:=tL hb
             obtain ⟨v,e1,k1⟩:=tB hs hx
             have e3:=mI.1 k1.2
             subst e3
             obtain ⟨_,_,_,ob,h3,vs,junk,kl,rfl,hlen,hj⟩:=hm.own tb _ hbk
             have hl:=Fp kl
             have hsh:w.shape? (ρ tb).1=some (ty,(vs++junk).toArray.size):=by unfold World.shape?;rw [h3]
             obtain ⟨j,hj1,hj2⟩:=gA.1 (Dx hk)
             have hj0:j.size≠0:=by rw [hj2];exact fun e=>by subst e;simp at h0
             refine ⟨aG _,_,w,ρ,dH _ _,k1,hm,hfit,gB,fun d ty' pos after g=>?_⟩
             simp only [execOp,uZ e1,bG,Lib.run_to_unsafe w ⟨(ρ tb).1,o,none⟩ hs1 hd hj1 hj0 hsh (by simp;omega),aP,bL]
           trivial
         trivial
       trivial
     trivial
   · rename_i u hd
     split
     · rename_i hs1
       split
       · rename_i j hj1
         split
         · rename_i tb o hx
           split
           · rename_i l ty st hbk
             refine tD (Wd _ _ _ _ _ _ _ _) (fun hb=>?_) fun _=>trivial
             obtain ⟨v,e1,k1⟩:=tB hs hx
             have e3:=mI.1 k1.2
             subst e3
             obtain ⟨_,_,_,ob,h3,vs,junk,kl,rfl,hlen,hj⟩:=hm.own tb _ hbk
             have hj0:=hj rfl
             subst hj0
             have hl:=Fp kl
             have hsh:w.shape? (ρ tb).1=some (ty,l.n):=by unfold World.shape?;rw [h3];simp [hl]
             refine ⟨aG _,_,w,ρ,dH _ _,k1,hm,hfit,gB,fun d ty' pos after g=>?_⟩
             simp only [execOp,uZ e1,bG,Lib.run_from_unsafe w ⟨(ρ tb).1,o,none⟩ hs1 hd hj1 hsh hb,aP,bL]
           trivial
         trivial
       trivial
     trivial
   split
   · rename_i b o N sz c hx
     split
     · rename_i e ht
       split
       · rename_i he
         refine tD (Wd _ _ _ _ _ _ _ _) (fun hb=>?_) fun _=>trivial
         rw [aC] at hb
         have:=aD hb.1
         subst this
         have hf:=tL hb.2
         split
         · rename_i l ty st hbk
           obtain ⟨v,e1,k1⟩:=tB hs hx
           obtain ⟨_,_,_,ob,h3,vs,junk,kl,rfl,hlen,hj⟩:=hm.own b _ hbk
           have hj0:=hj rfl
           subst hj0
           rw [fU] at h3
           obtain ⟨C,hv⟩:=Cc k1
           subst hv
           obtain ⟨m2,o2⟩:=hm.write (b':=.ro l ty nx) sV rfl hbk freeze_upd (freeze_at (k:=vs.toArray.size) h3) ⟨vs,_,kl,rfl⟩
           refine ⟨dB _,_,_,ρ,dH _ _,⟨k1.1.mono (dB _) _,k1.2⟩,m2,hf,o2,fun d ty pos after g=>?_⟩
           simp only [execOp,uZ e1,bG,run_mark ht he h3,aP,bL]
         trivial
       trivial
     trivial
   trivial
 · rename_i T x
   split
   · rename_i t o hx
     split
     · rename_i l ty st ht
       refine tD (Wd _ _ _ _ _ _ _ _) (fun h1=>?_) fun _=>trivial
       split
       · rename_i c hc
         obtain ⟨v,e1,k1⟩:=tB hs hx
         have e3:=mI.1 k1.2
         subst e3
         obtain ⟨_,_,_,ob,h3,vs,fz,kl,rfl⟩:=hm.own t _ ht
         obtain ⟨u,e2,k3⟩:=AN kl hc
         refine ⟨aG _,u,w,ρ,dH _ _,k3,hm,hfit,gB,fun d ty pos after g=>?_⟩
         have hc:w.cell? ⟨(ρ t).1,o,none⟩=some u:=by rw [cell_of_block h3];simpa using e2
         simp [execOp,uZ e1,wW h1 hc]
       trivial
     trivial
   trivial
 · rename_i T x i
   split
   · rename_i s hx
     split
     · rename_i hT
       split
       · rename_i k m hi
         refine tD (Wd _ _ _ _ _ _ _ _) (fun h1=>?_) fun _=>trivial
         rw [uR,aT] at h1
         split
         · rename_i c hc
           obtain ⟨v,e1,k1⟩:=tB hs hx
           obtain ⟨bs,rfl,k2⟩:=Fv k1
           obtain ⟨v2,e2,k3⟩:=tB hs hi
           have e3:=gJ.1 k3.2
           subst e3
           obtain ⟨u,e4,k4⟩:=Cp k2 hc
           refine ⟨aG _,u,w,ρ,dH _ _,k4,hm,hfit,gB,fun d ty pos after g=>?_⟩
           have e5:∃ b,bs[m.toNat]?=some b∧u=.int .u8 b.toNat:=by
            rw [cK] at e4
            cases hb:bs[m.toNat]? with
            | none=>rw [hb] at e4;cases e4
            | some b=>rw [hb] at e4;cases e4;exact ⟨b,rfl,rfl⟩
           obtain ⟨b,e6,rfl⟩:=e5
           have e7:(ByteArray.mk bs.toArray)[m.toNat]?=some b:=by
            obtain ⟨hl,hg⟩:=aS.1 e6
            have hs':m.toNat<(ByteArray.mk bs.toArray).size:=by show m.toNat<bs.toArray.size;simpa using hl
            rw [getElem?_pos (ByteArray.mk bs.toArray) m.toNat hs']
            congr 1
           simp [execOp,uZ e1,uZ e2,Instr.index,asIntOf,aV hT,h1,e7]
         trivial
       trivial
     trivial
   trivial
 · rename_i T x lo hi
   split
   · rename_i t o hx
     split
     · split
       · split
         · rename_i N E' sz hT
           obtain ⟨hu,hs'⟩:=Hz hT
           split
           · rename_i l ty op st ht
             refine tD (Wd _ _ _ _ _ _ _ _) (fun h1=>?_) fun _=>trivial
             rw [aC] at h1
             have h2:o+N*sz≤l.n:=tL h1.1
             have h3:=tL h1.2
             obtain ⟨v,e1,k1⟩:=tB hs hx
             have e3:=mI.1 k1.2
             subst e3
             obtain ⟨_,_,_,ob,_,vs,junk,kl,_,hsz,_⟩:=hm.own t _ ht
             have hl:=Fp kl
             refine ⟨aG _,_,w,ρ,dH _ _,⟨k1.1,jU.2 ⟨rfl,by omega,aG _,by simp only [maxLen];omega⟩⟩,hm,hfit,gB,fun d ty pos after g=>?_⟩
             have hr:=run_sizeOf (P:=P) w hs'
             simp [execOp,Instr.sliceAt,uZ e1,aV hu,Instr.sureAddr,Instr.sliceBounds,hr,add_lit]
           trivial
         trivial
       trivial
     trivial
   · rename_i s hx
     split
     · rename_i hT
       split
       · rename_i l hl
         split
         · rename_i hh hhi
           refine tD (Wd _ _ _ _ _ _ _ _) (fun h1=>?_) fun _=>trivial
           simp only [aC,uR,aT] at h1
           obtain ⟨h1,h2,h3⟩:=h1
           obtain ⟨v,e1,k1⟩:=tB hs hx
           obtain ⟨bs,rfl,k2⟩:=Fv k1
           have e2:=tZ k2
           rw [bX] at e2
           have hsz:(ByteArray.mk bs.toArray).size=bs.length:=by show bs.toArray.size=_;simp
           have hhi':=Mf hs hhi sV
           rw [e2,←hsz] at hhi'
           have hq:=fun ty=>Vj (P:=P) (H:=[]) (G:=fun _=>none) (ty:=ty) hT e1 (Me hs hl h1) hhi' sV sV
           refine ⟨aG _,.string ((ByteArray.mk bs.toArray).extract l.toNat hh.toNat),w,ρ,dH _ _,?_,hm,hfit,gB,fun d ty pos after g=>hq ty a w d pos after g (lookN a w)⟩
           have k3:=Fm (hh.toNat - l.toNat) (Fl l.toNat k2)
           rw [Ye]
           refine ⟨k3.1,_,(bs.drop l.toNat).take (hh.toNat - l.toNat),k3.2,by simp [List.map_take,List.map_drop],rfl⟩
         trivial
       trivial
     trivial
   trivial
 · rename_i x ts
   split
   · rename_i tb o N sz c hx
     refine tD (Wd _ _ _ _ _ _ _ _) (fun _=>trivial) fun h0=>?_
     obtain ⟨v,e1,k1⟩:=tB hs hx
     obtain ⟨e2,_⟩:=jU.1 k1.2
     subst e2
     have hc:c≠0:=fun e=>by subst e;simp at h0
     refine ⟨aG _,.pointer (some ⟨(ρ tb).1,o,none⟩),w,ρ,dH _ _,⟨k1.1,rfl⟩,hm,hfit,gB,fun d ty pos after g=>?_⟩
     simp [execOp,resolve,invoke,builtin,uZ e1,Lib.run_unsafeSliceData_row _ _ _ _ _ _ hc]
   · rename_i tb o N sz hx
     refine tD (Wd _ _ _ _ _ _ _ _) (fun _=>trivial) fun h0=>?_
     obtain ⟨v,e1,k1⟩:=tB hs hx
     obtain ⟨C,e2,_,e3,_⟩:=nF.1 k1.2
     subst e2
     have hN:N≠0:=fun e=>by subst e;simp at h0
     have hc:C≠0:=sV
     refine ⟨aG _,.pointer (some ⟨(ρ tb).1,o,none⟩),w,ρ,dH _ _,⟨k1.1,rfl⟩,hm,hfit,gB,fun d ty pos after g=>?_⟩
     simp [execOp,resolve,invoke,builtin,uZ e1,Lib.run_unsafeSliceData_row _ _ _ _ _ _ hc]
   · rename_i hx
     obtain ⟨v,e1,k1⟩:=tB hs hx
     have e2:=nG.1 k1.2
     subst e2
     refine ⟨aG _,.pointer none,w,ρ,dH _ _,⟨trivial,rfl⟩,hm,hfit,gB,fun d ty pos after g=>?_⟩
     simp [execOp,resolve,invoke,builtin,uZ e1,Lib.run_unsafeSliceData_nil]
   trivial
 · rename_i x y pt it
   split
   · rename_i m hy
     obtain ⟨vy,ey,ky⟩:=tB hs hy
     have ey':=gJ.1 ky.2
     subst ey'
     split
     · rename_i hx
       refine tD (Wd _ _ _ _ _ _ _ _) (fun h0=>?_) fun _=>trivial
       rw [wM,aT] at h0
       subst h0
       obtain ⟨v,e1,k1⟩:=tB hs hx
       have e2:=DV.nilp.1 k1.2
       subst e2
       refine ⟨aG _,.string .empty,w,ρ,dH _ _,⟨trivial,[],[],rfl,rfl,rfl⟩,hm,hfit,gB,fun d ty pos after g=>?_⟩
       simp [execOp,resolve,invoke,builtin,uZ e1,uZ ey,Lib.run_unsafeString_none]
     · rename_i tb o hx
       split
       · rename_i e he
         split
         · rename_i l ty op st hbk
           refine tD (Wd _ _ _ _ _ _ _ _) (fun hb=>?_) fun _=>trivial
           simp only [aC,uR,aT] at hb
           obtain ⟨⟨b1,b2,b3⟩,⟨b4,b5⟩,b6,b7,b8⟩:=hb
           have b1:=aD b1
           have b2:=aD b2
           have b3:=aD b3
           have b6:=aD b6
           subst b1 b2
           obtain ⟨v,e1,k1⟩:=tB hs hx
           have e3:=mI.1 k1.2
           subst e3
           obtain ⟨_,_,_,ob,h3,vs,junk,kl,rfl,hlen,hj⟩:=hm.own tb _ hbk
           have kk:=xS kl b6
           obtain ⟨bs,hbs⟩:=AU kk b7
           rw [iZ] at hbs kk
           have hbl:(vs.take m.toNat).length=m.toNat:=by rw [←tZ kk];exact b6
           have hbl2:bs.length=m.toNat:=by rw [hbs,bX] at hbl;exact hbl
           have hle:m.toNat≤vs.length:=by rw [bC] at hbl;omega
           have hsh:w.shape? (ρ tb).1=some (ty,(vs++junk).toArray.size):=by unfold World.shape?;rw [h3]
           have hrun:=Lib.run_unsafeString_row (P:=P) (w:=w) pt it it ty he b3 (ρ tb).1 _ hsh bs (fun e=>by subst e;simp at hbl2;omega) (by simp;omega) sV (fun j x hjx=>by
            rw [add_lit,cell_of_block h3,cH]
            have hjl:j<bs.length:=(aS.1 hjx).1
            have h5:(vs.take m.toNat)[j]?=some (Value.int .u8 x.toNat):=by rw [hbs,cK,hjx];rfl
            rw [iY] at h5
            rw [aR (by omega)] at h5
            rw [bH sV];exact h5)
           have hnz:bs≠[]:=fun e=>by subst e;simp at hbl2;omega
           obtain ⟨m2,o2⟩:=hm.drop hfit hbk (w':=w.freeze ⟨(ρ tb).1,0,none⟩ bs.length) (Vi (by simpa using hnz))
           refine ⟨aG _,.string ⟨bs.toArray⟩,_,ρ,dH _ _,⟨kk.1,_,bs,kk.2,hbs,rfl⟩,m2,hfit,o2,fun d ty' pos after g=>?_⟩
           have hm':m=((bs.length:Nat):Int):=sV
           rw [hm'] at ey
           have hrun':=fun ty'=>(show (Builtin.unsafeString_ #[pt,it] ty' #[.pointer (some ⟨(ρ tb).1,0,none⟩),.int .i64 bs.length]).run P w=_ from hrun)
           simp [execOp,resolve,invoke,builtin,uZ e1,uZ ey,hrun']
         trivial
       trivial
     trivial
   trivial
 · rename_i g x ts
   refine tD (Wd _ _ _ _ _ _ _ _) (fun h0=>?_) fun _=>trivial
   obtain ⟨fn,f1,f2,f3,f4,f5⟩:=KD h0
   split
   · rename_i c hx
     obtain ⟨v,e1,k1⟩:=tB hs hx
     refine ⟨aG _,v,w,ρ,dH _ _,k1,hm,hfit,gB,fun d ty pos after g'=>?_⟩
     have hcall:=run_callFunc_extern (P:=P) f1 f2 f3 f4 f5 #[v] w
     rw [Lib.run_noEscape] at hcall
     have hf:a.eval (.func g)=.func (.func g) #[] #[]:=rfl
     simp [execOp,resolve,Deferred.ofValue,invoke,hf,uZ e1,hcall]
   trivial
 · rename_i T x
   split
   · rename_i s hx
     split
     · rename_i hT
       refine tD (Wd _ _ _ _ _ _ _ _) (fun hf=>?_) fun _=>trivial
       obtain ⟨v,e1,k1⟩:=tB hs hx
       obtain ⟨bs,rfl,k2⟩:=Fv k1
       refine pR (s:=0) hm hf rfl (uV w (.stringIter ⟨bs.toArray⟩ 0)) (vA w _) (uA w _) (v:=.pointer (some ⟨w.heap.size,0,none⟩)) ⟨bs,k2,rfl⟩ (fun ρ' h=>by rw [mI,h]) (cO _) fun d ty pos after g=>?_
       simp only [execOp,Instr.range,uZ e1,bG,aV hT,aP,bL]
       rfl
     trivial
   trivial
 · rename_i x
   split
   · rename_i tb o hx
     refine tD (Wd _ _ _ _ _ _ _ _) (fun ho=>?_) fun _=>trivial
     have ho:=aD ho
     subst ho
     obtain ⟨v,e1,k1⟩:=tB hs hx
     have e3:=mI.1 k1.2
     subst e3
     split
     · rename_i l pos st hbk
       obtain ⟨_,_,_,ob,h3,bs,kl,rfl⟩:=hm.own tb _ hbk
       have hlen:=tZ kl
       rw [bX] at hlen
       have hsz:(ByteArray.mk bs.toArray).size=bs.length:=by show bs.toArray.size=_;simp
       have hget:(getObj (ρ tb).1).run P w=.ok (.stringIter ⟨bs.toArray⟩ pos) w:=by simp [getObj,Sem.run,h3]
       split
       · rename_i n hn
         refine tD (Wd _ _ _ _ _ _ _ _) (fun hb=>?_) fun _=>trivial
         simp only [aC,eD,uR,aT,dM] at hb
         obtain ⟨b1,b2,b3⟩:=hb
         have hf:=tL b3
         obtain ⟨u,e4,k4⟩:=Cp kl hn
         have e5:=gJ.1 k4.2
         subst e5
         rw [cK] at e4
         obtain ⟨c,e6,e7⟩:=gA.1 e4
         injection e7 with _ e8
         have hpos:pos<bs.length:=(aS.1 e6).1
         have hdec:Utf8.decode ⟨bs.toArray⟩ pos=(c.toNat,1):=by
          have h9:(ByteArray.mk bs.toArray).get! (pos+0)=c:=by
           show bs.toArray[pos+0]! = c
           rw [gT,rW bs.toArray pos (by simpa using hpos)]
           have:=(aS.1 e6).2
           simpa using this
          have h10:c.toNat<128:=sV
          unfold Utf8.decode
          simp only [h9,h10,eR]
         obtain ⟨m2,o2⟩:=hm.write (b':=.it l (Nat.succ pos) nx) (o:=.stringIter ⟨bs.toArray⟩ (pos+1)) (w':=w.putObj (ρ tb).1 (.stringIter ⟨bs.toArray⟩ (pos+1))) sV rfl hbk (vR w _ _) (fY (cG.1 h3).1) ⟨bs,kl,rfl⟩
         have hset:(setObj (ρ tb).1 (.stringIter ⟨bs.toArray⟩ (pos+1))).run P w=.ok () (w.putObj (ρ tb).1 (.stringIter ⟨bs.toArray⟩ (pos+1))):=by
          simp [setObj,Sem.run,h3,World.putObj]
         refine ⟨dB _,.tuple #[.bool true,.int .i64 pos,.int .i32 c.toNat],_,ρ,dH _ _,⟨⟨trivial,trivial,trivial,trivial⟩,qE.2 ⟨_,kT.2 ⟨_,_,rfl,rfl,kT.2 ⟨_,_,rfl,rfl,kT.2 ⟨_,_,rfl,?_,rfl⟩⟩⟩,rfl⟩⟩,m2,hf,o2,fun d ty pos' after g=>?_⟩
         · rw [gJ,←e8]
         simp [execOp,Instr.next,uZ e1,hget,hset,hdec,hsz,hpos,goInt]
       · rename_i hn
         refine tD (Wd _ _ _ _ _ _ _ _) (fun hb=>?_) fun _=>trivial
         have hb:=tL hb
         refine ⟨aG _,.tuple #[.bool false],w,ρ,dH _ _,⟨⟨trivial,trivial⟩,qE.2 ⟨_,kT.2 ⟨_,_,rfl,rfl,rfl⟩,rfl⟩⟩,hm,hfit,gB,fun d ty pos' after g=>?_⟩
         have hnp:¬pos<bs.length:=sV
         simp [execOp,Instr.next,uZ e1,hget,hsz,hnp]
       trivial
     trivial
   trivial
 trivial
def wm (P:Program) (E:Tr CV) (h:Tr CB) (nx:Nat) (op:Op):Ro:=match wv P E h nx op with
 | .bad=>mv P E h nx op
 | r=>r
theorem OO {f:Operand} {args:Array Operand} {ats:Array TypeId} (hf:WC P f=false):wm P E h nx (.call ⟨.value f,args,ats⟩)=.bad:=by
 obtain ⟨args⟩:=args
 have hw:wv P E h nx (.call ⟨.value f,⟨args⟩,ats⟩)=.bad:=rfl
 unfold wm
 rw [hw]
 show mv P E h nx (.call ⟨.value f,⟨args⟩,ats⟩)=.bad
 cases f with
 | func g =>
   have hg:Pw P g=false:=hf
   cases args with
   | nil=>rfl
   | cons x xs =>
     cases xs with
     | nil=>show (bif Pw P g then _ else Ro.bad)=.bad;rw [hg];rfl
     | cons y ys=>rfl
 | _=>cases args with
   | nil=>rfl
   | cons x xs=>cases xs <;> rfl
theorem WH {op:Op} (hs:Slots ρ E nx n a) (hm:Mem ρ w0 h nx w) (hfit:nx≤tE):Wd P op ρ w0 h nx a w (wm P E h nx op):=by
 unfold wm
 have H:=VU (P:=P) (op:=op) hs hm hfit
 split
 · exact WG hs hm hfit
 exact H
end
def WI (P:Program) (op:Op) (ρ:Pl) (h:Tr CB) (nx:Nat) (a:Act) (c:CV) (h':Tr CB) (nx':Nat):Prop:=
 ∃ (b:CB) (s:Nat) (o:Obj) (V:Nat→Value),nx'=nx+1∧h'=h.set (some b) tE nx∧nx+1≤tE∧Rr b=nx∧DB nx ρ s b o∧
  (∀ (ρ':Pl) (p:Nat),ρ' nx=(p,s)→Kn (nx+1) ρ' c (V p))∧
  ∀ (w:World) (d:Option Tmp) (ty:TypeId) (pos:String) (after:Array Edge) (g:Option (Nat×Bool)),(execOp a.eval ⟨d,op,ty,pos,after,g⟩).run P w=.ok (.value (V w.heap.size)) (w.alloc o)
def WJ:Op→Option (List Operand)
 | .alloc _=>some []
 | .box _ x=>some [x]
 | .makeSlice _ x y=>some [x,y]
 | .buildSlice _ _ parts=>some (parts.toList.map (·.2))
 | .makeMap _ none=>some []
 | _=>none
section
variable {P:Program} {nx n:Nat} {ρ:Pl} {E:Tr CV} {h:Tr CB} {a:Act}
theorem KI (hs:Slots ρ E nx n a) {op:Op} {xs:List Operand} (hx:WJ op=some xs) {c:CV} {h':Tr CB} {nx':Nat} (hw:wm P E h nx op=.val c h' nx'):WI P op ρ h nx a c h' nx':=by
 have hv:wv P E h nx op=.val c h' nx'∨mv P E h nx op=.val c h' nx':=by
  unfold wm at hw
  split at hw
  · exact .inr hw
  exact .inl hw
 cases op with
 | alloc T =>
   rcases hv with hv | hv
   · have hv':(match PN P T with | some z=>bif Nat.ble (Nat.succ nx) tE then Ro.val (.ptr nx 0) (h.set (some (.cells (Nw z) T false nx)) tE nx) (Nat.succ nx) else .bad | none=>.bad)=.val c h' nx':=hv
     split at hv'
     · rename_i z hz
       rcases sY hv' with ⟨hf,h1⟩ | ⟨_,h1⟩
       · cases h1
         obtain ⟨i,v,hi,hv,kz⟩:=Mc hz nx ρ
         refine ⟨_,v.cells.toList.length,.cells v.cells.toList.toArray T (0,0),fun p=>.pointer (some ⟨p,0,none⟩),rfl,rfl,tL hf,rfl,wN kz T,fun ρ' p hρ=>⟨cO nx,?_⟩,fun w d ty pos after g=>?_⟩
         · show _=Value.pointer (some ⟨(ρ' nx).1,0,none⟩)
           rw [hρ]
         simp [execOp,Instr.alloc,newVar,newRow,zeroValue,typeInfo,hi,hv]
       cases h1
     cases hv'
   · cases hv
 | box T x =>
   rcases hv with hv | hv
   · have hv':(match uM E x with
      | some c=>match zS c with
        | some l=>bif Nat.ble (Nat.succ nx) tE then Ro.val (.ptr nx 0) (h.set (some (.cells (Nw l) T false nx)) tE nx) (Nat.succ nx) else .bad
        | none=>.bad
      | none=>.bad)=.val c h' nx':=hv
     split at hv'
     · rename_i c1 hc
       split at hv'
       · rename_i l hl
         rcases sY hv' with ⟨hf,h1⟩ | ⟨_,h1⟩
         · cases h1
           obtain ⟨v,e1,k1⟩:=tB hs hc
           have kz:=Aa k1 hl
           refine ⟨_,v.cells.toList.length,.cells v.cells.toList.toArray T (0,0),fun p=>.pointer (some ⟨p,0,none⟩),rfl,rfl,tL hf,rfl,wN kz T,fun ρ' p hρ=>⟨cO nx,?_⟩,fun w d ty pos after g=>?_⟩
           · show _=Value.pointer (some ⟨(ρ' nx).1,0,none⟩)
             rw [hρ]
           simp [execOp,Instr.box,newVar,newRow,uZ e1]
         cases h1
       cases hv'
     cases hv'
   · cases hv
 | makeSlice T x y =>
   rcases hv with hv | hv
   · have hv':(match JU P T with
      | some (e,sz,by',z)=>match uM E x with
        | some (.int _ n)=>match uM E y with
          | some (.int _ c)=>bif wI 0 n && (wI n c && (Nat.ble (Nat.mul by' c.toNat) 281474976710656 && (Nat.ble c.toNat 4611686018427387904 && Nat.ble (Nat.succ nx) tE))) then
           Ro.val (.sl nx 0 n.toNat sz (some c.toNat)) (h.set (some (.cells (Nw (Xt z c.toNat)) e false nx)) tE nx) (Nat.succ nx) else .bad
          | _=>.bad
        | _=>.bad
      | none=>.bad)=.val c h' nx':=hv
     split at hv'
     · rename_i e sz by' z hz
       split at hv'
       · rename_i k N hx
         split at hv'
         · rename_i k' C hy
           rcases sY hv' with ⟨hb,h1⟩ | ⟨_,h1⟩
           · cases h1
             simp only [aC,uR,aT] at hb
             obtain ⟨hb1,hb2,hb3,hb4,hb5⟩:=hb
             have hb3:by'*C.toNat≤281474976710656:=tL hb3
             have hb4:=tL hb4
             obtain ⟨hu,i,zv,hi,hzv,hsz,hby,kz,hzl,h0⟩:=Ib hz nx ρ
             obtain ⟨v1,e1,k1⟩:=tB hs hx
             obtain ⟨v2,e2,k2⟩:=tB hs hy
             rw [gJ.1 k1.2] at e1
             rw [gJ.1 k2.2] at e2
             have hbc:(i.bytes:Int)*C≤281474976710656:=by
              have:((by'*C.toNat:Nat):Int)=(i.bytes:Int)*C:=by rw [cJ,cP sV,hby]
              omega
             have hmade:madeCells zv.cells (C.toNat*i.size)=(List.replicate C.toNat zv.cells.toList).flatten.toArray:=by
              have:=Ju (zs:=zv.cells.toList) sV C.toNat
              rw [hzl] at this
              rw [hsz,←this]
             have hlen:(List.replicate C.toNat zv.cells.toList).flatten.length=C.toNat*sz:=by simp [←hzl]
             refine ⟨_,C.toNat*sz,.cells (List.replicate C.toNat zv.cells.toList).flatten.toArray e (0,0),fun p=>.slice (some ⟨p,0,none⟩) N.toNat C.toNat,rfl,rfl,tL hb5,rfl,by rw [←hlen];exact wN (Jn kz C.toNat) e,fun ρ' p hρ=>⟨cO nx,?_⟩,fun w d ty pos after g=>?_⟩
             · refine jU.2 ⟨by rw [hρ],by rw [hρ];show 0+C.toNat*sz≤C.toNat*sz;omega,by omega,?_⟩
               simp only [maxLen];omega
             have hrun:=run_make (P:=P) w T e i zv hu hi hzv k k' N C hb1 hb2 hbc sV
             rw [hmade] at hrun
             simp only [execOp,uZ e1,uZ e2,bG,hrun,aP,bL]
           cases h1
         cases hv'
       cases hv'
     cases hv'
   · cases hv
 | buildSlice T N parts =>
   obtain ⟨parts⟩:=parts
   rcases hv with hv | hv
   · have hv':(match JU P T with
      | some (e,sz,_,z)=>bif Nat.ble 1 N && (Nat.ble (Nat.mul N sz) 16777216 && Nat.ble (Nat.succ nx) tE) then
       (match Ft E (vL N sz) (Nat.mul N sz) parts (Xt z N) with
       | some l=>Ro.val (.sl nx 0 N sz (some N)) (h.set (some (.cells (Nw l) e false nx)) tE nx) (Nat.succ nx)
       | none=>.bad) else .bad
      | none=>.bad)=.val c h' nx':=hv
     split at hv'
     · rename_i e sz by' z hz
       rcases sY hv' with ⟨hb,h1⟩ | ⟨_,h1⟩
       · split at h1
         · rename_i l hl
           cases h1
           simp only [aC] at hb
           obtain ⟨hu,i,zv,hi,hzv,hsz,hby,kz,hzl,h0⟩:=Ib hz nx ρ
           have kr:=Jn kz N
           obtain ⟨vs,e1,o1,k1⟩:=Fu hs kr hl
           have hN:=bA hb.1
           have hNs:N*sz≤16777216:=bA hb.2.1
           have hpos:0<N*sz:=Nat.mul_pos hN h0
           have hlen:(List.replicate N zv.cells.toList).flatten.length=N*sz:=by simp [←hzl]
           have hf:=Ej (fun i=>some (i*sz,sz)) (vL N sz) (fun i x h=>by
            simp only [vL,cK,gA] at h
            obtain ⟨j,hj,rfl⟩:=h
            obtain ⟨hlt,hj⟩:=aS.1 hj
            simp at hj;subst hj;rfl) vs (List.replicate N zv.cells.toList).flatten (N*sz) hlen o1
           have hmade:((Array.range (N*i.size)).map (zv.cells[· % zv.cells.size]!))=(List.replicate N zv.cells.toList).flatten.toArray:=by
            have:=Ju (zs:=zv.cells.toList) sV N
            rw [hzl] at this
            simpa [madeCells,hsz] using this
           have hmm:(parts.toArray.map fun (i,x)=>(i,a.eval x))=vs.toArray:=by rw [←(lookN a (default:World)).parts e1];simp
           have hlenF:(yH (vL N sz) (List.replicate N zv.cells.toList).flatten vs).length=N*sz:=by
            rw [←tZ k1,Pt hl (by rw [tZ kr,hlen];exact aG _),tZ kr,hlen]
           refine ⟨_,(yH (vL N sz) (List.replicate N zv.cells.toList).flatten vs).length,.cells (yH (vL N sz) (List.replicate N zv.cells.toList).flatten vs).toArray e (0,0),fun p=>.slice (some ⟨p,0,none⟩) N N,rfl,rfl,tL hb.2.2,rfl,wN k1 e,fun ρ' p hρ=>⟨cO nx,?_⟩,fun w d ty pos after g=>?_⟩
           · refine jU.2 ⟨by rw [hρ],by rw [hρ,hlenF];omega,aG _,?_⟩
             have:=pU N h0
             simp only [maxLen];omega
           have hrun:=run_buildSlice (P:=P) w T e N vs.toArray (yH (vL N sz) (List.replicate N zv.cells.toList).flatten vs).toArray i zv hu hi hzv Sq Sq (by rw [hmade,hsz];exact hf)
           simp only [execOp,hmm,bG,hrun,aP,bL]
         cases h1
       cases h1
     cases hv'
   · have hv':(bif Nat.beq N 0 && Nat.ble (Nat.succ nx) tE then (match parts with
      | []=>(match Pq P T with | some (e,sz)=>Ro.val (.sl nx 0 0 sz (some 0)) (h.set (some (.cells (Nw .nil) e false nx)) tE nx) (Nat.succ nx) | none=>.bad)
      | _=>.bad) else .bad)=.val c h' nx':=hv
     rcases sY hv' with ⟨hb,h1⟩ | ⟨_,h1⟩
     · rw [aC] at hb
       have hN:=aD hb.1
       subst hN
       cases parts with
       | cons q qs=>cases h1
       | nil =>
         simp only at h1
         split at h1
         · rename_i e sz hT
           cases h1
           have hT':=vZ hT
           refine ⟨_,0,.cells #[] e (0,0),fun p=>.slice (some ⟨p,0,none⟩) 0 0,rfl,rfl,tL hb.2,rfl,wN (vs:=[]) nS e,fun ρ' p hρ=>⟨cO nx,?_⟩,fun w d ty pos after g=>?_⟩
           · refine jU.2 ⟨by rw [hρ],by rw [hρ];omega,aG _,by simp [maxLen]⟩
           simp [execOp,Instr.buildSlice,aV hT'.1,run_sizeOf w hT'.2,Instr.fill,newRow,show Array.range 0=#[] from nV tS]
         cases h1
     · cases h1
 | makeMap T o =>
   cases o with
   | some x=>cases hx
   | none =>
     rcases hv with hv | hv
     · cases hv
     · have hrun:∀ (w:World) (d:Option Tmp) (ty:TypeId) (pos:String) (after:Array Edge) (g:Option (Nat×Bool)),(execOp a.eval ⟨d,.makeMap T none,ty,pos,after,g⟩).run P w=.ok (.value (.map (some w.heap.size))) (w.alloc (uF ([]:List (Int×Int)))):=fun w d ty pos after g=>by
        simp only [execOp,kE,bG,zU,aP,bL];rfl
       have hk:∀ (ρ':Pl) (p:Nat),ρ' nx=(p,0)→Kn (nx+1) ρ' (.mp nx) (.map (some p)):=fun ρ' p hρ=>⟨cO nx,by rw [DV.mp,hρ]⟩
       unfold mv dk at hv
       rcases sY hv with ⟨hf,h1⟩ | ⟨_,h1⟩
       · rcases sY h1 with ⟨_,h2⟩ | ⟨_,h2⟩
         · cases h2
           exact ⟨_,0,_,fun p=>.map (some p),rfl,rfl,tL hf,rfl,rfl,hk,hrun⟩
         rcases sY h2 with ⟨_,h3⟩ | ⟨_,h3⟩
         · cases h3
           exact ⟨_,0,_,fun p=>.map (some p),rfl,rfl,tL hf,rfl,rfl,hk,hrun⟩
         cases h3
       · cases h1
 | _=>cases hx
end
inductive Cmd where
 | code (c:Code) (n:Nat) (E:Tr CV) (h:Tr CB) (nx:Nat)
 | loop (c:Code) (n:Nat) (E:Tr CV) (h:Tr CB) (nx:Nat)
 | ops (all l:List Oper) (n:Nat) (E:Tr CV) (h:Tr CB) (nx:Nat)
 | one (o:Oper) (n:Nat) (E:Tr CV) (h:Tr CB) (nx:Nat)
 | call (f:Nat) (args:CV) (h:Tr CB) (nx:Nat)
 | round (t:Nat) (args:CV) (h:Tr CB) (nx:Nat)
 | reg (l:List Oper) (plan:List (Nat×Pk)) (pend:List (Nat×Nat×Nat)) (n:Nat) (E:Tr CV) (h:Tr CB) (nx:Nat)
inductive Res where
 | bad (why:Nat) (at_:List Oper)
 | ok (x:Exit) (E:Tr CV) (h:Tr CB) (nx:Nat)
 | ret (v:CV) (h:Tr CB) (nx:Nat)
def XR (P:Program) (f:Nat):Option Func:=match Ed P.funcs.toList f with
 | some fn => bif fn.name == "runtime.NumGoroutine" then none else some fn
 | none=>none
theorem SA {P : Program} {f : Nat} {fn : Func} (h : XR P f = some fn) : P.funcs[f]? = some fn ∧ (fn.name == "runtime.NumGoroutine") = false := by
 unfold XR at h
 split at h
 · rename_i g hg
   rcases sY h with ⟨_,h⟩ | ⟨h1,h⟩
   · cases h
   cases h
   rw [xA,nL] at hg
   exact ⟨hg,h1⟩
 cases h
def Vk (l:CV):Nat→Tr CV→Tr CV:=lrec (fun _ E=>E) (fun a _ ih i E=>ih (Nat.succ i) (E.set (some a) tE i)) l
def SB (P:Program) (E:Tr CV) (h:Tr CB):ResultVar→Option CV
 | .tmp t=>E.get t
 | .cell t T=>qv P E h (.load T (.tmp t))
def SC (P:Program) (E:Tr CV) (h:Tr CB) (l:List ResultVar):Option CV:=List.rec (some .nil) (fun x _ ih=>match SB P E h x with | some a=>(match ih with | some b=>some (.cons a b) | none=>none) | none=>none) l
def Vm (P:Program) (E:Tr CV) (h:Tr CB) (l:List ResultVar):Option CV:=match SC P E h l with
 | some (.cons a .nil)=>some a
 | some x=>some (.tup x)
 | none=>none
def xU (E:Tr CV) (n:Nat) (d:Option Nat) (v:CV):Option (Tr CV):=match d with
 | some d=>bif Nat.ble (Nat.succ d) n then some (E.set (some v) tE d) else none
 | none=>some E
def SD (a b:Bool):Bool:=bif a then b else not b
def Iz (ih:Cmd→Res) (E:Tr CV) (n:Nat) (h:Tr CB) (nx:Nat) (dst:Option Nat):Op→Res
 | .call ⟨.value f,⟨args⟩,_⟩=>match uM E f with
   | some (.fn g fst cap)=>match EA E args with
     | some l=>(match ih (.call g (zZ fst (zZ l cap)) h nx) with
       | .ret v h nx=>(match xU E n dst v with | some E=>.ok .normal E h nx | none=>.bad 11 [])
       | .ok _ _ _ _=>.bad 12 []
       | r=>r)
     | none=>.bad 13 []
   | some (.yl t)=>match EA E args with
     | some l=>(match ih (.round t l h nx) with
       | .ret v h nx=>(match xU E n dst v with | some E=>.ok .normal E h nx | none=>.bad 51 [])
       | .ok _ _ _ _=>.bad 52 []
       | r=>r)
     | none=>.bad 53 []
   | _=>.bad 14 []
 | op => .bad 15 [⟨none, op, 0, "", #[], none⟩]
def PR (l:List Oper) (E:Tr CV) (o:Oper):Option Bool:=match o.guard with
 | none=>some true
 | some (j,want)=>match zR l j with
   | some t=>match E.get t with
     | some (.bool b)=>some (SD b want)
     | some (.tup .nil)=>some false
     | _=>none
   | none=>none
def tO (o:Oper) (pend:List (Nat×Nat×Nat)):List (Nat×Nat×Nat):=List.rec [] (fun x _ ih=>bif not (Av o.op) && Mk o x.2.1 then ih else x :: ih) pend
def xL (h:Tr CB) (pend:List (Nat×Nat×Nat)):Bool:=Fx (fun x=>match h.get x.1 with | some b=>Nat.ble (Nat.succ (Rr b)) x.2.2 | none=>false) pend
def Sn (c:Code):Bool:=
 Code.rec (motive:=fun _=>Bool) true (fun _ _ _=>true) (fun _ _ a b=>a && b) (fun _ _ _ a b=>a && b) (fun _ _ a=>a) (fun _ a=>a) (fun _ _ _ _ _ _=>false) (fun _=>true) (fun _ a=>a) (fun _=>true) (fun _=>true) true (fun _=>true) c
def XS (n:Nat) (ps:List Nat):CV→Tr CV→Option (Tr CV):=List.rec (fun l E=>match l with | .nil=>some E | _=>none)
 (fun p _ ih l E=>match l with | .cons a b=>bif Nat.ble (Nat.succ p) n then ih b (E.set (some a) tE p) else none | _=>none) ps
def EM:Exit→Option (Option Code)
 | .normal=>some none
 | .ret=>some (some .ret)
 | .exit id=>some (some (.exit id))
 | _=>none
def Vn:LoopState→Bool | .ready=>true | _=>false
def Sf:LoopState→Bool | .busy=>true | _=>false
abbrev uQ:=List (Nat×(CV→Option CV))
def dl (pr:uQ) (f:Nat):Option (CV→Option CV):=List.rec none (fun x _ ih=>bif Nat.beq x.1 f then some x.2 else ih) pr
def SE (P:Program) (ih:Cmd→Res) (n:Nat) (E:Tr CV) (h:Tr CB) (nx:Nat) (a:Code) (b:Code):Res:=match ih (.code a n E h nx) with
 | .ok x E h nx=>(match x with
   | .normal=>ih (.code b n E h nx)
   | x=>.ok x E h nx)
 | r=>r
def dn (P:Program) (ih:Cmd→Res) (n:Nat) (E:Tr CV) (h:Tr CB) (nx:Nat) (c:Operand) (a:Code) (b:Code):Res:=match uM E c with
 | some (.bool t)=>ih (.code (bif t then a else b) n E h nx)
 | _=>.bad 1 []
def SF (P:Program) (ih:Cmd→Res) (n:Nat) (E:Tr CV) (h:Tr CB) (nx:Nat) (id:Nat) (c:Code):Res:=match ih (.code c n E h nx) with
 | .ok x E h nx=>(match x with
   | .exit id'=>bif Nat.beq id' id then .ok .normal E h nx else .ok (.exit id') E h nx
   | x=>.ok x E h nx)
 | r=>r
def SG (P:Program) (ih:Cmd→Res) (n:Nat) (E:Tr CV) (h:Tr CB) (nx:Nat) (c:Code):Res:=match ih (.code c n E h nx) with
 | .ok x E h nx=>(match x with
   | .normal=>.ok .normal E h nx
   | .ret=>.ok .ret E h nx
   | .exit id=>.ok (.exit id) E h nx
   | _=>.bad 22 [])
 | r=>r
def dq (P:Program) (ih:Cmd→Res) (n:Nat) (E:Tr CV) (h:Tr CB) (nx:Nat) (g:Operand) (ps:List Nat) (asg:Code) (body:Code):Res:=match uM E g with
 | some (.fn f .nil cap)=>bif Nat.ble (Nat.succ nx) tE then
   (match ih (.call f (.cons (.yl nx) cap) (h.set (some (.lp E n ps asg body .ready none nx)) tE nx) (Nat.succ nx)) with
   | .ret _ h' nx'=>(match h'.get nx with
     | some (.lp _ _ _ _ _ st p _)=>bif Sf st || not (Nat.ble (Nat.succ nx') tE) then .bad 41 [] else
       (match p with
       | none=>.ok .normal E (h'.set none tE nx) (Nat.succ nx')
       | some c=>ih (.code c n E (h'.set none tE nx) (Nat.succ nx')))
     | _=>.bad 42 [])
   | .ok _ _ _ _=>.bad 43 []
   | r=>r) else .bad 44 []
 | _=>.bad 45 []
def KJ (P:Program) (ih:Cmd→Res) (n:Nat) (E:Tr CV) (h:Tr CB) (nx:Nat) (l:List Oper):Res:=bif P.follows .mixedOrders then (match Mq l with
 | some p=>ih (.reg l p [] n E h nx)
 | none=>.bad 23 l) else .bad 24 []
def WK (P:Program) (ih:Cmd→Res) (n:Nat) (E:Tr CV) (h:Tr CB) (nx:Nat) (l:List Oper):Res:=bif l.all uD then ih (.ops l l n E h nx) else .bad 2 []
def stC (P:Program) (ih:Cmd→Res) (n:Nat) (E:Tr CV) (h:Tr CB) (nx:Nat):Code→Res
 | .skip=>.ok .normal E h nx
 | .label _=>.ok .normal E h nx
 | .exit id=>.ok (.exit id) E h nx
 | .ret=>.ok .ret E h nx
 | .seq a b=>SE P ih n E h nx a b
 | .cond c a b=>dn P ih n E h nx c a b
 | .block id c=>SF P ih n E h nx id c
 | .scope c=>SG P ih n E h nx c
 | .rangeFunc g ⟨ps⟩ asg body=>dq P ih n E h nx g ps asg body
 | .loop c=>ih (.loop c n E h nx)
 | .region _ ⟨l⟩ true=>KJ P ih n E h nx l
 | .region _ ⟨l⟩ false=>WK P ih n E h nx l
 | _=>.bad 3 []
def stG (ih:Cmd→Res) (all:List Oper) (o:Oper) (rest:List Oper) (n:Nat) (E:Tr CV) (h:Tr CB) (nx:Nat) (j:Nat) (want:Bool):Res:=
 (match zR all j with
  | some t=>(match E.get t with
    | some (.bool b)=>bif SD b want then
     (match ih (.one o n E h nx) with
     | .ok x E h nx=>ih (.ops all rest n E h nx)
     | r=>r)
      else (match xU E n o.dst (.tup .nil) with | some E=>ih (.ops all rest n E h nx) | none=>.bad 4 [])
    | some (.tup .nil)=>(match xU E n o.dst (.tup .nil) with | some E=>ih (.ops all rest n E h nx) | none=>.bad 4 [])
    | _=>.bad 5 [])
  | none=>.bad 6 [])
def Vo (P:Program) (pr:uQ) (ih:Cmd→Res) (c:Code) (n:Nat) (E:Tr CV) (h:Tr CB) (nx:Nat):Res:=match ih (.code c n E h nx) with
 | .ok x E h nx=>(match x with
   | .normal=>ih (.loop c n E h nx)
   | x=>.ok x E h nx)
 | r=>r
def KK (P:Program) (pr:uQ) (ih:Cmd→Res) (all:List Oper) (l:List Oper) (n:Nat) (E:Tr CV) (h:Tr CB) (nx:Nat):Res:=match l with
 | []=>.ok .normal E h nx
 | o :: rest=>match o.guard with
   | none=>(match ih (.one o n E h nx) with
     | .ok x E h nx=>ih (.ops all rest n E h nx)
     | r=>r)
   | some (j,want)=>stG ih all o rest n E h nx j want
def Fy (P:Program) (pr:uQ) (ih:Cmd→Res) (o:Oper) (n:Nat) (E:Tr CV) (h:Tr CB) (nx:Nat):Res:=match qv P E h o.op with
 | some c=>(match xU E n o.dst c with | some E=>.ok .normal E h nx | none=>.bad 7 [])
 | none=>match wm P E h nx o.op with
   | .val c h nx=>(match xU E n o.dst c with | some E=>.ok .normal E h nx | none=>.bad 8 [])
   | .unit h nx=>(match o.dst with | none=>.ok .normal E h nx | some _=>.bad 10 [])
   | .bad=>Iz ih E n h nx o.dst o.op
def tV (l:List Oper) (R:List Nat) (E:Tr CV):Tr CV:=List.rec E (fun j _ ih=>match zR l j with | some d=>ih.set none tE d | none=>ih) R
def yJ (P:Program) (l:List Oper) (R:List Nat) (n:Nat) (E:Tr CV) (h:Tr CB) (nx:Nat):Bool:=
 Fx (fun j=>Mm l j fun o=>(match o.dst with | some d=>Nat.ble (Nat.succ d) n | none=>false) && (match wm P E h nx o.op with | .val _ _ _=>true | _=>false)) R
def Fz (P:Program) (pr:uQ) (ih:Cmd→Res) (l:List Oper) (plan:List (Nat×Pk)) (pend:List (Nat×Nat×Nat)) (n:Nat) (E:Tr CV) (h:Tr CB) (nx:Nat):Res:=match plan with
 | []=>.ok .normal E h nx
 | (i,.look) :: plan=>match Ed l i with
   | some o=>(match PR l E o with
     | some g=>(bif g then (match qv P E h o.op with
      | some c=>(match xU E n o.dst c with
        | some E'=>ih (.reg l plan (match JS E o.op with | some t=>(t,i,nx) :: pend | none=>pend) n E' h nx)
        | none=>.bad 25 [o])
      | none=>.bad 26 [o])
      else (match xU E n o.dst (.tup .nil) with | some E=>ih (.reg l plan pend n E h nx) | none=>.bad 27 [o]))
     | none=>.bad 30 [o])
   | none=>.bad 31 []
 | (i,.only) :: plan=>match Ed l i with
   | some o=>(match PR l E o with
     | some g=>(bif g then (match ih (.one o n E h nx) with
      | .ok _ E h nx=>bif xL h (tO o pend) then ih (.reg l plan (tO o pend) n E h nx) else .bad 28 [o]
      | r=>r)
      else (match xU E n o.dst (.tup .nil) with | some E=>ih (.reg l plan (tO o pend) n E h nx) | none=>.bad 29 [o]))
     | none=>.bad 30 [o])
   | none=>.bad 31 []
 | (i,.race R) :: plan=>match Ed l i with
   | some o=>bif yJ P l R n (tV l R E) h nx then (match ih (.one o n (tV l R E) h nx) with
    | .ok _ E h nx=>bif xL h (tO o pend) then ih (.reg l plan (tO o pend) n E h nx) else .bad 28 [o]
    | r=>r) else .bad 32 [o]
   | none=>.bad 31 []
 | (i,.make R) :: plan=>match Ed l i with
   | some o=>bif yJ P l R n (tV l R E) h nx then (match wm P (tV l R E) h nx o.op with
    | .val c h nx=>(match xU (tV l R E) n o.dst c with | some E=>ih (.reg l plan (tO o pend) n E h nx) | none=>.bad 33 [o])
    | _=>.bad 34 [o]) else .bad 35 [o]
   | none=>.bad 31 []
def WL (P:Program) (pr:uQ) (ih:Cmd→Res) (t:Nat) (args:CV) (h:Tr CB) (nx:Nat):Res:=match h.get t with
 | some (.lp E n ps asg body st _ _)=>bif Vn st && (Sn asg && (Sn body && Nat.ble n 100000)) then
   (match XS n ps args E with
   | some E1=>match ih (.code asg n E1 h nx) with
     | .ok .normal E2 h2 nx2=>(match h2.get t with
       | some (.lp E0 n0 ps0 as0 body0 st0 p0 _)=>bif Vn st0 && Nat.ble (Nat.succ nx2) tE then
         (match ih (.code body n E2 (h2.set (some (.lp E0 n0 ps0 as0 body0 .busy p0 nx2)) tE t) (Nat.succ nx2)) with
         | .ok x _ h3 nx3=>(match h3.get t with
           | some (.lp E4 n4 ps4 as4 body4 _ _ _)=>bif Nat.ble (Nat.succ nx3) tE then
             (match EM x with
             | some none=>.ret (.bool true) (h3.set (some (.lp E4 n4 ps4 as4 body4 .ready none nx3)) tE t) (Nat.succ nx3)
             | some (some c)=>.ret (.bool false) (h3.set (some (.lp E4 n4 ps4 as4 body4 .done (some c) nx3)) tE t) (Nat.succ nx3)
             | none=>.bad 46 []) else .bad 47 []
           | _=>.bad 48 [])
         | .ret _ _ _=>.bad 49 []
         | r=>r) else .bad 50 []
       | _=>.bad 54 [])
     | .ok _ _ _ _=>.bad 55 []
     | .ret _ _ _=>.bad 56 []
     | r=>r
   | none=>.bad 57 []) else .bad 58 []
 | _=>.bad 59 []
def WM (P:Program) (pr:uQ) (ih:Cmd→Res) (f:Nat) (args:CV) (h:Tr CB) (nx:Nat):Res:=match dl pr f with
 | some g=>(match g args with | some v=>.ret v h nx | none=>.bad 60 [])
 | none=>match XR P f with
 | some fn=>(match fn.body with
   | some c=>bif Nat.ble (tW args) fn.ntmps && Nat.ble fn.ntmps 100000 then (match ih (.code c fn.ntmps (Vk args 0 .e) h nx) with
     | .ok x E h nx=>(match x with
       | .normal=>(match Vm P E h fn.results.toList with | some v=>.ret v h nx | none=>.bad 16 [])
       | .ret=>(match Vm P E h fn.results.toList with | some v=>.ret v h nx | none=>.bad 16 [])
       | _=>.bad 17 [])
     | .ret _ _ _=>.bad 18 []
     | r=>r) else .bad 19 []
   | none=>.bad 20 [])
 | none=>.bad 21 []
def step (P:Program) (pr:uQ) (ih:Cmd→Res):Cmd→Res
 | .code c n E h nx=>stC P ih n E h nx c
 | .loop c n E h nx=>Vo P pr ih c n E h nx
 | .ops all l n E h nx=>KK P pr ih all l n E h nx
 | .one o n E h nx=>Fy P pr ih o n E h nx
 | .reg l plan pend n E h nx=>Fz P pr ih l plan pend n E h nx
 | .round t args h nx=>WL P pr ih t args h nx
 | .call f args h nx=>WM P pr ih f args h nx
def run (P:Program) (pr:uQ) (fuel:Nat):Cmd→Res:=Nat.rec (fun _=>.bad 0 []) (fun _ ih=>step P pr ih) fuel
structure Nx (ρ:Pl) (h:Tr CB) (nx:Nat) (w:World) (ρ':Pl) (h':Tr CB) (nx':Nat) (w':World):Prop where
 le:nx≤nx'
 fit:nx'≤tE
 ext:Ext nx ρ ρ'
 old:Oc ρ h nx w ρ' h' w'
theorem Nx.refl {ρ:Pl} {h:Tr CB} {nx:Nat} {w:World} (hf:nx≤tE):Nx ρ h nx w ρ h nx w:=⟨aG _,hf,dH _ _,gB⟩
theorem Nx.trans {Φ:Imm→Prop} {w0:Bas Φ} {ρ ρ' ρ2:Pl} {h h' h2:Tr CB} {nx nx' nx2:Nat} {w w' w2:World} (hm:Mem ρ w0 h nx w) (a:Nx ρ h nx w ρ' h' nx' w') (b:Nx ρ' h' nx' w' ρ2 h2 nx2 w2):Nx ρ h nx w ρ2 h2 nx2 w2:=
 ⟨aO a.le b.le,b.fit,a.ext.trans b.ext a.le,a.old.trans hm b.old a.le a.ext⟩
def EN (l:List Oper) (i j:Nat):Prop:=∃ o,l[j]?=some o∧Av o.op=false∧Mk o i=true
def CP (l:List Oper) (cs:List (Nat×Nat×Obj)) (L:Array Bool) (w:World):Prop:=∀ x∈cs,(∀ j,EN l x.1 j→L.getD j false=false)→w.heap[x.2.1]?=some x.2.2
def OP (l:List Oper) (L:Array Bool):Prop:=∀ j o,l[j]?=some o→L.getD j false=true→∀ e∈o.after,Region.binds .any e=true→L.getD e.on false=true
def PendOk (l:List Oper) (L:Array Bool) (ρ:Pl) (w:World) (nx:Nat) (pend:List (Nat×Nat×Nat)) (cs:List (Nat×Nat×Obj)):Prop:=
 ∀ x∈cs,(∃ j,EN l x.1 j∧L.getD j false=true)∨∃ t bound,(t,x.1,bound)∈pend∧t<nx∧(ρ t).1=x.2.1∧bound≤nx∧w.heap[x.2.1]?=some x.2.2
theorem PendOk.cp {l:List Oper} {L:Array Bool} {ρ:Pl} {w:World} {nx:Nat} {pend:List (Nat×Nat×Nat)} {cs:List (Nat×Nat×Obj)} (h:PendOk l L ρ w nx pend cs):CP l cs L w:=fun x hx hw=>by
 rcases h x hx with ⟨j,h1,h2⟩ | ⟨t,b,_,_,_,_,h3⟩
 · rw [hw j h1] at h2;cases h2
 exact h3
structure Early where
 j:Nat
 p:Nat
 o:Obj
 V:Nat→Value
structure EOk (P:Program) (l:List Oper) (ρ:Pl) (h:Tr CB) (a:Act) (w ws:World) (e:Early):Prop where
 ex:∃ oj d,l[e.j]?=some oj∧Ml oj=true∧oj.dst=some d∧a.tmps[d]?=some (e.V e.p)∧∀ w2,(execOp a.eval oj).run P w2=.ok (.value (e.V w2.heap.size)) (w2.alloc e.o)
 lt:e.p<w.heap.size
 at_:w.heap[e.p]?=some e.o
 ge:ws.heap.size≤e.p
 un:∀ t b,h.get t=some b→(ρ t).1≠e.p
structure LR (L:Array Bool) (S:List Early) (Lm:Array Bool):Prop where
 size:Lm.size=L.size
 iff:∀ j,Lm.getD j false=true↔(L.getD j false=true∨∃ e∈S,e.j=j)
 un:∀ e∈S,L.getD e.j true=false
structure RI {Φ:Imm→Prop} (P:Program) (l:List Oper) (n:Nat) (E:Tr CV) (h:Tr CB) (nx:Nat) (pend:List (Nat×Nat×Nat)) (ρ ρs:Pl) (w0:Bas Φ) (a:Act) (w ws:World) (hs:Tr CB) (Je:Nat) (L Lm:Array Bool) (Rc:List Nat) (S:List Early) (cs:List (Nat×Nat×Obj)):Prop where
 rel:Rel ρ w0 n E h nx a w
 lr:LR L S Lm
 down:OP l Lm
 sub:∀ e∈S,e.j∈Rc
 ndj:(S.map (·.j)).Nodup
 ndp:(S.map (·.p)).Nodup
 eok:∀ e∈S,EOk P l ρ h a w ws e
 pend:PendOk l Lm ρ w nx pend cs
 ms:Mem ρs w0 hs Je ws
 nxb:Nx ρs hs Je ws ρ h nx w
def Kept (d:Option Nat) (a a':Act):Prop:=∀ i,d≠some i→a'.tmps[i]?=a.tmps[i]?
def tA (P:Program) (Φ:Imm→Prop):Cmd→Res→Prop
 | .code c n E h nx,.ok x E' h' nx'=>∀ (r:Option Nat) (ρ:Pl) (w0:Bas Φ) (a:Act) (w:World),Rel ρ w0 n E h nx a w→nx≤tE→n≤100000→(r=none∨Sn c=true)→
  ∀ Q:Exit→Act→World→Prop,(∀ ρ' a' w',Nx ρ h nx w ρ' h' nx' w'→Rel ρ' w0 n E' h' nx' a' w'→Q x a' w')→c.wpIn (FF r) 0 P Q a w
 | .loop c n E h nx,.ok x E' h' nx'=>∀ (r:Option Nat) (ρ:Pl) (w0:Bas Φ) (a:Act) (w:World),Rel ρ w0 n E h nx a w→nx≤tE→n≤100000→(r=none∨Sn c=true)→
  ∀ Q:Exit→Act→World→Prop,(∀ ρ' a' w',Nx ρ h nx w ρ' h' nx' w'→Rel ρ' w0 n E' h' nx' a' w'→Q x a' w')→Gz r P c Q a w
 | .ops all l n E h nx,.ok x E' h' nx'=>x=.normal∧∀ (ρ:Pl) (w0:Bas Φ) (a:Act) (w:World),Rel ρ w0 n E h nx a w→nx≤tE→n≤100000→
  ∀ K:Act→World→Prop,(∀ ρ' a' w',Nx ρ h nx w ρ' h' nx' w'→Rel ρ' w0 n E' h' nx' a' w'→K a' w')→tN P all.toArray l a w K
 | .one o n E h nx,.ok x E' h' nx'=>x=.normal∧∀ (ρ:Pl) (w0:Bas Φ) (a:Act) (w:World),Rel ρ w0 n E h nx a w→nx≤tE→n≤100000→
  ∀ K:Act→World→Prop,(∀ ρ' a' w',Nx ρ h nx w ρ' h' nx' w'→Rel ρ' w0 n E' h' nx' a' w'→Kept o.dst a a'→K a' w')→xN P o a w K
 | .call f args h nx,.ret v h' nx'=>wC P f∧∀ (ρ:Pl) (w0:Bas Φ) (w:World) (vs:List Value),Mem ρ w0 h nx w→KL nx ρ args vs→nx≤tE→
  Calls P f vs.toArray w (fun e w'=>∃ u ρ',e=.returned u∧Nx ρ h nx w ρ' h' nx' w'∧Kn nx' ρ' v u∧Mem ρ' w0 h' nx' w')
 | .round t args h nx,.ret v h' nx'=>∀ (ρ:Pl) (w0:Bas Φ) (w:World) (vs:List Value),Mem ρ w0 h nx w→KL nx ρ args vs→nx≤tE→
  ∃ f tmps assign body,(Instr.yield (ρ t).1 vs.toArray).run P w=.ok (.round (ρ t).1 f tmps assign body) w∧
   RoundIn Fence.wide 0 P (ρ t).1 f tmps assign body w (fun e w'=>∃ u ρ',e=.returned u∧Nx ρ h nx w ρ' h' nx' w'∧Kn nx' ρ' v u∧Mem ρ' w0 h' nx' w')
 | .reg l plan pend n E h nx,.ok x E' h' nx'=>x=.normal∧∀ (ρ ρs:Pl) (w0:Bas Φ) (a:Act) (w ws:World) (hs:Tr CB) (Je:Nat) (L Lm:Array Bool) (Rc:List Nat) (S:List Early) (cs:List (Nat×Nat×Obj)) (f:Nat),RI P l n E h nx pend ρ ρs w0 a w ws hs Je L Lm Rc S cs→nx≤tE→n≤100000→
  Region.noSelect l.toArray=true→PlanOk l L Rc plan→plan.length=f+S.length→
  ∀ K:Act→World→Prop,(∀ ρ' a' w',Nx ρs hs Je ws ρ' h' nx' w'→Rel ρ' w0 n E' h' nx' a' w'→K a' w')→gm P l.toArray K (CP l cs) f Lm a w
 | _,.bad _ _=>True
 | _,_=>False
section
variable {P:Program} {Φ:Imm→Prop} {pr:uQ} {nx nx' n:Nat} {ρ ρ':Pl} {w0:Bas Φ} {w w':World} {E:Tr CV} {h h':Tr CB} {a:Act}
theorem Slots.up (hs:Slots ρ E nx n a) (hn:nx≤nx') (he:Ext nx ρ ρ'):Slots ρ' E nx' n a:=⟨hs.1,fun i x hx=>by
 obtain ⟨v,h1,h2⟩:=hs.2 i x hx
 exact ⟨v,h1,h2.up hn he⟩⟩
theorem vY (hs:Slots ρ E nx n a) {d:Option Nat} {c:CV} {v:Value} {E':Tr CV} (hn:n≤100000) (hp:xU E n d c=some E') (hk:Kn nx ρ c v):Slots ρ E' nx n (a.put d v):=by
 cases d with
 | none=>cases hp;exact hs
 | some d =>
   have hp':(bif Nat.ble (Nat.succ d) n then some (E.set (some c) tE d) else none)=some E':=hp
   rcases sY hp' with ⟨h1,h2⟩ | ⟨_,h2⟩
   · cases h2
     have hd:d<n:=bA h1
     refine ⟨by show (a.tmps.setIfInBounds d v).size=n;simp [hs.1],fun i x hx=>?_⟩
     rw [eP (some c) tE E d i (by rw [Mh];omega)] at hx
     show ∃ u,(a.tmps.setIfInBounds d v)[i]?=some u∧_
     by_cases e:i=d
     · subst e
       rw [aR rfl] at hx
       cases hx
       exact ⟨v,by simp [hs.1,hd],hk⟩
     rw [aL e] at hx
     obtain ⟨u,h1,h2⟩:=hs.2 i x hx
     exact ⟨u,by rw [gW (qC e)];exact h1,h2⟩
   cases h2
theorem Mu:Kn nx ρ (.tup .nil) undef:=⟨trivial,qE.2 ⟨[],rfl,rfl⟩⟩
theorem zH (a:Act) (d:Option Nat) (v:Value):(a.put d v).defers=a.defers:=by cases d <;> rfl
theorem Ea (hs:Slots ρ E nx n a) {all:List Oper} {j t:Nat} {b:Bool} (hd:zR all j=some t) (he:E.get t=some (.bool b)):yielded all.toArray a.tmps j=some b:=by
 obtain ⟨v,h1,h2⟩:=hs.2 t _ he
 rw [rD.1 h2.2] at h1
 rw [Aj] at hd
 unfold yielded
 have:(all.toArray[j]?).bind (·.dst)=some t:=by simpa using hd
 rw [this]
 simp [h1]
theorem Mv (hs:Slots ρ E nx n a) {all:List Oper} {j t:Nat} (hd:zR all j=some t) (he:E.get t=some (.tup .nil)):yielded all.toArray a.tmps j=none:=by
 obtain ⟨v,h1,h2⟩:=hs.2 t _ he
 obtain ⟨vs,h3,h4⟩:=qE.1 h2.2
 have:vs=[]:=h3
 subst this
 rw [h4] at h1
 rw [Aj] at hd
 unfold yielded
 have:(all.toArray[j]?).bind (·.dst)=some t:=by simpa using hd
 rw [this]
 simp [h1]
theorem Mem.cong {h2:Tr CB} (hm:Mem ρ w0 h nx w) (e:∀ t,h2.get t=h.get t):Mem ρ w0 h2 nx w:=
 ⟨hm.upd,fun t b ht=>hm.own t b (by rw [←e];exact ht),fun t t' b b' h1 h2=>hm.one t t' b b' (by rw [←e];exact h1) (by rw [←e];exact h2),hm.imm,hm.nod,fun b hb=>⟨(hm.kept b hb).1,(hm.kept b hb).2.1,fun t c ht=>(hm.kept b hb).2.2 t c (by rw [←e];exact ht)⟩⟩
theorem OldX.cong {h2:Tr CB} (ho:Oc ρ h nx w ρ' h' w') (e:∀ t,h2.get t=h'.get t):Oc ρ h nx w ρ' h2 w':=⟨fun t b ht=>ho.old t b (by rw [←e];exact ht),ho.fr,fun t b ht=>ho.nw t b (by rw [←e];exact ht),ho.sz⟩
theorem Kept.put (a:Act) (d:Option Nat) (v:Value):Kept d a (a.put d v):=fun i hi=>by
 cases d with
 | none=>rfl
 | some d =>
   show (a.tmps.setIfInBounds d v)[i]?=_
   rw [gW (fun e=>hi (by rw [e]))]
abbrev oX:=@Kept.put
theorem Kept.refl (d:Option Nat) (a:Act):Kept d a a:=fun _ _=>rfl
def WN (P:Program) (Q:Exit→Act→World→Prop) (p:Option Code) (a:Act) (w:World):Prop:=match p with
 | none=>Q .normal a w
 | some c=>c.wpIn (FF none) 0 P Q a w
theorem KM {g:Operand} {f:Nat} {cap:CV} {ps:List Nat} {asg body:Code} {v:CV} {h':Tr CB} {nx':Nat} {E4:Tr CV} {n4:Nat} {ps4:List Nat} {as4 body4:Code} {st:LoopState} {p0:Option Code} {stm:Nat}
 (hg:uM E g=some (.fn f .nil cap)) (hfit:Nat.ble (Nat.succ nx) tE=true) (H1:tA P Φ (.call f (.cons (.yl nx) cap) (h.set (some (.lp E n ps asg body .ready none nx)) tE nx) (Nat.succ nx)) (.ret v h' nx'))
 (hlp:h'.get nx=some (.lp E4 n4 ps4 as4 body4 st p0 stm)) (hst:Sf st=false) (hfit':Nat.ble (Nat.succ nx') tE=true)
 (ρ:Pl) (w0:Bas Φ) (a:Act) (w:World) (hR:Rel ρ w0 n E h nx a w) (hf:nx≤tE) (hn:n≤100000) (Q:Exit→Act→World→Prop)
 (hQ:∀ ρ' a' w',Nx ρ h nx w ρ' (h'.set none tE nx) (Nat.succ nx') w'→Rel ρ' w0 n E (h'.set none tE nx) (Nat.succ nx') a' w'→WN P Q p0 a' w') :
 (Code.rangeFunc g ⟨ps⟩ asg body).wpIn (FF none) 0 P Q a w:=by
 obtain ⟨os,hR⟩:=hR
 obtain ⟨isf,H1⟩:=H1
 have hf1:=tL hfit
 refine wpIn_rangeFunc fun fn _=>?_
 obtain ⟨q,hq⟩:∃ q:Loop,q={ state:=.ready,pending:=none,fn,tmps:=a.tmps,params:=ps.toArray,assign:=asg,body,defers:=w.heap.size }:=⟨_,rfl⟩
 obtain ⟨gv,e1,k1⟩:=tB hR.slots hg
 obtain ⟨xs,ys,kx,ky,rfl⟩:=Ia k1
 have hx0:xs=[]:=kx.2
 subst hx0
 obtain ⟨m1,o1⟩:=hR.mem.keep
 have hsz:(w.alloc (.deferred (some []))).heap.size=w.heap.size+1:=World.size_alloc ..
 obtain ⟨ρ1,x1,p1,m2,o2⟩:=m1.new (b:=.lp E n ps asg body .ready none nx) (o:=.loop q) (s:=0) (w':=(w.alloc (.deferred (some []))).alloc (.loop q)) hf1 rfl (uV _ _) (vA _ _) (uA _ _)
  ⟨q,rfl,by rw [hq],by rw [hq],by rw [hq],by rw [hq],by rw [hq],by rw [hq];exact hR.slots.1,fun i x hx=>by rw [hq];exact hR.slots.2 i x hx⟩
 rw [hsz] at p1
 obtain ⟨fnn,hf1',hf2,hf3⟩:=isf
 refine ⟨w.heap.size+1,[mark w.heap.size],(w.alloc (.deferred (some []))).alloc (.loop q),{ target:=.fn (.func f) ys.toArray,args:=#[.func (.yield (w.heap.size+1)) #[] #[]] },(w.alloc (.deferred (some []))).alloc (.loop q),f,
  (.func (.yield (w.heap.size+1)) #[] #[] :: ys).toArray,(w.alloc (.deferred (some []))).alloc (.loop q),?_,?_,?_,?_,fun h=>by simp [FF] at h,?_⟩
 · have:=run_enterLoop_outer (P:=P) (w:=w) fn a.tmps ps.toArray asg body
   rw [hq];exact this
 · have hev:Act.eval a g=.func (.func f) #[] ys.toArray:=uZ e1
   simp only [resolve,hev]
   simp [go_sem]
 · intro f' hf';trivial
 · simp [invoke,wY _ _ hf1' hf2 hf3]
 have hky:KL (nx+1) ρ1 cap ys:=ky.up (dB _) x1
 have hyl:Kn (nx+1) ρ1 (.yl nx) (.func (.yield (w.heap.size+1)) #[] #[]):=⟨cO _,by show _=_;rw [p1]⟩
 have hC:=H1 ρ1 ⟨w0.w,w.heap.size :: (os++w0.ks),w0.G,w0.ok,w0.s⟩ _ (.func (.yield (w.heap.size+1)) #[] #[] :: ys) m2 (pJ hyl hky) hf1
 refine xM.2 (hC.mono fun ex w' ⟨u,ρ2,h1,h2,h3,h4⟩=>?_)
 subst h1
 have hb:=h4.own nx _ hlp
 have e3:ρ2 nx=ρ1 nx:=h2.ext nx (cO _)
 rw [e3,p1] at hb
 obtain ⟨_,_,_,o,ho,hdb⟩:=hb
 obtain ⟨q4,rfl,g1,g2,g3,g4,g5,g6,g7⟩:=hdb
 have hend:(Instr.endLoop (w.heap.size+1)).run P w'=.ok q4.pending (w'.putObj (w.heap.size+1) (.loop { q4 with state:=.exhausted })):=run_endLoop ho (by rw [g1];intro hh;subst hh;cases hst)
 have hlt:=(cG.1 ho).1
 have e4:(ρ2 nx).1=w.heap.size+1:=by rw [e3,p1]
 have hfit2:=tL hfit'
 obtain ⟨m3,o3⟩:=h4.write (b':=.lp E4 n4 ps4 as4 body4 .exhausted p0 nx') (o:=.loop { q4 with state:=.exhausted }) (w':=w'.putObj (w.heap.size+1) (.loop { q4 with state:=.exhausted })) sV rfl hlp
  (by rw [e4];exact vR w' _ _) (by rw [e4];exact fY hlt) ⟨_,rfl,rfl,g2,g3,g4,g5,g6,fun i x hx=>g7 i x hx⟩
 have hnx:nx<nx':=h2.le
 obtain ⟨m4,o4⟩:=m3.kill hfit2 (t:=nx) sV
 have hset:∀ t,(h'.set none tE nx).get t=((h'.set (some (CB.lp E4 n4 ps4 as4 body4 .exhausted p0 nx')) tE nx).set none tE nx).get t:=fun t=>by
  rw [eP _ _ _ _ _ sV,eP _ _ _ _ _ sV,eP _ _ _ _ _ sV]
  split <;> rfl
 have m4:=m4.cong hset
 have o4:=o4.cong hset
 have hnxx:Nx ρ h nx w ρ2 (h'.set none tE nx) (Nat.succ nx') (w'.putObj (w.heap.size+1) (.loop { q4 with state:=.exhausted })):=by
  have a1:Nx ρ h nx w ρ h nx (w.alloc (.deferred (some []))):=⟨aG _,hf,dH _ _,o1⟩
  have a2:Nx ρ h nx (w.alloc (.deferred (some []))) ρ1 _ (nx+1) _:=⟨dB _,hf1,x1,o2⟩
  have a3:=(a1.trans hR.mem a2).trans hR.mem h2
  have a4:Nx ρ2 h' nx' w' ρ2 _ (nx'+1) _:=⟨dB _,hfit2,dH _ _,o3⟩
  have a5:=a3.trans hR.mem a4
  exact a5.trans hR.mem ⟨aG _,hfit2,dH _ _,o4⟩
 have hRel:Rel ρ2 w0 n E (h'.set none tE nx) (Nat.succ nx') { a with defers:=[mark w.heap.size]++a.defers } (w'.putObj (w.heap.size+1) (.loop { q4 with state:=.exhausted })):=
  ⟨w.heap.size :: os,hR.slots.up hnxx.le hnxx.ext,by show [mark w.heap.size]++a.defers=_;rw [hR.defers];rfl,m4,fun b hb=>by
   rcases dF.1 hb with rfl | hb
   · exact hR.ss
   exact hR.mks b hb,aO hR.ss hnxx.old.sz⟩
 have H:=hQ _ _ _ hnxx hRel
 rw [←g2] at H
 exact ⟨q4.pending,_,hend,H⟩
theorem xV {ih:Cmd→Res} (H:∀ c,tA P Φ c (ih c)) (c:Code) (n:Nat) (E:Tr CV) (h:Tr CB) (nx:Nat):tA P Φ (.code c n E h nx) (step P pr ih (.code c n E h nx)):=by
 have quiet:∀ (x:Exit) (c:Code),(∀ (r:Option Nat) (a:Act) (w:World) (Q:Exit→Act→World→Prop),Q x a w→c.wpIn (FF r) 0 P Q a w)→tA P Φ (.code c n E h nx) (.ok x E h nx):=fun x c hc r ρ w0 a w hR hf hn hrr =>
  fun Q hQ=>hc r a w Q (hQ ρ a w (Nx.refl hf) hR)
 cases c with
 | skip=>exact quiet .normal _ fun r a w Q hq=>wpIn_skip hq
 | label l=>exact quiet .normal _ fun r a w Q hq=>wpIn_label hq
 | exit id=>exact quiet (.exit id) _ fun r a w Q hq=>wpIn_exit hq
 | ret=>exact quiet .ret _ fun r a w Q hq=>wpIn_ret hq
 | goto l=>trivial
 | refuse s=>trivial
 | rangeFunc g ps asg body =>
   obtain ⟨ps⟩:=ps
   show tA P Φ _ (match uM E g with
    | some (.fn f .nil cap)=>bif Nat.ble (Nat.succ nx) tE then
      (match ih (.call f (.cons (.yl nx) cap) (h.set (some (.lp E n ps asg body .ready none nx)) tE nx) (Nat.succ nx)) with
      | .ret _ h' nx'=>(match h'.get nx with
        | some (.lp _ _ _ _ _ st p _)=>bif Sf st || not (Nat.ble (Nat.succ nx') tE) then .bad 41 [] else
          (match p with
          | none=>.ok .normal E (h'.set none tE nx) (Nat.succ nx')
          | some c=>ih (.code c n E (h'.set none tE nx) (Nat.succ nx')))
        | _=>.bad 42 [])
      | .ok _ _ _ _=>.bad 43 []
      | r=>r) else .bad 44 []
    | _=>.bad 45 [])
   split
   · rename_i f cap hg
     refine tD (tA P Φ _) (fun hfit=>?_) fun _=>trivial
     have H1:=H (.call f (.cons (.yl nx) cap) (h.set (some (.lp E n ps asg body .ready none nx)) tE nx) (Nat.succ nx))
     generalize ih (.call f (.cons (.yl nx) cap) (h.set (some (.lp E n ps asg body .ready none nx)) tE nx) (Nat.succ nx))=q at H1
     cases q with
     | bad=>trivial
     | ok _ _ _ _=>trivial
     | ret v h' nx' =>
       show tA P Φ _ (match h'.get nx with
        | some (.lp _ _ _ _ _ st p _)=>bif Sf st || not (Nat.ble (Nat.succ nx') tE) then .bad 41 [] else
          (match p with
          | none=>.ok .normal E (h'.set none tE nx) (Nat.succ nx')
          | some c=>ih (.code c n E (h'.set none tE nx) (Nat.succ nx')))
        | _=>.bad 42 [])
       split
       · rename_i E4 n4 ps4 as4 body4 st p stm hlp
         refine tD (tA P Φ _) (fun _=>trivial) fun hbz=>?_
         rw [Bool.or_eq_false_iff,Bool.not_eq_false'] at hbz
         have hgo:=KM (P:=P) (Φ:=Φ) (ps:=ps) (asg:=asg) (body:=body) hg hfit H1 hlp hbz.1 hbz.2
         cases p with
         | none =>
           intro r ρ w0 a w hR hf hn hrr Q hQ
           have hr0:r=none:=hrr.elim id (fun q=>by cases (show (false:Bool)=true from q))
           subst hr0
           exact hgo ρ w0 a w hR hf hn Q fun ρ' a' w' e1 e2=>hQ ρ' a' w' e1 e2
         | some c =>
           show tA P Φ _ (ih (.code c n E (h'.set none tE nx) (Nat.succ nx')))
           have H2:=H (.code c n E (h'.set none tE nx) (Nat.succ nx'))
           generalize ih (.code c n E (h'.set none tE nx) (Nat.succ nx'))=q2 at H2
           cases q2 with
           | bad=>trivial
           | ret _ _ _=>exact H2.elim
           | ok x2 E2 h2 nx2 =>
             intro r ρ w0 a w hR hf hn hrr Q hQ
             have hr0:r=none:=hrr.elim id (fun q=>by cases (show (false:Bool)=true from q))
             subst hr0
             exact hgo ρ w0 a w hR hf hn Q fun ρ' a' w' e1 e2=>H2 none ρ' w0 a' w' e2 e1.fit hn (.inl rfl) Q fun ρ2 a2 w2 f1 f2=>hQ ρ2 a2 w2 (e1.trans hR.mem f1) f2
       trivial
   · trivial
 | region id ops draw =>
   obtain ⟨l⟩:=ops
   cases draw with
   | true =>
     show tA P Φ _ (bif P.follows .mixedOrders then (match Mq l with
      | some p=>ih (.reg l p [] n E h nx)
      | none=>.bad 23 l) else .bad 24 [])
     cases hmx:P.follows .mixedOrders with
     | false=>trivial
     | true =>
       simp only [gE]
       split
       · rename_i p hp
         have H1:=H (.reg l p [] n E h nx)
         generalize ih (.reg l p [] n E h nx)=q at H1
         cases q with
         | bad=>trivial
         | ret v h' nx'=>exact H1.elim
         | ok x E' h' nx' =>
           obtain ⟨rfl,H1⟩:=H1
           obtain ⟨hns,hnd,hpl,hlen⟩:=KA hp
           intro r ρ w0 a w hR hf hn hrr Q hQ
           have hR':Rel ρ w0 n E h nx a w.drew:=by
            obtain ⟨os,hR⟩:=hR
            exact ⟨os,hR.slots,hR.defers,⟨hR.mem.upd.drew,hR.mem.own,hR.mem.one,hR.mem.imm,hR.mem.nod,hR.mem.kept⟩,hR.mks,hR.ss⟩
           have hg:=H1 ρ ρ w0 a w.drew w.drew h nx (Array.replicate l.length false) (Array.replicate l.length false) [] [] [] p.length ⟨hR',⟨rfl,fun j=>⟨.inl,fun h=>h.elim (fun q=>q) fun ⟨_,h,_⟩=>by cases h⟩,fun e he=>by cases he⟩,(fun j o hj hl=>by
            rw [(LM.start l).2,Nat.zero_testBit] at hl;cases hl),(fun e he=>by cases he),lC,lC,(fun e he=>by cases he),(fun x hx=>by cases hx),hR'.mem,Nx.refl hf⟩ hf hn hns hpl rfl (Q .normal) fun ρ' a' w' e1 e2=>hQ ρ' a' w' ⟨e1.le,e1.fit,e1.ext,⟨e1.old.old,e1.old.fr,e1.old.nw,e1.old.sz⟩⟩ e2
           rw [hlen] at hg
           have:=Kg (r:=r) (n:=0) (by simpa using hnd) _ _ _ _ hg
           exact wpIn_region_any hmx (by simpa using this)
       · trivial
   | false =>
     show tA P Φ _ (bif l.all uD then ih (.ops l l n E h nx) else .bad 2 [])
     cases hd:l.all uD with
     | false=>trivial
     | true =>
       show tA P Φ _ (ih (.ops l l n E h nx))
       have H1:=H (.ops l l n E h nx)
       generalize ih (.ops l l n E h nx)=q at H1
       cases q with
       | bad=>trivial
       | ret v h' nx'=>exact H1.elim
       | ok x E' h' nx' =>
         obtain ⟨rfl,H1⟩:=H1
         intro r ρ w0 a w hR hf hn hrr Q hQ
         exact wpIn_region_lit (zL l a w hd (H1 ρ w0 a w hR hf hn _ hQ))
 | scope c =>
   show tA P Φ _ (match ih (.code c n E h nx) with
    | .ok x E h nx=>(match x with
      | .normal=>.ok .normal E h nx
      | .ret=>.ok .ret E h nx
      | .exit id=>.ok (.exit id) E h nx
      | _=>.bad 22 [])
    | r=>r)
   have H1:=H (.code c n E h nx)
   generalize ih (.code c n E h nx)=q at H1
   cases q with
   | bad=>trivial
   | ret v h' nx'=>exact H1.elim
   | ok x E' h' nx' =>
     have go:(∀ Q:Exit→Act→World→Prop,∀ a w,Q x a w→Qs Q x a w)→tA P Φ (.code (.scope c) n E h nx) (.ok x E' h' nx'):=fun hx r ρ w0 a w hR hf hn hrr Q hQ =>
      Km (H1 r ρ w0 a w hR hf hn hrr _ fun ρ' a' w' e1 e2=>hx Q _ _ (hQ ρ' a' w' e1 e2))
     cases x with
     | normal=>exact go fun Q a w hq=>hq
     | ret=>exact go fun Q a w hq=>hq
     | exit id=>exact go fun Q a w hq=>hq
     | _=>trivial
 | loop c =>
   show tA P Φ _ (ih (.loop c n E h nx))
   have H1:=H (.loop c n E h nx)
   generalize ih (.loop c n E h nx)=q at H1
   cases q with
   | bad=>trivial
   | ret v h' nx'=>exact H1.elim
   | ok x E' h' nx' =>
     intro r ρ w0 a w hR hf hn hrr Q hQ b k cs hro hb' hr
     obtain ⟨e,a',w',hq,harr⟩:=H1 r ρ w0 a w hR hf hn hrr Q hQ b k cs hro hb' hr
     exact ⟨e,a',w',hq,.of_steps (.one (mL hb' hr rfl) stepR_loop) harr⟩
 | cond c x y =>
   show tA P Φ _ (match uM E c with
    | some (.bool t)=>ih (.code (bif t then x else y) n E h nx)
    | _=>.bad 1 [])
   split
   · rename_i t ht
     have H1:=H (.code (bif t then x else y) n E h nx)
     generalize ih (.code (bif t then x else y) n E h nx)=q at H1
     cases q with
     | bad=>trivial
     | ret v h' nx'=>exact H1.elim
     | ok x' E' h' nx' =>
       intro r ρ w0 a w hR hf hn hrr Q hQ
       obtain ⟨v,e1,g1⟩:=tB hR.slots ht
       have e2:a.eval c=.bool t:=by rw [←rD.1 g1.2];exact uZ e1
       refine wpIn_cond e2 ?_
       have:=H1 r ρ w0 a w hR hf hn (hrr.imp id fun q=>by have q':(Sn x && Sn y)=true:=q;rw [aC] at q';cases t <;> first | exact q'.1 | exact q'.2) Q hQ
       cases t <;> exact this
   · trivial
 | seq x y =>
   show tA P Φ _ (match ih (.code x n E h nx) with
    | .ok x E h nx=>(match x with
      | .normal=>ih (.code y n E h nx)
      | x=>.ok x E h nx)
    | r=>r)
   have H1:=H (.code x n E h nx)
   generalize ih (.code x n E h nx)=q at H1
   cases q with
   | bad=>trivial
   | ret v h' nx'=>exact H1.elim
   | ok x' E' h' nx' =>
     have pass:x'≠.normal→tA P Φ (.code (.seq x y) n E h nx) (.ok x' E' h' nx'):=fun hx=>by
      intro r ρ w0 a w hR hf hn hrr Q hQ
      refine wpIn_seq (H1 r ρ w0 a w hR hf hn (hrr.imp id fun q=>(aC _ _▸(show (Sn x && Sn y)=true from q)).1) _ fun ρ' a' w' e1 e2=>?_)
      have:=hQ ρ' a' w' e1 e2
      cases x' <;> first | exact absurd rfl hx | exact this
     cases x' with
     | normal =>
       show tA P Φ _ (ih (.code y n E' h' nx'))
       have H2:=H (.code y n E' h' nx')
       generalize ih (.code y n E' h' nx')=q2 at H2
       cases q2 with
       | bad=>trivial
       | ret v h2 nx2=>exact H2.elim
       | ok x2 E2 h2 nx2 =>
         intro r ρ w0 a w hR hf hn hrr Q hQ
         refine wpIn_seq (H1 r ρ w0 a w hR hf hn (hrr.imp id fun q=>(aC _ _▸(show (Sn x && Sn y)=true from q)).1) _ fun ρ' a' w' e1 e2=>?_)
         exact H2 r ρ' w0 a' w' e2 e1.fit hn (hrr.imp id fun q=>(aC _ _▸(show (Sn x && Sn y)=true from q)).2) Q fun ρ2 a2 w2 f1 f2=>hQ ρ2 a2 w2 (e1.trans hR.mem f1) f2
     | _=>exact pass Ii
 | block id c =>
   show tA P Φ _ (match ih (.code c n E h nx) with
    | .ok x E h nx=>(match x with
      | .exit id'=>bif Nat.beq id' id then .ok .normal E h nx else .ok (.exit id') E h nx
      | x=>.ok x E h nx)
    | r=>r)
   have H1:=H (.code c n E h nx)
   generalize ih (.code c n E h nx)=q at H1
   cases q with
   | bad=>trivial
   | ret v h' nx'=>exact H1.elim
   | ok x' E' h' nx' =>
     have go:∀ x2,(∀ (Q:Exit→Act→World→Prop) a w,Q x2 a w→Exit.inBlock id Q x' a w)→tA P Φ (.code (.block id c) n E h nx) (.ok x2 E' h' nx'):=fun x2 hx r ρ w0 a w hR hf hn hrr Q hQ =>
      wpIn_block (H1 r ρ w0 a w hR hf hn hrr _ fun ρ' a' w' e1 e2=>hx Q _ _ (hQ ρ' a' w' e1 e2))
     cases x' with
     | exit id' =>
       show tA P Φ _ (bif Nat.beq id' id then .ok .normal E' h' nx' else .ok (.exit id') E' h' nx')
       cases hb:Nat.beq id' id with
       | true =>
         have e:=aD hb
         exact go .normal fun Q a w hq=>by simp only [Exit.inBlock,e,eR];exact hq
       | false =>
         have e:=Yc hb
         exact go (.exit id') fun Q a w hq=>by simp only [Exit.inBlock,e,eS];exact hq
     | normal=>exact go _ fun Q a w hq=>hq
     | ret=>exact go _ fun Q a w hq=>hq
     | goto l=>exact go _ fun Q a w hq=>hq
     | panic ch=>exact go _ fun Q a w hq=>hq
     | outgrown=>exact go _ fun Q a w hq=>hq
theorem Gi {r:Option Nat} {c:Code} {Q:Exit→Act→World→Prop} {a:Act} {w:World} (h:c.wpIn (FF r) 0 P (Exit.then (Gz r P c Q) Q) a w):Gz r P c Q a w:=by
 intro b k cs hro hb' hr
 obtain ⟨x,a₁,w₁,hq,harr⟩:=h b (.inLoop c :: k) cs hro hb' hr
 cases x with
 | normal =>
   obtain ⟨e₂,a₂,w₂,hq₂,harr₂⟩:=hq b k cs hro hb' hr
   exact ⟨e₂,a₂,w₂,hq₂,.of_steps (rK harr (.one (mL hb' hr rfl) stepR_inLoop)) harr₂⟩
 | exit id=>exact ⟨_,a₁,w₁,hq,.pass (x:=.inLoop c) rfl (fun _ _=>.inl tS) harr⟩
 | goto l=>exact ⟨_,a₁,w₁,hq,.pass (x:=.inLoop c) rfl (fun _ _=>.inl tS) harr⟩
 | ret=>exact ⟨_,a₁,w₁,hq,.pass (x:=.inLoop c) rfl (fun _ _=>.inl tS) harr⟩
 | panic ch=>exact ⟨_,a₁,w₁,hq,.pass (x:=.inLoop c) rfl (fun _ _=>.inl tS) harr⟩
 | outgrown=>exact ⟨_,a₁,w₁,hq,.pass (x:=.inLoop c) rfl (fun _ _=>.inl tS) harr⟩
theorem Yf {op:Op} {t:Nat} {c:CV} (hr:JS E op=some t) (hq:qv P E h op=some c):∃ b,h.get t=some b:=by
 unfold JS at hr
 split at hr
 · rename_i T x
   split at hr
   · rename_i t' o hx
     cases hr
     have hq':(match uM E x with
      | some (.ptr t o)=>match h.get t with
        | some (.cells l _ _ _)=>bif vK P T then DY l o else
          (match SO P T with
          | some k=>bif Nat.beq (tW (uE l o k)) k then some (.agg (uE l o k)) else none
          | none=>none)
        | _=>none
      | _=>none)=some c:=hq
     rw [hx] at hq'
     simp only at hq'
     split at hq'
     · rename_i hb;exact ⟨_,hb⟩
     cases hq'
   cases hr
 · rename_i T x i cc
   split at hr
   · rename_i t' hx
     cases hr
     have hq':XP P E h T x i cc=some c:=hq
     unfold XP at hq'
     rw [hx] at hq'
     simp only at hq'
     split at hq'
     · split at hq'
       · rename_i l st hb;exact ⟨_,hb⟩
       · rename_i l st hb;exact ⟨_,hb⟩
       cases hq'
     cases hq'
   cases hr
 cases hr
theorem step_loop {ih:Cmd→Res} (H:∀ c,tA P Φ c (ih c)) (c:Code) (n:Nat) (E:Tr CV) (h:Tr CB) (nx:Nat):tA P Φ (.loop c n E h nx) (step P pr ih (.loop c n E h nx)):=by
 show tA P Φ _ (match ih (.code c n E h nx) with
  | .ok x E h nx=>(match x with
    | .normal=>ih (.loop c n E h nx)
    | x=>.ok x E h nx)
  | r=>r)
 have H1:=H (.code c n E h nx)
 generalize ih (.code c n E h nx)=q at H1
 cases q with
 | bad=>trivial
 | ret v h' nx'=>exact H1.elim
 | ok x' E' h' nx' =>
   have pass:x'≠.normal→tA P Φ (.loop c n E h nx) (.ok x' E' h' nx'):=fun hx r ρ w0 a w hR hf hn hrr Q hQ=>by
    refine Gi (H1 r ρ w0 a w hR hf hn hrr _ fun ρ' a' w' e1 e2=>?_)
    have:=hQ ρ' a' w' e1 e2
    cases x' <;> first | exact absurd rfl hx | exact this
   cases x' with
   | normal =>
     show tA P Φ _ (ih (.loop c n E' h' nx'))
     have H2:=H (.loop c n E' h' nx')
     generalize ih (.loop c n E' h' nx')=q2 at H2
     cases q2 with
     | bad=>trivial
     | ret v h2 nx2=>exact H2.elim
     | ok x2 E2 h2 nx2 =>
       intro r ρ w0 a w hR hf hn hrr Q hQ
       refine Gi (H1 r ρ w0 a w hR hf hn hrr _ fun ρ' a' w' e1 e2=>?_)
       exact H2 r ρ' w0 a' w' e2 e1.fit hn hrr Q fun ρ2 a2 w2 f1 f2=>hQ ρ2 a2 w2 (e1.trans hR.mem f1) f2
   | _=>exact pass Ii
theorem Ac {ih:Cmd→Res} (H:∀ c,tA P Φ c (ih c)) (o:Oper) (n:Nat) (E:Tr CV) (h:Tr CB) (nx:Nat):tA P Φ (.one o n E h nx) (step P pr ih (.one o n E h nx)):=by
 obtain ⟨dst,op,ty,pos,after,g⟩:=o
 show tA P Φ _ (match qv P E h op with
  | some c=>(match xU E n dst c with | some E=>.ok .normal E h nx | none=>.bad 7 [])
  | none=>match wm P E h nx op with
    | .val c h nx=>(match xU E n dst c with | some E=>.ok .normal E h nx | none=>.bad 8 [])
    | .unit h nx=>(match dst with | none=>.ok .normal E h nx | some _=>.bad 10 [])
    | .bad=>Iz ih E n h nx dst op)
 split
 · rename_i c hq
   split
   · rename_i E' hp
     refine ⟨rfl,fun ρ w0 a w hR hf hn K hK=>?_⟩
     obtain ⟨ob,hob⟩:∃ ob:Nat→Obj,∀ t b,h.get t=some b→w.heap[(ρ t).1]?=some (ob t)∧DB nx ρ (ρ t).2 b (ob t):=by
      refine ⟨fun t=>(w.heap[(ρ t).1]?).getD default,fun t b hb=>?_⟩
      obtain ⟨_,_,_,o,h1,h2⟩:=hR.mem.own t b hb
      exact ⟨by show _=some ((w.heap[(ρ t).1]?).getD default);rw [h1];rfl,by show DB _ _ _ _ ((w.heap[(ρ t).1]?).getD default);rw [h1];exact h2⟩
     obtain ⟨v,k1,k2⟩:=AQ (ob:=ob) hR.slots (fun t b _ hb=>(hob t b hb).2) hq
     have hr:(execOp a.eval ⟨dst,op,ty,pos,after,g⟩).run P w=.ok (.value v) w:=by
      refine k2 w (fun t ht=>?_) dst ty pos after g
      obtain ⟨b,hb⟩:=Yf ht hq
      exact (hob t b hb).1
     unfold xN
     rw [hr]
     exact hK ρ _ w (Nx.refl hf) (hR.put (vY hR.slots hn hp k1)) (oX _ _ _)
   trivial
 have hw:∀ (ρ:Pl) (w0:Bas Φ) (a:Act) (w:World),Slots ρ E nx n a→Mem ρ w0 h nx w→nx≤tE→Wd P op ρ w0 h nx a w (wm P E h nx op):=fun ρ w0 a w hR hm hf=>WH hR hm hf
 revert hw
 generalize wm P E h nx op=q
 intro hw
 cases q with
 | val c h' nx' =>
   show tA P Φ _ (match xU E n dst c with | some E=>.ok .normal E h' nx' | none=>.bad 8 [])
   split
   · rename_i E' hp
     refine ⟨rfl,fun ρ w0 a w hR hf hn K hK=>?_⟩
     obtain ⟨os,hR⟩:=hR
     obtain ⟨k1,v,w',ρ',e1,e2,e3,e4,e5,e6⟩:=hw ρ (w0.plus os) a w hR.slots hR.mem hf
     unfold xN
     rw [e6 dst ty pos after g]
     exact hK ρ' _ w' ⟨k1,e4,e1,e5⟩ ⟨os,vY (hR.slots.up k1 e1) hn hp e2,(zH _ _ _).trans hR.defers,e3,hR.mks,aO hR.ss e5.sz⟩ (oX _ _ _)
   · trivial
 | unit h' nx' =>
   show tA P Φ _ (match dst with | none=>.ok .normal E h' nx' | some _=>.bad 10 [])
   cases dst with
   | some d=>trivial
   | none =>
     refine ⟨rfl,fun ρ w0 a w hR hf hn K hK=>?_⟩
     obtain ⟨os,hR⟩:=hR
     obtain ⟨k1,w',ρ',e1,e3,e4,e5,e6⟩:=hw ρ (w0.plus os) a w hR.slots hR.mem hf
     unfold xN
     rw [e6 ty pos after g]
     exact hK ρ' _ w' ⟨k1,e4,e1,e5⟩ ⟨os,hR.slots.up k1 e1,hR.defers,e3,hR.mks,aO hR.ss e5.sz⟩ (Kept.refl _ _)
 | bad =>
   show tA P Φ _ (Iz ih E n h nx dst op)
   unfold Iz
   split
   · rename_i f args ats _
     split
     · rename_i g' fst cap hfv
       split
       · rename_i l hl
         have H1:=H (.call g' (zZ fst (zZ l cap)) h nx)
         generalize ih (.call g' (zZ fst (zZ l cap)) h nx)=q at H1
         cases q with
         | bad=>trivial
         | ok _ _ _ _=>trivial
         | ret v h' nx' =>
           show tA P Φ _ (match xU E n dst v with | some E=>.ok .normal E h' nx' | none=>.bad 11 [])
           split
           · rename_i E' hp
             obtain ⟨⟨fn,f1,f2,f3⟩,H1⟩:=H1
             refine ⟨rfl,fun ρ w0 a w hR hf hn K hK=>?_⟩
             obtain ⟨os,hR⟩:=hR
             obtain ⟨fv,e1,k1⟩:=tB hR.slots hfv
             obtain ⟨xs,ys,k2,k3,rfl⟩:=Ia k1
             obtain ⟨vs,e2,k4⟩:=Jo hR.slots hl
             have hC:=H1 ρ (w0.plus os) w (xs++vs++ys) hR.mem (by rw [dQ];exact Cs k2 (Cs k4 k3)) hf
             have hrun:(execOp a.eval ⟨dst,.call ⟨.value f,⟨args⟩,ats⟩,ty,pos,after,g⟩).run P w=.ok (.enter g' (xs++vs++ys).toArray) w:=by
              have hargs:(args.map a.eval)=vs:=(lookN a w).evals e2
              simp [execOp,resolve,Deferred.ofValue,invoke,uZ e1,hargs,wY w _ f1 f2 f3]
             unfold xN
             rw [hrun]
             refine hC.mono fun e w' ⟨u,ρ',q1,q2,q3,q4⟩=>⟨u,q1,?_⟩
             exact hK ρ' _ w' q2 ⟨os,vY (hR.slots.up q2.le q2.ext) hn hp q3,(zH _ _ _).trans hR.defers,q4,hR.mks,aO hR.ss q2.old.sz⟩ (oX _ _ _)
           trivial
       trivial
     · rename_i t hfv
       split
       · rename_i l hl
         have H1:=H (.round t l h nx)
         generalize ih (.round t l h nx)=q at H1
         cases q with
         | bad=>trivial
         | ok _ _ _ _=>trivial
         | ret v h' nx' =>
           show tA P Φ _ (match xU E n dst v with | some E=>.ok .normal E h' nx' | none=>.bad 51 [])
           split
           · rename_i E' hp
             refine ⟨rfl,fun ρ w0 a w hR hf hn K hK=>?_⟩
             obtain ⟨os,hR⟩:=hR
             obtain ⟨fv,e1,k1⟩:=tB hR.slots hfv
             have e3:fv=.func (.yield (ρ t).1) #[] #[]:=k1.2
             subst e3
             obtain ⟨vs,e2,k4⟩:=Jo hR.slots hl
             obtain ⟨f',tmps,assign,body,hy,hC⟩:=H1 ρ (w0.plus os) w vs hR.mem k4 hf
             have hrun:(execOp a.eval ⟨dst,.call ⟨.value f,⟨args⟩,ats⟩,ty,pos,after,g⟩).run P w=.ok (.round (ρ t).1 f' tmps assign body) w:=by
              have hargs:(args.map a.eval)=vs:=(lookN a w).evals e2
              simp [execOp,resolve,Deferred.ofValue,invoke,uZ e1,hargs,hy]
             unfold xN
             rw [hrun]
             refine hC.mono fun e w' ⟨u,ρ',q1,q2,q3,q4⟩=>⟨u,q1,?_⟩
             exact hK ρ' _ w' q2 ⟨os,vY (hR.slots.up q2.le q2.ext) hn hp q3,(zH _ _ _).trans hR.defers,q4,hR.mks,aO hR.ss q2.old.sz⟩ (oX _ _ _)
           trivial
       trivial
     trivial
   trivial
end
section
variable {P:Program} {Φ:Imm→Prop} {pr:uQ}
theorem SH {nx n:Nat} {ρ:Pl} (hn:n≤100000):∀ {ps:List Nat} {args:CV} {vs:List Value} {E E1:Tr CV} {tmps:Array Value},KL nx ρ args vs→XS n ps args E=some E1→tmps.size=n→(∀ i x,E.get i=some x→∃ v,tmps[i]?=some v∧Kn nx ρ x v)→
 ps.length=vs.length∧((ps.zip vs).foldl (fun t (p:Nat×Value)=>t.setIfInBounds p.1 p.2) tmps).size=n∧∀ i x,E1.get i=some x→∃ v,((ps.zip vs).foldl (fun t (p:Nat×Value)=>t.setIfInBounds p.1 p.2) tmps)[i]?=some v∧Kn nx ρ x v:=by
 intro ps
 induction ps with
 | nil =>
   intro args vs E E1 tmps hk hp hs he
   cases args with
   | nil =>
     have hp':some E=some E1:=hp
     cases hp'
     have:vs=[]:=hk.2
     subst this
     exact ⟨rfl,by simpa using hs,by simpa using he⟩
   | _=>exact absurd (show none=some E1 from hp) tS
 | cons p ps ih =>
   intro args vs E E1 tmps hk hp hs he
   cases args with
   | cons a b =>
     have hp':(bif Nat.ble (Nat.succ p) n then XS n ps b (E.set (some a) tE p) else none)=some E1:=hp
     rcases sY hp' with ⟨h1,h2⟩ | ⟨_,h2⟩
     · have hpn:p<n:=bA h1
       obtain ⟨⟨b1,b2⟩,v,r,rfl,k1,k2⟩:=hk
       obtain ⟨q1,q2,q3⟩:=ih (E:=E.set (some a) tE p) (tmps:=tmps.setIfInBounds p v) ⟨b2,k2⟩ h2 (by simpa using hs) (fun i x hx=>by
        rw [eP (some a) tE E p i (by rw [Mh];omega)] at hx
        by_cases e:i=p
        · subst e
          rw [aR rfl] at hx
          cases hx
          exact ⟨v,by simp [hs,hpn],b1,k1⟩
        rw [aL e] at hx
        obtain ⟨u,g1,g2⟩:=he i x hx
        exact ⟨u,by rw [gW (qC e)];exact g1,g2⟩)
       exact ⟨by simp [q1],by simpa using q2,by simpa using q3⟩
     · cases h2
   | _=>exact absurd (show none=some E1 from hp) tS
theorem EO {ρ:Pl} {w0:Bas Φ} {h:Tr CB} {nx t n4 stm:Nat} {w:World} {E4:Tr CV} {ps4:List Nat} {as4 body4:Code} {st:LoopState} {p:Option Code} (hm:Mem ρ w0 h nx w) (hlp:h.get t=some (.lp E4 n4 ps4 as4 body4 st p stm)) (hfit:Nat.ble (Nat.succ nx) tE=true) (c:Option Code) :
 ∃ w',(Instr.endRound (ρ t).1 c).run P w=.ok (.bool c.isNone) w'∧Nx ρ h nx w ρ (h.set (some (.lp E4 n4 ps4 as4 body4 (LJ c) c nx)) tE t) (Nat.succ nx) w'∧Mem ρ w0 (h.set (some (.lp E4 n4 ps4 as4 body4 (LJ c) c nx)) tE t) (Nat.succ nx) w':=by
 obtain ⟨_,_,_,o,ho,q,rfl,g1,g2,g3,g4,g5,g6,g7⟩:=hm.own t _ hlp
 have hf:=tL hfit
 have hlt:=(cG.1 ho).1
 obtain ⟨m3,o3⟩:=hm.write (b':=.lp E4 n4 ps4 as4 body4 (LJ c) c nx) (o:=.loop { q with state:=if c.isNone then .ready else .done,pending:=c }) (w':=w.putObj (ρ t).1 (.loop { q with state:=if c.isNone then .ready else .done,pending:=c })) sV rfl hlp
  (vR w _ _) (fY hlt) ⟨_,rfl,by cases c <;> rfl,rfl,g3,g4,g5,g6,fun i x hx=>g7 i x hx⟩
 exact ⟨_,run_endRound c ho,⟨dB _,hf,dH _ _,o3⟩,m3⟩
theorem Mw {ih:Cmd→Res} (H:∀ c,tA P Φ c (ih c)) (t:Nat) (args:CV) (h:Tr CB) (nx:Nat):tA P Φ (.round t args h nx) (step P pr ih (.round t args h nx)):=by
 show tA P Φ _ (match h.get t with
  | some (.lp E n ps asg body st _ _)=>bif Vn st && (Sn asg && (Sn body && Nat.ble n 100000)) then
    (match XS n ps args E with
    | some E1=>match ih (.code asg n E1 h nx) with
      | .ok .normal E2 h2 nx2=>(match h2.get t with
        | some (.lp E0 n0 ps0 as0 body0 st0 p0 _)=>bif Vn st0 && Nat.ble (Nat.succ nx2) tE then
          (match ih (.code body n E2 (h2.set (some (.lp E0 n0 ps0 as0 body0 .busy p0 nx2)) tE t) (Nat.succ nx2)) with
          | .ok x _ h3 nx3=>(match h3.get t with
            | some (.lp E4 n4 ps4 as4 body4 _ _ _)=>bif Nat.ble (Nat.succ nx3) tE then
              (match EM x with
              | some none=>.ret (.bool true) (h3.set (some (.lp E4 n4 ps4 as4 body4 .ready none nx3)) tE t) (Nat.succ nx3)
              | some (some c)=>.ret (.bool false) (h3.set (some (.lp E4 n4 ps4 as4 body4 .done (some c) nx3)) tE t) (Nat.succ nx3)
              | none=>.bad 46 []) else .bad 47 []
            | _=>.bad 48 [])
          | .ret _ _ _=>.bad 49 []
          | r=>r) else .bad 50 []
        | _=>.bad 54 [])
      | .ok _ _ _ _=>.bad 55 []
      | .ret _ _ _=>.bad 56 []
      | r=>r
    | none=>.bad 57 []) else .bad 58 []
  | _=>.bad 59 [])
 split
 · rename_i E n ps asg body st p stm hlp
   refine tD (tA P Φ _) (fun hb=>?_) fun _=>trivial
   simp only [aC] at hb
   obtain ⟨hb1,hb2,hb3,hb4⟩:=hb
   have hn:=tL hb4
   split
   · rename_i E1 hps
     have H1:=H (.code asg n E1 h nx)
     generalize ih (.code asg n E1 h nx)=q at H1
     cases q with
     | bad=>trivial
     | ret _ _ _=>trivial
     | ok x E2 h2 nx2 =>
       cases x with
       | normal =>
         show tA P Φ _ (match h2.get t with
          | some (.lp E0 n0 ps0 as0 body0 st0 p0 _)=>bif Vn st0 && Nat.ble (Nat.succ nx2) tE then
            (match ih (.code body n E2 (h2.set (some (.lp E0 n0 ps0 as0 body0 .busy p0 nx2)) tE t) (Nat.succ nx2)) with
            | .ok x _ h3 nx3=>(match h3.get t with
              | some (.lp E4 n4 ps4 as4 body4 _ _ _)=>bif Nat.ble (Nat.succ nx3) tE then
                (match EM x with
                | some none=>.ret (.bool true) (h3.set (some (.lp E4 n4 ps4 as4 body4 .ready none nx3)) tE t) (Nat.succ nx3)
                | some (some c)=>.ret (.bool false) (h3.set (some (.lp E4 n4 ps4 as4 body4 .done (some c) nx3)) tE t) (Nat.succ nx3)
                | none=>.bad 46 []) else .bad 47 []
              | _=>.bad 48 [])
            | .ret _ _ _=>.bad 49 []
            | r=>r) else .bad 50 []
          | _=>.bad 54 [])
         split
         · rename_i E0 n0 ps0 as0 body0 st0 p0 stm0 hlp0
           refine tD (tA P Φ _) (fun hb=>?_) fun _=>trivial
           rw [aC] at hb
           obtain ⟨hb5,hb6⟩:=hb
           have hf6:=tL hb6
           have H2:=H (.code body n E2 (h2.set (some (.lp E0 n0 ps0 as0 body0 .busy p0 nx2)) tE t) (Nat.succ nx2))
           generalize ih (.code body n E2 (h2.set (some (.lp E0 n0 ps0 as0 body0 .busy p0 nx2)) tE t) (Nat.succ nx2))=q2 at H2
           cases q2 with
           | bad=>trivial
           | ret _ _ _=>trivial
           | ok x3 E3 h3 nx3 =>
             show tA P Φ _ (match h3.get t with
              | some (.lp E4 n4 ps4 as4 body4 _ _ _)=>bif Nat.ble (Nat.succ nx3) tE then
                (match EM x3 with
                | some none=>.ret (.bool true) (h3.set (some (.lp E4 n4 ps4 as4 body4 .ready none nx3)) tE t) (Nat.succ nx3)
                | some (some c)=>.ret (.bool false) (h3.set (some (.lp E4 n4 ps4 as4 body4 .done (some c) nx3)) tE t) (Nat.succ nx3)
                | none=>.bad 46 []) else .bad 47 []
              | _=>.bad 48 [])
             split
             · rename_i E4 n4 ps4 as4 body4 st4 p4 stm4 hlp4
               refine tD (tA P Φ _) (fun hb7=>?_) fun _=>trivial
               have go:∀ (c:Option Code),EM x3=some c→∀ (ρ:Pl) (w0:Bas Φ) (w:World) (vs:List Value),Mem ρ w0 h nx w→KL nx ρ args vs→nx≤tE→
                ∃ f tmps assign body,(Instr.yield (ρ t).1 vs.toArray).run P w=.ok (.round (ρ t).1 f tmps assign body) w∧
                 RoundIn Fence.wide 0 P (ρ t).1 f tmps assign body w (fun e w'=>∃ u ρ',e=.returned u∧Nx ρ h nx w ρ' (h3.set (some (.lp E4 n4 ps4 as4 body4 (LJ c) c nx3)) tE t) (Nat.succ nx3) w'∧Kn (Nat.succ nx3) ρ' (.bool c.isNone) u∧Mem ρ' w0 (h3.set (some (.lp E4 n4 ps4 as4 body4 (LJ c) c nx3)) tE t) (Nat.succ nx3) w'):=by
                intro c hc ρ w00 w vs hm hk hf
                obtain ⟨W0,ks0,G0,ok0,s0⟩:=w00
                replace hm:=hm.base (s':=w.heap.size)
                obtain ⟨w0,hw0⟩:∃ w0:Bas Φ,w0=⟨W0,ks0,G0,ok0,w.heap.size⟩:=⟨_,rfl⟩
                rw [←hw0] at hm
                obtain ⟨htn,_,_,o,ho,q,rfl,g1,g2,g3,g4,g5,g6,g7⟩:=hm.own t _ hlp
                obtain ⟨z1,z2,z3⟩:=SH hn hk hps g6 g7
                refine ⟨_,_,_,_,run_yield ho (by rw [g3];simp [z1]),?_⟩
                rw [g4,g5,g3]
                have htm:(ps.toArray.zip vs.toArray).foldl (fun tmps (x:Nat×Value)=>tmps.setIfInBounds x.1 x.2) q.tmps=(ps.zip vs).foldl (fun t (p:Nat×Value)=>t.setIfInBounds p.1 p.2) q.tmps:=tS
                refine roundIn_of_wpIn (F:=Fence.wide) (n:=0) trivial ?_
                have hR:Rel ρ w0 n E1 h nx { tmps:=(ps.toArray.zip vs.toArray).foldl (fun tmps (x:Nat×Value)=>tmps.setIfInBounds x.1 x.2) q.tmps,defers:=[] } w:=by
                 rw [htm]
                 exact ⟨[],⟨z2,z3⟩,rfl,hm,fun b hb=>(by cases hb),by rw [hw0];exact aG _⟩
                refine H1 (some (ρ t).1) ρ w0 _ w hR hf hn (.inr hb2) _ fun ρ2 a2 w2 e1 e2=>?_
                have m2:=e2.mem
                have e3:ρ2 t=ρ t:=e1.ext t htn
                obtain ⟨_,_,_,o2,ho2,q2,rfl,j1,j2,j3,j4,j5,j6,j7⟩:=m2.own t _ hlp0
                rw [e3] at ho2
                have hlt:=(cG.1 ho2).1
                refine ⟨_,run_beginRound ho2 (by rw [j1];cases st0 <;> first | rfl | cases hb5),?_⟩
                obtain ⟨os,e2⟩:=e2
                obtain ⟨m3,o3⟩:=e2.mem.write (b':=.lp E0 n0 ps0 as0 body0 .busy p0 nx2) (o:=.loop { q2 with state:=.busy }) (w':=w2.putObj (ρ t).1 (.loop { q2 with state:=.busy })) sV rfl hlp0
                 (by rw [e3];exact vR w2 _ _) (by rw [e3];exact fY hlt) ⟨_,rfl,rfl,j2,j3,j4,j5,j6,fun i x hx=>j7 i x hx⟩
                have a4:Nx ρ2 h2 nx2 w2 ρ2 (h2.set (some (.lp E0 n0 ps0 as0 body0 .busy p0 nx2)) tE t) (Nat.succ nx2) (w2.putObj (ρ t).1 (.loop { q2 with state:=.busy })):=⟨dB _,hf6,dH _ _,o3⟩
                have hR2:Rel ρ2 w0 n E2 (h2.set (some (.lp E0 n0 ps0 as0 body0 .busy p0 nx2)) tE t) (Nat.succ nx2) a2 (w2.putObj (ρ t).1 (.loop { q2 with state:=.busy })):=⟨os,e2.slots.up (dB _) (dH _ _),e2.defers,m3,e2.mks,aO e2.ss a4.old.sz⟩
                refine H2 (some (ρ t).1) ρ2 w0 _ _ hR2 hf6 hn (.inr hb3) _ fun ρ3 a3 w3 f1 f2=>?_
                have htn2:t<nx2:=bS htn e1.le
                have e5:ρ3 t=ρ t:=(f1.ext t (Nat.lt_succ_of_lt htn2)).trans e3
                obtain ⟨w4,k1,k2,k3⟩:=EO (P:=P) f2.mem hlp4 hb7 c
                rw [e5] at k1
                have hnx:=(((e1.trans hm a4).trans hm f1).trans hm k2)
                have fin:∃ v w',(Instr.endRound (ρ t).1 c).run P w3=.ok v w'∧∃ u ρ',Ending.returned v=.returned u∧Nx ρ h nx w ρ' (h3.set (some (.lp E4 n4 ps4 as4 body4 (LJ c) c nx3)) tE t) (Nat.succ nx3) w'∧Kn (Nat.succ nx3) ρ' (.bool c.isNone) u∧Mem ρ' ⟨W0,ks0,G0,ok0,s0⟩ (h3.set (some (.lp E4 n4 ps4 as4 body4 (LJ c) c nx3)) tE t) (Nat.succ nx3) w':=
                 ⟨_,w4,k1,_,ρ3,rfl,hnx,Jt,by rw [hw0] at k3;exact k3.base⟩
                cases x3 with
                | normal=>cases hc;exact fin
                | ret=>cases hc;exact fin
                | exit id=>cases hc;exact fin
                | goto l=>cases hc
                | panic ch=>cases hc
                | outgrown=>cases hc
               cases hx:EM x3 with
               | none=>trivial
               | some c =>
                 cases c with
                 | none=>exact go none hx
                 | some c=>exact go (some c) hx
             trivial
         · trivial
       | _=>trivial
   trivial
 trivial
end
end Go.Sl.Ev
end
