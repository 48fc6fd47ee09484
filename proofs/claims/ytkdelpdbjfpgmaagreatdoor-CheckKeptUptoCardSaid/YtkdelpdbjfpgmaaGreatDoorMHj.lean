/- uP of the proof (part 10): what the rows' text needs of the texts that lead to it. -/
import Derived.Test.YtkdelpdbjfpgmaaGreatDoorMHi
set_option linter.unusedVariables false
set_option linter.unusedSimpArgs false
set_option linter.unusedSectionVars false
set_option maxHeartbeats 4000000
set_option maxRecDepth 100000
namespace Go.Proofs.YtkdelpdbjfpgmaaGreatDoor
open Go Go.Sl
theorem Mi {p:PV} {r:Int} (hr:0≤r∧r<p.regs):tJ p 0 r=min r p.ins:=by
 unfold tJ;show ((List.range p.regs.toNat).map fun (r:Nat)=>min (r:Int) p.ins)[r.toNat]?.getD default=_;rw [bM,eV sN];show min ((r.toNat:Nat):Int) p.ins=_;rw [cO hr.1]
theorem Aw (p:PV):uA p 0=p.ins.toNat+1:=aJ
theorem BV {l:Life} {s:Pl} {n:Nat} (hl:s.free.length=n) (h:∀ v:Int,0≤v∧v<n→stand s v=v∧fr s v=decide (tl l v<0)) (v:Int) (hv:0≤v∧v<n+1) :
 stand (Du s n (l.till[((n:Nat):Int).toNat]?.getD default)) v=v∧fr (Du s n (l.till[((n:Nat):Int).toNat]?.getD default)) v=decide (tl l v<0):=by
 have h1:stand (Du s n (l.till[(n:Int).toNat]?.getD default)) v=if v=n then (s.free.length:Int) else stand s v:=Mg s _ v _ _;rw [h1];by_cases e:v=n
 · subst e;rw [aF rfl];refine ⟨by omega,?_⟩;unfold fr;show (s.free++[_])[(n:Int).toNat]?.getD default=_;rw [aE,cB sN,hl,iH];rfl
 rw [aD e];obtain ⟨h2,h3⟩:=h v sN;refine ⟨h2,?_⟩;rw [←h3];unfold fr;show (s.free++[_])[v.toNat]?.getD default=_;rw [bF sN]
theorem Rr (l:Life):∀ (n:Nat) (v:Int),0≤v∧v<n→stand (wB l n) v=v∧fr (wB l n) v=decide (tl l v<0)
 | 0,v,h=>sN
 | n+1,v,h=>BV (Au l n) (Rr l n) v sN
theorem Mj {p:PV} (h1:1≤p.ins):(((xU p (lifeP p)).free.length:Int)=p.ins∨(((xU p (lifeP p)).free.length:Int)=p.ins+1∧0≤due p p.ins))∧(0≤due p p.ins→((xU p (lifeP p)).free.length:Int)=p.ins+1)∧
 ∀ v:Int,0≤v∧v<(xU p (lifeP p)).free.length→stand (xU p (lifeP p)) v=v∧fr (xU p (lifeP p)) v=decide (due p v<0):=by
 have hl:=Au (lifeP p) p.ins.toNat;have hs:=Rr (lifeP p) p.ins.toNat;unfold xU;by_cases hd:0≤(lifeP p).till[p.ins.toNat]?.getD default
 · rw [aF hd];have hl2:(Du (wB (lifeP p) p.ins.toNat) p.ins ((lifeP p).till[p.ins.toNat]?.getD default)).free.length=p.ins.toNat+1:=by
    show ((wB (lifeP p) p.ins.toNat).free++[_]).length=_;rw [aB,hl];rfl
   rw [hl2];refine ⟨.inr ⟨by omega,hd⟩,fun _=>by omega,fun v hv=>?_⟩;have:=BV hl hs v sN;rw [aE,cO (by omega:0≤p.ins)] at this;exact this
 rw [aD hd,hl];refine ⟨.inl sN,fun h=>absurd h hd,fun v hv=>hs v sN⟩
theorem QI {p:PV} (hR:sP p=true):F7 p 0 (xU p (lifeP p)):=by
 obtain ⟨f1,f2,f3,_⟩:=sT hR;obtain ⟨g1,g2,g3⟩:=Mj f1;have hz:=Aw p;have hin:∀ v,wC p 0 v→0≤v∧v<(xU p (lifeP p)).free.length:=fun v hv=>by
  have h1:=hv.1;have h2:=hv.2;by_cases e:v=p.ins
  · subst e;have:=g2 h2;omega
  rcases g1 with g1 | g1 <;> omega
 refine ⟨(Gg f1 _).1,fun v hv=>?_,fun v w hv hw e=>?_,fun r hr hf=>?_,?_⟩
 · rw [(g3 v (hin v hv)).1,(g3 v (hin v hv)).2];have:=hv.2;exact cA sN
 · rw [(g3 v (hin v hv)).1,(g3 w (hin w hw)).1] at e;exact e
 · have h1:=(g3 r hr).2;rw [hf] at h1;have h2:=mU h1.symm;exact ⟨r,⟨⟨hr.1,by rcases g1 with g1 | g1 <;> omega⟩,by omega⟩,(g3 r hr).1⟩
 rcases g1 with g1 | ⟨g1,g4⟩
 · omega
 obtain ⟨r,hr,e⟩:=Rm hR (aM _) (v:=p.ins) sN g4;rw [Mi hr] at e;omega
theorem In {p:PV} (hR:sP p=true) {k:Nat} (hk:k<p.code.length) (hn:yA p k=true) :
 sZ p (k+1)=⟨wA (Ac p k (sZ p k).s) (uA p k),max (sZ p k).regs ((least (Ac p k (sZ p k).s).free:Int)+1),
  (sZ p k).code++[⟨(vX p k).op,least (Ac p k (sZ p k).s).free,stand (sZ p k).s (wX p k),if 1<(tC (vX p k)).length then stand (sZ p k).s (xV p k) else (vX p k).b,(vX p k).c⟩]⟩:=by
 obtain ⟨h1,h2,h3⟩:=QH hR hk hn;have e:sZ p (k+1)=Im (lifeP p) (sZ p k) k (vX p k):=aF hn;rw [e];unfold Im;simp only;rw [h1,h2,h3];rfl
theorem Hm {p:PV} {k:Nat} (hn:¬yA p k=true):sZ p (k+1)=sZ p k:=aD hn
theorem Ah {p:PV} (hR:sP p=true):∀ k,k≤p.code.length→F7 p k (sZ p k).s∧(sZ p k).regs=(sZ p k).s.free.length
 | 0,_=>by
   refine ⟨QI hR,?_⟩;have:=(Gg (sT hR).1 (lifeP p)).2.1;show max p.ins ((xU p (lifeP p)).free.length:Int)=((xU p (lifeP p)).free.length:Int);omega
 | k+1,hk=>by
   obtain ⟨h1,h2⟩:=Ah hR k sN;by_cases hn:yA p k=true
   · rw [In hR sN hn];refine ⟨VH hR sN hn h1,?_⟩;show max (sZ p k).regs ((least (Ac p k (sZ p k).s).free:Int)+1)=((wA (Ac p k (sZ p k).s) (uA p k)).free.length:Int);have hle:=Aa (Ac p k (sZ p k).s).free;have hl:=Rp p k (sZ p k).s;rw [Ab,h2];split <;> omega
   rw [Hm hn];refine ⟨⟨h1.ok,fun v hv=>h1.i1 v ((Bq hR sN hn).1 hv),fun v w hv hw=>h1.i2 v w ((Bq hR sN hn).1 hv) ((Bq hR sN hn).1 hw),fun r hr hf=>?_,h1.i5⟩,h2⟩;obtain ⟨v,hv,e⟩:=h1.i3 r hr hf;exact ⟨v,(Bq hR sN hn).2 hv,e⟩
theorem Dw {p:PV} (hR:sP p=true) {k:Nat}:∀ j,k≤j→j≤p.code.length→(sZ p k).s.free.length≤(sZ p j).s.free.length
 | 0,h,_=>by rw [oE.1 h];exact aH _
 | j+1,h,hj=>by
   by_cases e:k=j+1
   · rw [e];exact aH _
   have ih:=Dw hR j (by omega:k≤j) sN;by_cases hn:yA p j=true
   · rw [In hR sN hn];show _≤(wA (Ac p j (sZ p j).s) (uA p j)).free.length;rw [Ab,Rp];split <;> omega
   rw [Hm hn];exact ih
theorem QJ {i:Sl.Instr} {r r':Int} (h:tB i r=true) (hr:r≤r'):tB i r'=true:=by
 rw [tM] at h ⊢;obtain ⟨⟨h1,h2,h3,h4,h5,h6⟩,h7⟩:=h;refine ⟨⟨h1,h2,h3,by omega,h5,by omega⟩,?_⟩;by_cases h34:i.op=3∨i.op=4
 · rw [aF h34] at h7 ⊢;exact ⟨h7.1,by omega,h7.2.2⟩
 rw [aD h34] at h7 ⊢;exact h7
theorem QK {i:Sl.Instr} {regs R:Int} (h:tB i regs=true) {t a b:Int} (ht:0≤t∧t<R) (ha:0≤a∧a<R) (hb:0≤b∧b<R) :
 tB ⟨i.op,t,a,if 1<(tC i).length then b else i.b,i.c⟩ R=true:=by
 rw [tM] at h ⊢;obtain ⟨⟨h1,h2,h3,h4,h5,h6⟩,h7⟩:=h;refine ⟨⟨h1,h2,ht.1,ht.2,ha.1,ha.2⟩,?_⟩;by_cases h34:i.op=3∨i.op=4
 · rw [aF h34] at h7;rw [aF ((zQ i).2 h34)];exact (aF h34).symm▸⟨hb.1,hb.2,h7.2.2⟩
 rw [aD h34] at h7;rw [aD (fun e=>h34 ((zQ i).1 e))];exact (aD h34).symm▸h7
theorem Xo {p:PV} (hR:sP p=true):∀ k,k≤p.code.length→(∀ i∈(sZ p k).code,tB i (sZ p k).regs=true)∧(sZ p k).code.length≤k
 | 0,_=>⟨fun i hi=>absurd hi (sH),aH _⟩
 | k+1,hk=>by
   obtain ⟨h1,h2⟩:=Xo hR k sN;obtain ⟨o1,o2⟩:=Ah hR k sN;obtain ⟨p1,p2⟩:=Ah hR (k+1) hk;have hg:=Dw hR (k+1) (show k≤k+1 by omega) hk;have hle:=Aa (Ac p k (sZ p k).s).free;have h2l:=Rp p k (sZ p k).s;by_cases hn:yA p k=true
   · have hm:=vZ hR (show k<p.code.length by omega);have hA:=o1.ok.ab (wX p k);have hB:=o1.ok.ab (xV p k);have hreg:(sZ p (k+1)).regs=max (sZ p k).regs ((least (Ac p k (sZ p k).s).free:Int)+1):=by rw [In hR sN hn]
     have hcode:(sZ p (k+1)).code=(sZ p k).code++[⟨(vX p k).op,least (Ac p k (sZ p k).s).free,stand (sZ p k).s (wX p k),if 1<(tC (vX p k)).length then stand (sZ p k).s (xV p k) else (vX p k).b,(vX p k).c⟩]:=by rw [In hR sN hn]
     rw [hcode];refine ⟨fun i hi=>?_,by rw [aB];show _+1≤_;omega⟩;rcases iA.1 hi with h | h
     · exact QJ (h1 i h) sN
     rw [eT.1 h];exact QK hm sN sN sN
   rw [Hm hn];exact ⟨h1,by omega⟩
theorem Ad {p:PV} (hR:sP p=true):sP (sU p)=true:=by
 obtain ⟨f1,f2,f3,f4,f5,f6,f7,f8⟩:=sT hR;obtain ⟨o1,o2⟩:=Ah hR p.code.length (aH _);obtain ⟨c1,c2⟩:=Xo hR p.code.length (aH _);have hg:=Dw hR p.code.length (aM _) (aH _);have h0:=(Gg f1 (lifeP p)).2.1;have h0':p.ins≤(sZ p 0).s.free.length:=h0;have h5:=o1.i5;have hol:=Dt p;have hlen:(sU p).outs.length=p.outs.length:=by show ((lifeP p).outs.map _).length=_;rw [aN];exact hol
 refine BH ⟨f1,?_,?_,?_,by omega,by omega⟩ ?_ c1
 · show p.ins≤(sZ p p.code.length).regs;omega
 · show (sZ p p.code.length).regs≤128;omega
 · show (sZ p p.code.length).code.length≤_;omega
 intro r hr;obtain ⟨v,_,rfl⟩:=dL.1 (show r∈(lifeP p).outs.map _ from hr);have:=o1.ok.ab v;show _∧_<(sZ p p.code.length).regs;omega
def rowAt (rs:List (List Int)) (r:Int):List Int:=rs[r.toNat]?.getD []
structure Sem (p:PV) (gs:List (List Int)) (k:Nat) (rs qs:List (List Int)) (E:Int→List Int):Prop where
 run:wQ p gs k=some rs
 pack:yS (sZ p k).code (vE (sU p) gs)=some qs
 rl:(rs.length:Int)=p.regs
 ql:(qs.length:Int)=(sU p).regs
 old:∀ r:Int,0≤r∧r<p.regs→zK p r k=true→rowAt rs r=E (tJ p k r)
 new:∀ v,wC p k v→rowAt qs (stand (sZ p k).s v)=E v
theorem Xp {l:List (List Int)} {k:Nat} {x:List Int} {r:Int} (hr:0≤r∧r<l.length):rowAt (l.set k x) r=if (k:Int)=r then x else rowAt l r:=Jq hr
theorem QL {p:PV} {gs:List (List Int)} (hR:sP p=true) (hg:(gs.length:Int)=p.ins) :
 Sem p gs 0 (vE p gs) (vE (sU p) gs) (fun v=>if v<gs.length then rowAt gs v else List.replicate (gs[0]?.getD []).length 0):=by
 obtain ⟨f1,f2,f3,_⟩:=sT hR;obtain ⟨g1,g2,g3⟩:=Mj f1;have hq:=(Ah hR p.code.length (aH _)).2;have hgr:=Dw hR p.code.length (aM _) (aH _);have hqr:(sU p).regs=(sZ p p.code.length).regs:=rfl;have hz:=Aw p;have row:∀ (q:PV) (r:Int),0≤r∧r<q.regs→rowAt (vE q gs) r=if r<gs.length then rowAt gs r else List.replicate (gs[0]?.getD []).length 0:=fun q r hr=>by
  unfold rowAt;rw [Ew sN];by_cases h:r<gs.length
  · rw [aF h,aF (by omega)]
  rw [aD h,aD (by omega)]
 refine ⟨U,U,by rw [vN];omega,by rw [vN];omega,fun r hr _=>?_,fun v hv=>?_⟩
 · rw [row p r hr,Mi hr];by_cases h:r<gs.length
   · rw [aF h];show _=if min r p.ins<_ then _ else _;rw [show min r p.ins=r by omega,aF h]
   rw [aD h];show _=if min r p.ins<_ then _ else _;rw [aD (by omega)]
 have h1:=hv.1;have h2:=hv.2;have hvf:v<(xU p (lifeP p)).free.length:=by
  by_cases e:v=p.ins
  · subst e;have:=g2 h2;omega
  rcases g1 with g1 | g1 <;> omega
 have h3:=(g3 v ⟨h1.1,hvf⟩).1;have h3':stand (sZ p 0).s v=v:=h3;have hf0:(sZ p 0).s.free.length=(xU p (lifeP p)).free.length:=rfl;rw [h3',row (sU p) v ⟨h1.1,by rw [hqr,hq];omega⟩]
theorem QM {i:Sl.Instr} {regs:Int} (hm:tB i regs=true) {rs qs:List (List Int)} {t a b:Int} (ha:rowAt qs a=rowAt rs i.a) (hb:1<(tC i).length→rowAt qs b=rowAt rs i.b) :
 xQ ⟨i.op,t,a,if 1<(tC i).length then b else i.b,i.c⟩ qs=xQ i rs:=by
 rw [Jp,Jp];show TG i.op i.c (rowAt qs a) (rowAt qs (if 1<(tC i).length then b else i.b))=TG i.op i.c (rowAt rs i.a) (rowAt rs i.b);rw [ha];by_cases h2:1<(tC i).length
 · rw [aF h2,hb h2]
 rw [aD h2];exact Wg (fun e=>h2 ((zQ i).2 e)) _ _ _ _
theorem QN {p:PV} {gs:List (List Int)} (hR:sP p=true) {k:Nat} (hk:k<p.code.length) {rs qs:List (List Int)} {E:Int→List Int} (h:Sem p gs k rs qs E) {y:List Int} (hd:xQ (vX p k) rs=some y) :
 ∃ qs' E',Sem p gs (k+1) (rs.set (vX p k).to.toNat y) qs' E':=by
 have hm:=vZ hR hk;obtain ⟨m1,m2,m3,m4,_⟩:=tK hm;have hcj:p.code[k]?.getD default=vX p k:=by unfold vX;rw [aE]
 have hstep:=fun r=>Fj p r hk;have hneed:=Gl hR hk;rw [hcj] at hstep;have hrun:wQ p gs (k+1)=some (rs.set (vX p k).to.toNat y):=Dk (x:=[]) h.run hd;have hrl:((rs.set (vX p k).to.toNat y).length:Int)=p.regs:=by rw [aG];exact h.rl
 by_cases hn:yA p k=true
 · obtain ⟨hA,hB⟩:=Mh hR hk hn;obtain ⟨o1,o2⟩:=Ah hR k sN;obtain ⟨p1,p2⟩:=Ah hR (k+1) sN;have hq:=(Ah hR p.code.length (aH _)).2;have hg0:=Dw hR p.code.length (show k≤p.code.length by omega) (aH _);have hg1:=Dw hR p.code.length (show k+1≤p.code.length by omega) (aH _);have hqr:(sU p).regs=(sZ p p.code.length).s.free.length:=hq;have hle:=Aa (Ac p k (sZ p k).s).free;have h2l:=Rp p k (sZ p k).s;have hglen:=Ab (Ac p k (sZ p k).s) (uA p k);have hs':(sZ p (k+1)).s=wA (Ac p k (sZ p k).s) (uA p k):=by rw [In hR hk hn]
   have hc':(sZ p (k+1)).code=(sZ p k).code++[⟨(vX p k).op,least (Ac p k (sZ p k).s).free,stand (sZ p k).s (wX p k),if 1<(tC (vX p k)).length then stand (sZ p k).s (xV p k) else (vX p k).b,(vX p k).c⟩]:=by rw [In hR hk hn]
   have hst:∀ w,stand (sZ p (k+1)).s w=if w=uA p k then (least (Ac p k (sZ p k).s).free:Int) else stand (sZ p k).s w:=fun w=>by rw [hs',Dv,Rq]
   have hlR:(least (Ac p k (sZ p k).s).free:Int)<(sU p).regs:=by
    rw [hqr];have:(least (Ac p k (sZ p k).s).free)<(sZ p (k+1)).s.free.length:=by rw [hs',hglen];split <;> omega
    omega
   have hold:∀ v,wC p k v→v≠uA p k:=fun v hv e=>by have:=hv.1.2;omega
   have asked:∀ r,r∈tC (vX p k)→zK p r k=true:=fun r hr=>by
    rw [hstep r,←hneed,hn,bL hr];rfl
   have haM:(vX p k).a∈tC (vX p k):=by
    unfold tC;split
    · exact bD
    exact bD
   have eA:rowAt qs (stand (sZ p k).s (wX p k))=rowAt rs (vX p k).a:=by
    rw [h.new _ hA,h.old _ m3 (asked _ haM)];rfl
   have eB:1<(tC (vX p k)).length→rowAt qs (stand (sZ p k).s (xV p k))=rowAt rs (vX p k).b:=fun h2=>by
    have hbM:(vX p k).b∈tC (vX p k):=by
     unfold tC;rw [aF (Me h2)];exact aW _ bD
    rw [h.new _ hB,h.old _ (m4 (Me h2)) (asked _ hbM)];show E (xV p k)=E _;congr 1;exact aF h2
   refine ⟨qs.set (least (Ac p k (sZ p k).s).free) y,fun v=>if v=uA p k then y else E v,hrun,?_,hrl,by rw [aG];exact h.ql,fun r hr hf=>?_,fun v hv=>?_⟩
   · rw [hc',Cu,h.pack];show (xQ _ qs).map _=_;rw [QM hm eA eB,hd];rfl
   · have hrow:rowAt (rs.set (vX p k).to.toNat y) r=if (((vX p k).to.toNat:Nat):Int)=r then y else rowAt rs r:=Xp (by rw [h.rl];exact hr);rw [hrow,cO m2.1,Dd hR hk hn hr];by_cases e:(vX p k).to=r
     · rw [aF e,aF e,aF rfl]
     rw [aD e,aD e];have hin:=Gh hR (show k≤p.code.length by omega) hr;rw [aD (by omega)];refine h.old r hr ?_;rw [hstep r,hf,cA e];simp
   have hsb:=p1.ok.ab v;rw [Xp ⟨hsb.1,by rw [h.ql,hqr];omega⟩,hst];rcases (uX hR hk hn).1 hv with e | ⟨ha,hdv⟩
   · rw [aF e,aF rfl,aF e]
   have e:=hold v ha;rw [aD e,aD e];have hne:¬((least (Ac p k (sZ p k).s).free:Int)=stand (sZ p k).s v):=fun x=>by
    have h9:=p1.i2 v (uA p k) hv ((uX hR hk hn).2 (.inl U)) (by rw [hst,hst,aD e,aF rfl];exact x.symm);exact e h9
   rw [aD hne];exact h.new v ha
 refine ⟨qs,E,hrun,by rw [Hm hn];exact h.pack,hrl,h.ql,fun r hr hf=>?_,fun v hv=>?_⟩
 · have hne:¬(vX p k).to=r:=fun e=>by subst e;rw [←hneed] at hf;exact hn hf
   have hrow:rowAt (rs.set (vX p k).to.toNat y) r=if (((vX p k).to.toNat:Nat):Int)=r then y else rowAt rs r:=Xp (by rw [h.rl];exact hr);rw [hrow,cO m2.1,aD hne,Xi hn];refine h.old r hr ?_;rw [hstep r,hf,cA hne];simp
 rw [Hm hn];exact h.new v ((Bq hR hk hn).1 hv)
theorem HK {p:PV} {gs:List (List Int)} (hR:sP p=true) (hg:(gs.length:Int)=p.ins) {rn:List (List Int)} (hr:wQ p gs p.code.length=some rn):∀ k,k≤p.code.length→∃ rs qs E,Sem p gs k rs qs E
 | 0,_=>⟨_,_,_,QL hR hg⟩
 | k+1,hk=>by
   obtain ⟨rs,qs,E,h⟩:=HK hR hg hr k sN;cases hd:xQ (vX p k) rs with
   | none =>
     have h1:wQ p gs (k+1)=none:=by
      unfold wQ;rw [h.run];simp only [eR];show (xQ (vX p k) rs).map _=none;rw [hd];rfl
     have h2:=Hu h1 (p.code.length - (k+1));rw [show k+1+(p.code.length - (k+1))=p.code.length by omega,hr] at h2;cases h2
   | some y =>
     obtain ⟨qs',E',h'⟩:=QN hR sN h hd;exact ⟨_,_,_,h'⟩
theorem yF (p:PV):∀ j,j≤p.outs.length→(vF p j).outs=(p.outs.take j).map (tJ p p.code.length)
 | 0,_=>by rw [bR];exact zZ p _
 | j+1,hj=>by
   show (vF p j).outs++[(vF p j).held[_]?.getD default]=_;rw [yF p j sN,Ci,nI (by omega:j<p.outs.length),jW,aE,aA (by omega:j<p.outs.length)];rfl
theorem Xq {p:PV} {gs os:List (List Int)} (hR:sP p=true) (hg:(gs.length:Int)=p.ins) (h:tE p gs=some os):tE (sU p) gs=some os:=by
 obtain ⟨f1,f2,f3,f4,f5,f6,f7,f8⟩:=sT hR;unfold tE at h;obtain ⟨rn,h1,h2⟩:=jG.1 h;obtain ⟨rs,qs,E,hs⟩:=HK hR hg h1 p.code.length (aH _);have e:rs=rn:=by have:=hs.run;rw [h1] at this;exact (iW this).symm
 subst e;have hp:wQ (sU p) gs (sU p).code.length=some qs:=by
  rw [zH _ _ _ (aH _),aZ];exact hs.pack
 unfold tE;rw [hp,←h2];show some (xD (sU p) qs)=some (xD p rs);congr 1;have ho:(lifeP p).outs=p.outs.map (tJ p p.code.length):=by
  unfold lifeP;rw [yF p _ (aH _),aZ]
 show ((lifeP p).outs.map (stand (sZ p p.code.length).s)).map _=p.outs.map _;rw [ho,oU,oU];refine jF fun r hr=>?_;have hin:=f7 r hr;obtain ⟨i,hi,hri⟩:=fY.1 hr;have hdue:=Ok hR hi;rw [aE,aA hi,dZ,hri] at hdue;have hal:wC p p.code.length (tJ p p.code.length r):=⟨Gh hR (aH _) hin,by omega⟩
 have hf:zK p r p.code.length=true:=by rw [Il p r (aH _)];exact bL hr
 show rowAt qs (stand (sZ p p.code.length).s (tJ p p.code.length r))=rowAt rs r;rw [hs.new _ hal,hs.old r hin hf]
theorem Mk {N:Nat}:∀ (l:List Sl.Instr) (rs:List (List Int)),Flat N rs→(∀ i∈l,EF rs.length i)→
 (∀ r',yS l rs=some r'→Flat N r'∧r'.length=rs.length∧∀ j,j<N→wF l (Cn j rs)=some (Cn j r'))∧(yS l rs=none→∃ j,j<N∧wF l (Cn j rs)=none)
 | [],rs,he,_=>⟨fun r' h=>by cases h;exact ⟨he,U,fun j _=>rfl⟩,fun h=>by cases h⟩
 | i :: l,rs,he,hi=>by
   obtain ⟨h1,h2⟩:=GQ he (hi i tU).1 (hi i tU).2;unfold yS wF;cases hd:xQ i rs with
   | none =>
     refine ⟨fun r' h=>(by cases h),fun _=>?_⟩;obtain ⟨j,hj,hz⟩:=h2 hd;exact ⟨j,hj,by rw [hz];rfl⟩
   | some x =>
     obtain ⟨hx,hc⟩:=h1 x hd;obtain ⟨g1,g2⟩:=Mk l (rs.set i.to.toNat x) (flat_set he hx) (fun q hq=>by rw [aG];exact hi q (by simp [hq]));refine ⟨fun r' h=>?_,fun h=>?_⟩
     · obtain ⟨k1,k2,k3⟩:=g1 r' h;refine ⟨k1,by rw [k2,aG],fun j hj=>?_⟩;rw [hc j hj];show wF l ((Cn j rs).set i.to.toNat (x[j]?.getD 0))=_;rw [←Oe];exact k3 j hj
     obtain ⟨j,hj,hz⟩:=g2 h;refine ⟨j,hj,?_⟩;rw [hc j hj];show wF l ((Cn j rs).set i.to.toNat (x[j]?.getD 0))=_;rw [←Oe];exact hz
theorem Hn {p q:PV} {gs os:List (List Int)} {N:Nat} (hR:sP p=true) (hQ:sP q=true) (hi:q.ins=p.ins) (ho:q.outs.length=p.outs.length) (hg:(gs.length:Int)=p.ins) (hN:Flat N gs)
 (hans:∀ zs ys:List Int,(zs.length:Int)=p.ins→Dz p zs=some ys→Dz q zs=some ys) (h:tE p gs=some os):tE q gs=some os:=by
 obtain ⟨f1,f2,f3,f4,f5,f6,f7,f8⟩:=sT hR;obtain ⟨k1,k2,k3,k4,k5,k6,k7,k8⟩:=sT hQ;have hfp:=Lv (p:=p) hN sN;have hfq:=Lv (p:=q) hN sN;unfold tE at h ⊢;rw [zH p gs _ (aH _),aZ] at h;rw [zH q gs _ (aH _),aZ];obtain ⟨r',hr',rfl⟩:=jG.1 h;obtain ⟨p1,p2,p3⟩:=(Mk p.code (vE p gs) hfp (fun i hi=>EG (f8 i hi) (by rw [vN];omega))).1 r' hr';have hcol:∀ j,j<N→Dz q (Cn j gs)=some (yT p (Cn j r')):=fun j hj=>by
  refine hans _ _ (by rw [yW];exact hg) ?_;unfold Dz;rw [wI p _ _ (aH _),aZ,←Kc sN,p3 j hj];rfl
 have hq:=Mk q.code (vE q gs) hfq (fun i hi=>EG (k8 i hi) (by rw [vN];omega));cases hrq:yS q.code (vE q gs) with
 | none =>
   obtain ⟨j,hj,hz⟩:=hq.2 hrq;have h9:=hcol j hj;unfold Dz at h9;rw [wI q _ _ (aH _),aZ,←Kc sN,hz] at h9;cases h9
 | some s' =>
   obtain ⟨q1,q2,q3⟩:=hq.1 s' hrq;show some (xD q s')=some (xD p r');congr 1;unfold xD;apply fL
   · rw [aN,aN,ho]
   intro k g1 g2;rw [aN] at g1 g2;rw [fA,fA];have hrp:=f7 p.outs[k] (bT g2);have hrq2:=k7 q.outs[k] (bT g1);have lp:=Cd p1 (k:=p.outs[k].toNat) (by rw [p2,vN];omega);have lq:=Cd q1 (k:=q.outs[k].toNat) (by rw [q2,vN];omega);apply fL
   · omega
   intro j j1 j2;have h9:=hcol j sN;unfold Dz at h9;rw [wI q _ _ (aH _),aZ,←Kc sN,q3 j sN] at h9;have h10:yT q (Cn j s')=yT p (Cn j r'):=by
    have:=jG.1 h9;obtain ⟨z,e1,e2⟩:=this;cases e1;exact e2
   unfold yT at h10;have h11:=congrArg (fun l:List Int=>l[k]?) h10;simp only [bM,aA g1,aA g2,fU,bY,Fg] at h11;rw [aA j1,aA j2] at h11;exact h11
theorem BW {p:PV} {gs os:List (List Int)} {N:Nat} (hR:sP p=true) (hg:(gs.length:Int)=p.ins) (hN:Flat N gs) (h:tE p gs=some os):tE (zY p) gs=some os:=
 Hn hR (Rh hR) U U hg hN (fun zs ys hz h9=>by rw [QB hR hz];exact h9) h
def WV (A:List Bool) (r s:List Int):Prop:=r.length=s.length∧∀ k:Nat,A[k]?.getD default=true→r[k]?.getD 0=s[k]?.getD 0
theorem KM {i:Sl.Instr} {r s:List Int} (ha:r[i.a.toNat]?.getD 0=s[i.a.toNat]?.getD 0) (hb:i.op=3∨i.op=4→r[i.b.toNat]?.getD 0=s[i.b.toNat]?.getD 0):Af i r=Af i s:=by
 unfold Af;simp only [ha];by_cases h34:i.op=3∨i.op=4
 · rw [hb h34]
 have h3:¬i.op=3:=fun e=>h34 (.inl e);have h4:¬i.op=4:=fun e=>h34 (.inr e);simp only [h3,h4,lD]
theorem EP (p:PV) (i:Sl.Instr) (l:List Sl.Instr):Kf p (i :: l)=if (nf p l).1[i.to.toNat]?.getD default=true∧¬wH i then i :: Kf p l else Kf p l:=by
 by_cases hc:(nf p l).1[i.to.toNat]?.getD default=true
 · have e:(nf p (i :: l)).2=true :: (nf p l).2:=by simp only [nf];rw [aF hc]
   unfold Kf;rw [e,mV];by_cases hd:wH i
   · rw [aD (fun h=>h.2 hd),List.filterMap_cons_none (Ij (fun h=>h.2 hd))]
   rw [aF ⟨hc,hd⟩,List.filterMap_cons_some (Qv ⟨rfl,hd⟩)]
 have e:(nf p (i :: l)).2=false :: (nf p l).2:=by simp only [nf];rw [aD hc]
 unfold Kf;rw [e,mV,aD (fun h=>hc h.1),List.filterMap_cons_none (Ij (fun h=>by cases h.1))]
theorem Ko {p:PV} (hm:∀ i∈p.code,tB i p.regs=true):∀ (l:List Sl.Instr),(∀ i∈l,i∈p.code)→∀ (r s r':List Int),(r.length:Int)=p.regs→WV (nf p l).1 r s→wF l r=some r'→∃ s',wF (Kf p l) s=some s'∧WV (nf p []).1 r' s'
 | [],_,r,s,r',_,h,h1=>by cases h1;exact ⟨s,U,h⟩
 | i :: l,hl,r,s,r',hlen,h,h1=>by
   have hmi:=hm i (hl i tU);obtain ⟨m1,m2,m3,m4,m5,m6,m7,m8⟩:=tK hmi;have hA:((nf p l).1.length:Int)=p.regs:=by rw [(PS p l).1];omega
   unfold wF at h1;obtain ⟨x,hx,h1⟩:=pV.1 h1;obtain ⟨hl1,hag⟩:=h;have hl':∀ j∈l,j∈p.code:=fun j hj=>hl j (by simp [hj]);have hlen':((r.set i.to.toNat x).length:Int)=p.regs:=by rw [aG];exact hlen
   rw [EP];by_cases hasked:(nf p l).1[i.to.toNat]?.getD default=true
   · have e:(nf p (i :: l)).1=vI ((nf p l).1.set i.to.toNat false) (tC i):=by simp only [nf];rw [aF hasked]
     rw [e] at hag;have hstep:∀ k:Nat,(nf p l).1[k]?.getD default=true→k≠i.to.toNat→r[k]?.getD 0=s[k]?.getD 0:=fun k hk hne=>by
      have hkA:k<(nf p l).1.length:=by
       rcases aK k (nf p l).1.length with h | h
       · exact h
       rw [bZ h] at hk;cases hk
      refine hag k ?_;have hg:=Qx hA hmi (r:=(k:Int)) sN;rw [aE] at hg;rw [hg,hk,cA (show ¬i.to=(k:Int) by omega)];simp
     have hin:∀ q∈tC i,r[q.toNat]?.getD 0=s[q.toNat]?.getD 0:=fun q hq=>by
      have hqr:=Oi hmi q hq;refine hag q.toNat ?_;rw [Qx hA hmi hqr,bL hq,Bool.true_or]
     have haa:i.a∈tC i:=by
      unfold tC;split
      · exact bD
      first | exact bD | (rw [aF m1];exact bD)
     have hd:=KM (hin _ haa) (fun h34=>hin _ WE);by_cases hno:wH i
     · rw [aD (fun h=>h.2 hno)];refine Ko hm l hl' (r.set i.to.toNat x) s r' hlen' ⟨by rw [aG];exact hl1,fun k hk=>?_⟩ h1;rw [Ki];split
       · rename_i hkk;obtain ⟨rfl,hk2⟩:=hkk;have hxa:x=r[i.to.toNat]?.getD 0:=by
          obtain ⟨n1,n2⟩:=hno;unfold Af at hx;simp [n1] at hx;rw [←hx,n2]
         rw [hxa];have:=hin i.a haa;rw [←hno.2] at this;exact this
       rename_i hkk;refine hstep k hk (fun hk3=>hkk ⟨hk3.symm,?_⟩);omega
     rw [aF ⟨hasked,hno⟩];show ∃ s',((Af i s).bind fun x=>wF (Kf p l) (s.set i.to.toNat x))=some s'∧_;rw [←hd,hx];refine Ko hm l hl' (r.set i.to.toNat x) (s.set i.to.toNat x) r' hlen' ⟨by rw [aG,aG];exact hl1,fun k hk=>?_⟩ h1;rw [Ki,Ki];by_cases hkk:i.to.toNat=k
     · rw [aF ⟨hkk,by omega⟩,aF ⟨hkk,by omega⟩]
     rw [aD (fun h=>hkk h.1),aD (fun h=>hkk h.1)];exact hstep k hk (fun h=>hkk h.symm)
   rw [aD (fun h=>hasked h.1)];have e:(nf p (i :: l)).1=(nf p l).1:=by simp only [nf];rw [aD hasked]
   rw [e] at hag;refine Ko hm l hl' (r.set i.to.toNat x) s r' hlen' ⟨by rw [aG];exact hl1,fun k hk=>?_⟩ h1;rw [Ki,aD ?_]
   · exact hag k hk
   rintro ⟨rfl,_⟩;exact hasked hk
theorem QO {p:PV} {zs os:List Int} (hR:sP p=true) (hz:(zs.length:Int)=p.ins) (h:Dz p zs=some os):Dz (Aj p) zs=some os:=by
 obtain ⟨f1,f2,f3,f4,f5,f6,f7,f8⟩:=sT hR;have hl:(vR p zs).length=p.regs.toNat:=by unfold vR;rw [aB,aJ];omega
 unfold Dz at h ⊢;rw [wI p _ _ (aH _),aZ] at h;rw [wI (Aj p) _ _ (aH _),aZ];obtain ⟨r',hr',rfl⟩:=jG.1 h;obtain ⟨s',hs',hag⟩:=Ko f8 p.code (fun i hi=>hi) (vR p zs) (vR p zs) r' sN ⟨U,fun k _=>rfl⟩ hr';rw [KC];show (wF (Kf p p.code) (vR p zs)).map (yT (Aj p))=_;rw [hs'];show some (yT p s')=some (yT p r');congr 1;unfold yT;apply jF;intro q hq;refine (hag.2 q.toNat ?_).symm;show (vI (List.replicate p.regs.toNat false) p.outs)[q.toNat]?.getD default=true;rw [Uv sN f7 (f7 q hq),bL hq]
theorem BX {p:PV} {gs os:List (List Int)} {N:Nat} (hR:sP p=true) (hg:(gs.length:Int)=p.ins) (hN:Flat N gs) (h:tE p gs=some os):tE (Aj p) gs=some os:=
 Hn hR (Qu hR) U U hg hN (fun zs ys hz h9=>QO hR hz h9) h
def vD (m:Nat) (p:PV):PV:=if m % 3=0 then zY p else if m % 3=1 then xW p else Aj p
def vL (p:PV):Nat→PV
 | 0=>p
 | k+1=>vD k (vL p k)
def Rs (m:Nat):ByteArray:=if m % 3=0 then ⟨#[102,111,108,100]⟩ else if m % 3=1 then ⟨#[115,104,97,114,101]⟩ else ⟨#[100,101,97,100]⟩
def Nj:ByteArray:=⟨#[112,97,99,107]⟩
def xJ (p:PV):Nat:=((List.range 15).find? fun n=>decide (vL p (3*n+3)=vL p (3*n))).getD 15
def zA (p:PV):Nat:=3*xJ p+3
structure NP where
 name:ByteArray
 p:PV
def sX (p:PV):List NP:=(List.range (zA p)).map (fun k=>⟨Rs k,vL p (k+1)⟩)++[⟨Nj,sU (vL p (zA p))⟩]
theorem Xr (p:PV):xJ p≤15:=by
 unfold xJ;cases h:(List.range 15).find? fun n=>decide (vL p (3*n+3)=vL p (3*n)) with
 | none=>exact aH _
 | some n =>
   have:=List.mem_of_find?_eq_some h;rw [iG] at this;show n≤15;omega
theorem QP (p:PV):xJ p=15∨vL p (3*xJ p+3)=vL p (3*xJ p):=by
 unfold xJ;cases h:(List.range 15).find? fun n=>decide (vL p (3*n+3)=vL p (3*n)) with
 | none=>exact .inl U
 | some n =>
   have:=List.find?_some h;exact .inr (fM this)
theorem QQ (p:PV) {n:Nat} (hn:n<xJ p):¬vL p (3*n+3)=vL p (3*n):=by
 have h15:=Xr p;intro he;unfold xJ at hn;cases h:(List.range 15).find? fun n=>decide (vL p (3*n+3)=vL p (3*n)) with
 | none =>
   rw [h] at hn;have hn15:n<15:=hn;rw [List.find?_eq_none] at h;exact h n (by rw [iG];exact hn15) (by simpa using he)
 | some m =>
   rw [h] at hn;have hn':n<m:=hn;rw [List.find?_range_eq_some] at h;have:=h.2.2 n hn';simp [he] at this
theorem yG (p:PV):(sX p).length=zA p+1:=by unfold sX;rw [aB,aN,cC];rfl
theorem Ml (p:PV) {k:Nat} (hk:k<zA p):(sX p)[k]?=some ⟨Rs k,vL p (k+1)⟩:=by
 unfold sX;rw [bF (by rw [aN,cC];exact hk),bM,eV hk];rfl
theorem xK (p:PV):(sX p)[zA p]?=some ⟨Nj,sU (vL p (zA p))⟩:=by
 unfold sX;rw [cB (by rw [aN,cC];exact aH _),aN,cC,iH];rfl
theorem Rt {p:PV} (h:sP p=true) (m:Nat):sP (vD m p)=true:=by
 unfold vD;split
 · exact Rh h
 split
 · exact BF h
 exact Qu h
theorem wD {p:PV} (h:sP p=true):∀ k,sP (vL p k)=true
 | 0=>h
 | k+1=>Rt (wD h k) k
theorem KN {p:PV} (h:sP p=true) (m:Nat):(vD m p).ins=p.ins∧(vD m p).outs.length=p.outs.length∧(vD m p).code.length≤p.code.length:=by
 unfold vD;split
 · exact ⟨U,U,BM p⟩
 split
 · exact ⟨U,by show (vV _ _).length=_;unfold vV;rw [aN],(Xc h _ (aH _)).2.1⟩
 exact ⟨U,U,Ih p _⟩
theorem Kp {p:PV} (h:sP p=true):∀ k,(vL p k).ins=p.ins∧(vL p k).outs.length=p.outs.length∧(vL p k).code.length≤p.code.length
 | 0=>⟨U,U,aH _⟩
 | k+1=>by
   obtain ⟨e1,e2,e3⟩:=Kp h k;obtain ⟨g1,g2,g3⟩:=KN (wD h k) k;show (vD k (vL p k)).ins=_∧_∧_;exact ⟨by rw [g1,e1],by show (vD k (vL p k)).outs.length=_;rw [g2,e2],by show (vD k (vL p k)).code.length≤_;omega⟩
theorem Io {p:PV} {gs os:List (List Int)} {N:Nat} (hR:sP p=true) (hg:(gs.length:Int)=p.ins) (hN:Flat N gs) (h:tE p gs=some os):∀ k,tE (vL p k) gs=some os
 | 0=>h
 | k+1=>by
   have ih:=Io hR hg hN h k;have hk:=wD hR k;have hi:=(Kp hR k).1;show tE (vD k (vL p k)) gs=_;unfold vD;split
   · exact BW hk (by rw [hi];exact hg) hN ih
   split
   · rw [Zs hk (by rw [hi];exact hg)];exact ih
   exact BX hk (by rw [hi];exact hg) hN ih
theorem BY {p:PV} (hR:sP p=true):(sU p).ins=p.ins∧(sU p).outs.length=p.outs.length∧(sU p).code.length≤p.code.length:=by
 refine ⟨U,?_,(Xo hR _ (aH _)).2⟩;show ((lifeP p).outs.map _).length=_;rw [aN];have:=yF p p.outs.length (aH _);show (vF p p.outs.length).outs.length=_;rw [this,aZ,aN]
theorem Ip {p:PV} (hR:sP p=true) {k:Nat} {x:NP} (h:(sX p)[k]?=some x):sP x.p=true∧x.p.ins=p.ins∧x.p.outs.length=p.outs.length∧x.p.code.length≤p.code.length∧
 ∀ (gs os:List (List Int)) (N:Nat),(gs.length:Int)=p.ins→Flat N gs→tE p gs=some os→tE x.p gs=some os:=by
 have hlt:k<(sX p).length:=(bJ.1 h).1;rw [yG] at hlt;rcases aK k (zA p) with hk | hk
 · rw [Ml p hk] at h;cases h;obtain ⟨e1,e2,e3⟩:=Kp hR (k+1);exact ⟨wD hR _,e1,e2,e3,fun gs os N hg hN h=>Io hR hg hN h _⟩
 have:k=zA p:=sN;subst this;rw [xK] at h;cases h;obtain ⟨e1,e2,e3⟩:=Kp hR (zA p);obtain ⟨g1,g2,g3⟩:=BY (wD hR (zA p));refine ⟨Ad (wD hR _),by rw [g1,e1],by rw [g2,e2],by show (sU _).code.length≤_;omega,fun gs os N hg hN h=>Xq (wD hR _) (by rw [e1];exact hg) (Io hR hg hN h _)⟩
def fl (s:Pl) (bm bp:Nat) (a:Option Addr) (c:Nat) (junk:List Value):Hp:=
 [(0,some bp,.cells #[.map (some bm),.slice a s.free.length c] 140),(1,some bm,B0 s.at_),(2,a.map (·.block),Row 4 s.free junk)]
theorem md (G:A3) (p:PV) (ac ao:Option Addr) (cc co:Nat) (r:Int) :
 Does Tryz.prog 142 [.agg (H8 p ac cc ao co),.int .i64 r] G [] (fun v G' Ho=>v=.int .i64 (min r p.ins)∧G'=G∧Ho=[]):=by
 refine D0 Tryz.func142 Tryz.ntmps142 fun w=>?_;refine aI 2 [] ?_;refine dV 0 fun b1=>?_;refine aL 8 [0] ?_;refine aQ (Qy.min U U) ?_;refine aS 4 [] ?_;refine cV ?_;refine ⟨?_,U,U⟩;congr 1;split <;> omega
theorem QR {l:List Bool} {k:Nat} (hk:k<l.length) (h:∀ j:Nat,j<k→l[j]?.getD default=false) (hb:l[k]?.getD default=true):least l=k:=by
 unfold least;rw [List.findIdx_eq hk];rw [aA hk] at hb;refine ⟨hb,fun j hj=>?_⟩;have:=h j hj;rw [aA sN] at this;exact this
theorem EQ {l:List Bool} (h:∀ j:Nat,j<l.length→l[j]?.getD default=false):least l=l.length:=by
 unfold least;rw [List.findIdx_eq_length];intro x hx;obtain ⟨j,hj,rfl⟩:=fY.1 hx;have:=h j hj;rw [aA hj] at this;exact this
theorem c82 (G:A3) (s:Pl) (bm bp:Nat) (a:Option Addr) (c:Nat) (junk:List Value) (v u:Int) (ho:A4 a c s.free junk) (hl:s.free.length≤1048576) :
 Does Tryz.prog 82 [.pointer (some ⟨bp,0,none⟩),.int .i64 v,.int .i64 u] G (fl s bm bp a c junk) (fun r G' Ho=>∃ a' c' j',r=.tuple #[]∧A4 a' c' (Du s v u).free j'∧G'=G∧Ho=fl (Du s v u) bm bp a' c' j'):=by
 refine D0 Tryz.func82 Tryz.ntmps82 fun w=>?_;refine dJ ?_;refine dE [2,1,0] [(1,10)] T.mixed [[0],[1],[2],[3,0],[4],[5],[6],[7],[8,0],[9]] ?_;refine bQ 10 ?_;refine Wl.mapUpdate 1 T.mp137 U U U U ?_;refine fD ?_;refine lQ 9 [0] ?_;refine cZ (α:=Bool) 3 [(Decidable.decide (u<0))] U T.sl138 T.el4 U U U U U fun b1=>?_;refine kH (α:=Bool) 2 T.sl138 T.el4 (dT 3 U) fun a1 c1 junk1 ho1=>?_;refine aS 4 [0] ?_;refine mK [0,1,2] sY (kD (.inl U) U  (mD 0 _) ?_);exact ⟨a1,c1,junk1,U,ho1,U,U⟩
theorem QS (s:Pl) (v:Int) (h:least s.free<s.free.length):wA s v=⟨Cp s.at_ v (least s.free),s.free.set (least s.free) false⟩:=by unfold wA;rw [aF h]
theorem VI (s:Pl) (v:Int) (h:¬least s.free<s.free.length):wA s v=⟨Cp s.at_ v (least s.free),s.free++[false]⟩:=by unfold wA;rw [aD h]
theorem c84 (G:A3) (s:Pl) (bm bp:Nat) (a:Option Addr) (c:Nat) (junk:List Value) (v:Int) (ho:A4 a c s.free junk) (hl:s.free.length≤1048576) (hm:A8 s.at_ v=none) :
 Does Tryz.prog 84 [.pointer (some ⟨bp,0,none⟩),.int .i64 v] G (fl s bm bp a c junk) (fun r G' Ho=>∃ a' c' j',r=.int .i64 (least s.free)∧A4 a' c' (wA s v).free j'∧G'=G∧Ho=fl (wA s v) bm bp a' c' j'):=by
 refine D0 Tryz.func84 Tryz.ntmps84 fun w=>?_;refine bI 5 [] ?_;refine mP ?_;refine bI 15 [0] ?_;refine gX (ι:=Nat) (fun k=>([(12,.int .i64 (k:Int)),(4,.int .i64 0),(11,.int .i64 (↑(List.length (Pl.free s)):Int)),(10,.slice a (List.length (Pl.free s)) c),(0,.pointer (some (Addr.mk bp 0 none))),(1,.int .i64 v)],[(0,some bp,.cells #[Go.Value.map (some bm),.slice a (List.length (Pl.free s)) c] 140),(1,some bm,Go.Sl.B0 (κ:=Int) (Pl.at_ s)),(2,Option.map (fun x=>Go.Addr.block x) a,Row (α:=Bool) 4 (Pl.free s) (junk))])) (fun k=>k≤s.free.length∧∀ j:Nat,j<k→s.free[j]?.getD default=false) (fun k=>s.free.length - k) (0) (⟨aM _,fun j hj=>by omega⟩) fun k=>fun hk=>?_;obtain ⟨hk1,hk2⟩:=hk;rcases aK k s.free.length with hlt | hge
 · refine aI 14 [1] ?_;refine iE (α:=Bool) T.sl138 ?_;refine nA 2 0 T.one4 ?_;refine bB 11 [] ?_;refine lJ U (fun hc1=>?_) fun hc1=>?_;refine bE 8 [] ?_;rotate_left;refine bI 3 [] ?_;refine dE [2,1,0] [(0,15),(2,15),(1,13),(1,11)] T.mixed [[0],[1],[2],[3,0],[4],[5],[6],[7],[8,0],[9],[10]] ?_;refine bQ 11 ?_;refine Wl.mapEntry 1 U T.mp137 U U U sO ?_;refine bC ?_;refine dK [[12]] ?_;refine bQ 13 ?_;refine rJ 1 U U U U ?_;refine bC ?_;refine fJ (α:=Bool) 14 T.sl138 ?_;refine bQ 15 ?_;refine dC (z:=_) 2 T.size4 U U U sO sN U fun ho1=>?_;refine fD ?_;refine eE 13 [] ?_;refine jK ?_;refine mK [0,1,2] sY (cH (.inr U) U (.tmp U) (mD 0 _) ?_);rotate_left
   · refine cK (k+1) ?_ ?_
     · refine ⟨hlt,fun j hj=>?_⟩;by_cases hjk:j=k
       · subst hjk;rw [aE] at hc1;simpa using hc1
       exact hk2 j sN
     show s.free.length - (k+1)<s.free.length - k;omega
   rw [aE] at hc1;have hle:least s.free=k:=QR hlt hk2 (by simpa using hc1);have hg:=QS s v (by rw [hle];exact hlt);rw [hle] at hg;rw [aE] at ho1;refine ⟨a,c,junk,by rw [hle],by rw [hg];exact ho1,U,?_⟩;rw [hg,zC _ _ _ hm,aE];show _=[(0,some bp,.cells #[.map (some bm),.slice a (s.free.set k false).length c] 140),(1,some bm,B0 (s.at_++[(v,(k:Int))])),(2,a.map (·.block),Row 4 (s.free.set k false) junk)];rw [aG];rfl
 refine bI 13 [0] ?_;refine dE [2,1,0] [(1,10)] T.mixed [[0],[1],[2],[3,0],[4],[5],[6],[7],[8,0],[9]] ?_;refine bQ 10 ?_;refine Wl.mapUpdate 1 T.mp137 U U U U ?_;refine fD ?_;refine lQ 8 [0] ?_;refine cZ (α:=Bool) 3 [(Bool.false)] U T.sl138 T.el4 U U U U U fun b1=>?_;refine kH (α:=Bool) 2 T.sl138 T.el4 (dT 3 U) fun a1 c1 junk1 ho1=>?_;refine aL 12 [0,0] ?_;refine aQ (Ix U U) ?_;refine aS 4 [] ?_;refine jK ?_;refine mK [0,1,2] sY (cH (.inr U) U (.tmp U) (mD 0 _) ?_);have hke:k=s.free.length:=sN;have hle:least s.free=s.free.length:=EQ (fun j hj=>hk2 j sN);have hg:=VI s v (by rw [hle];omega);refine ⟨a1,c1,junk1,?_,by rw [hg];exact ho1,U,?_⟩
 · rw [hle,aB];show Value.int .i64 (IntKind.i64.wrap (((s.free.length+1:Nat):Int) - 1))=_;rw [show (((s.free.length+1:Nat):Int) - 1)=s.free.length by omega,jN _ sN]
 rw [hg,hle];rfl
theorem VJ {xs ys:List Int} (h:xs.length=ys.length) (he:∀ i:Nat,i<xs.length→xs[i]?.getD default=ys[i]?.getD default):xs=ys:=by
 refine fL h fun i h1 h2=>?_;have:=he i h1;rw [aA h1,aA h2] at this;exact this
theorem Xs {a:Option Addr} {c:Nat} {xs:List Int} {junk:List Value} (h:A4 a c xs junk) (n:Nat) (x:Int):A4 a c (xs.set n x) junk:=by
 rcases h with ⟨h1,h2,h3,h4⟩ | ⟨b,h1,h2,h3,h4⟩
 · exact .inl ⟨h1,by rw [h2];rfl,h3,h4⟩
 exact .inr ⟨b,h1,by rw [aG];exact h2,by rw [aG];exact h3,h4⟩
theorem Ru (p:PV):∀ j,(vF p j).held=(tA p p.code.length).held
 | 0=>rfl
 | j+1=>Ru p j
theorem Br (p:PV):∀ j,(vF p j).a=(tA p p.code.length).a∧(vF p j).b=(tA p p.code.length).b∧(vF p j).sets=(tA p p.code.length).sets
 | 0=>⟨U,U,U⟩
 | j+1=>Br p j
def eh (p:PV) (l:Life) (ac ao:Option Addr) (cc co u:Nat) (nb:Option Addr) (nc:Nat) (nj:List Value) (x y z n:Nat) (oo:Option Addr) (od:Nat) (oj:List Value) (o:Option Addr) (d:Nat) (j:List Value):Hp:=
 [(0,some u,.cells #[.int .i64 p.ins,.int .i64 p.regs,.slice ac p.code.length cc,.slice ao p.outs.length co,.slice nb (sV p).length nc,.slice (some ⟨x,0,none⟩) l.a.length n,.slice (some ⟨y,0,none⟩) l.b.length n,.slice (some ⟨z,0,none⟩) l.sets.length n,.slice oo l.outs.length od,.slice o l.till.length d] 143),
  (1,nb.map (·.block),Row 4 (sV p) nj),(2,some x,Row 3 l.a []),(3,some y,Row 3 l.b []),(4,some z,Row 3 l.sets []),(5,oo.map (·.block),Row 3 l.outs oj),(6,o.map (·.block),Row 3 l.till j)]
theorem Iq {l:List Int} {k:Nat} {x:Int} (h:k<l.length):(l.set ((k:Nat):Int).toNat x)[((k:Nat):Int).toNat]?.getD default=x:=by
 rw [aE,List.getElem?_set_self h];rfl
theorem c81 (G:A3) (p:PV) (ac ao:Option Addr) (cc co:Nat) (hc:Arr G ac p.code) (ho:Arr G ao p.outs) (h1:p.code.length≤1099511627776) (h2:p.outs.length≤1099511627776) (hR:sP p=true) :
 Does Tryz.prog 81 [.agg (H8 p ac cc ao co)] G [] (fun v G' Ho=>∃ u nb nc nj x y z n oo od oj o d j,v=.tuple #[.pointer (some ⟨u,0,none⟩),.int .i64 0]∧A4 nb nc (sV p) nj∧A4 (some ⟨x,0,none⟩) n (lifeP p).a []∧A4 (some ⟨y,0,none⟩) n (lifeP p).b []∧A4 (some ⟨z,0,none⟩) n (lifeP p).sets []∧A4 oo od (lifeP p).outs oj∧A4 o d (lifeP p).till j∧
  Ho=eh p (lifeP p) ac ao cc co u nb nc nj x y z n oo od oj o d j∧G'=G):=by
 obtain ⟨r1,r2,r3,r4,r5,r6,r7,r8⟩:=sT hR;refine D0 Tryz.func81 Tryz.ntmps81 fun w=>?_;refine aI 2 [] ?_;refine dV 0 fun b1=>?_;refine aL 7 [0] ?_;refine bV 1 U (mc _ _ _ _ _ _ sO sO sN sN hR) fun v1 G1 Ho1 hle1 hp=>?_;obtain ⟨nb1,nc1,nj1,rfl,hon1,rfl,rfl⟩:=hp;refine bB 25 [0,0] ?_;refine pI (ι:=Nat×Nat×Nat×Nat) (fun (x,y,z,u)=>([(7,.pointer (some ⟨u,0,none⟩)),(6,.int .i64 (↑p.code.length:Int)),(4,.slice nb1 (List.length (sV p)) nc1),(3,.int .i64 0),(2,.pointer none),(1,.pointer (some ⟨b1,0,none⟩))],[(60,some x,Row 3 (List.replicate p.code.length (0:Int)) []),(61,some y,Row 3 (List.replicate p.code.length (0:Int)) []),(62,some z,Row 3 (List.replicate p.code.length (0:Int)) []),(63,some u,.cells #[.int .i64 p.ins,.int .i64 p.regs,.slice ac p.code.length cc,.slice ao p.outs.length co,.slice nb1 (sV p).length nc1,.slice (some ⟨x,0,none⟩) (List.replicate p.code.length (0:Int)).length (List.replicate p.code.length (0:Int)).length,.slice (some ⟨y,0,none⟩) (List.replicate p.code.length (0:Int)).length (List.replicate p.code.length (0:Int)).length,.slice (some ⟨z,0,none⟩) (List.replicate p.code.length (0:Int)).length (List.replicate p.code.length (0:Int)).length,.slice none 0 0,.slice none 0 0] 143),(1,Option.map (fun x=>Go.Addr.block x) nb1,Row (α:=Bool) 4 (sV p) (nj1)),(0,some b1,.cells (H8 p ac cc ao co) 26)])) (fun (x,y,z,u)=>True) ?_ fun ⟨x,y,z,u⟩=>fun (hk:True)=>?_
 · refine dE [0,1] [] T.mixed [[0,0],[1],[2],[4],[6]] ?_;refine Gm.o3 3 5 7 ?_ ?_ ?_;refine gG (α:=Int) 2 U T.sl24 T.el3 U U sN sN fun b2=>?_;refine bC ?_;refine oG 5 7 ?_ ?_;refine gG (α:=Int) 3 U T.sl24 T.el3 U U sN sN fun b3=>?_;refine cS 7 ?_;refine gG (α:=Int) 4 U T.sl24 T.el3 U U sN sN fun b4=>?_;refine bC ?_;refine dW 8 [] U (bP (cs:=[_,_,_,_,_,_,_,_,_,_]) T.st143 U U U) ?_;refine bQ 9 ?_;refine dV 5 fun b5=>?_;refine bC ?_;refine dK [[10]] ?_;refine dG ?_;rotate_left;refine gG (α:=Int) 3 U T.sl24 T.el3 U U sN sN fun b3=>?_;refine cS 5 ?_;refine gG (α:=Int) 4 U T.sl24 T.el3 U U sN sN fun b4=>?_;refine bC ?_;refine dW 8 [] U (bP (cs:=[_,_,_,_,_,_,_,_,_,_]) T.st143 U U U) ?_;refine bQ 9 ?_;refine dV 5 fun b5=>?_;refine bC ?_;refine dK [[10]] ?_;refine dG ?_;rotate_left;refine gG (α:=Int) 2 U T.sl24 T.el3 U U sN sN fun b2=>?_;refine bC ?_;refine oG 3 7 ?_ ?_;refine gG (α:=Int) 3 U T.sl24 T.el3 U U sN sN fun b3=>?_;refine cS 7 ?_;refine gG (α:=Int) 4 U T.sl24 T.el3 U U sN sN fun b4=>?_;refine bC ?_;refine dW 8 [] U (bP (cs:=[_,_,_,_,_,_,_,_,_,_]) T.st143 U U U) ?_;refine bQ 9 ?_;refine dV 5 fun b5=>?_;refine bC ?_;refine dK [[10]] ?_;refine dG ?_;rotate_left;refine gG (α:=Int) 3 U T.sl24 T.el3 U U sN sN fun b3=>?_;refine cS 3 ?_;refine gG (α:=Int) 4 U T.sl24 T.el3 U U sN sN fun b4=>?_;refine bC ?_;refine dW 8 [] U (bP (cs:=[_,_,_,_,_,_,_,_,_,_]) T.st143 U U U) ?_;refine bQ 9 ?_;refine dV 5 fun b5=>?_;refine bC ?_;refine dK [[10]] ?_;refine dG ?_;rotate_left;refine gG (α:=Int) 2 U T.sl24 T.el3 U U sN sN fun b2=>?_;refine bC ?_;refine oG 3 5 ?_ ?_;refine gG (α:=Int) 3 U T.sl24 T.el3 U U sN sN fun b3=>?_;refine cS 5 ?_;refine gG (α:=Int) 4 U T.sl24 T.el3 U U sN sN fun b4=>?_;refine bC ?_;refine dW 8 [] U (bP (cs:=[_,_,_,_,_,_,_,_,_,_]) T.st143 U U U) ?_;refine bQ 9 ?_;refine dV 5 fun b5=>?_;refine bC ?_;refine dK [[10]] ?_;refine dG ?_;rotate_left;refine gG (α:=Int) 3 U T.sl24 T.el3 U U sN sN fun b3=>?_;refine cS 3 ?_;refine gG (α:=Int) 4 U T.sl24 T.el3 U U sN sN fun b4=>?_;refine bC ?_;refine dW 8 [] U (bP (cs:=[_,_,_,_,_,_,_,_,_,_]) T.st143 U U U) ?_;refine bQ 9 ?_;refine dV 5 fun b5=>?_;refine bC ?_;refine dK [[10]] ?_;refine dG ?_;rotate_left;all_goals first | (refine Ar.retag 2 60 U U (Ar.retag 3 61 U U (Ar.retag 4 62 U U (Ar.retag 5 63 U U (nZ (b2,b3,b4,b5) F9 U ?_ ?_)))) <;> (repeat (first | exact F9 | refine ⟨U,?_⟩));done) | (refine Ar.retag 2 60 U U (Ar.retag 4 61 U U (Ar.retag 3 62 U U (Ar.retag 5 63 U U (nZ (b2,b4,b3,b5) F9 U ?_ ?_)))) <;> (repeat (first | exact F9 | refine ⟨U,?_⟩));done) | (refine Ar.retag 3 60 U U (Ar.retag 2 61 U U (Ar.retag 4 62 U U (Ar.retag 5 63 U U (nZ (b3,b2,b4,b5) F9 U ?_ ?_)))) <;> (repeat (first | exact F9 | refine ⟨U,?_⟩));done) | (refine Ar.retag 3 60 U U (Ar.retag 4 61 U U (Ar.retag 2 62 U U (Ar.retag 5 63 U U (nZ (b3,b4,b2,b5) F9 U ?_ ?_)))) <;> (repeat (first | exact F9 | refine ⟨U,?_⟩));done) | (refine Ar.retag 4 60 U U (Ar.retag 2 61 U U (Ar.retag 3 62 U U (Ar.retag 5 63 U U (nZ (b4,b2,b3,b5) F9 U ?_ ?_)))) <;> (repeat (first | exact F9 | refine ⟨U,?_⟩));done) | (refine Ar.retag 4 60 U U (Ar.retag 3 61 U U (Ar.retag 2 62 U U (Ar.retag 5 63 U U (nZ (b4,b3,b2,b5) F9 U ?_ ?_)))) <;> (repeat (first | exact F9 | refine ⟨U,?_⟩));done)
 clear hk;refine aI 4 [0] ?_;refine gG (α:=Int) 64 U T.sl24 T.el3 U U sN sN fun b2=>?_;refine bB 12 [] ?_;obtain ⟨Z,hZ⟩:∃ Z,Z=List.replicate p.code.length (0:Int):=⟨_,U⟩
 have hZl:Z.length=p.code.length:=by rw [hZ,aJ]
 have hno:∀ b:Nat,A4 (some ⟨b,0,none⟩) Z.length Z []:=fun b=>fK On;obtain ⟨R,hRn⟩:∃ R:Nat,p.regs=(R:Int):=⟨p.regs.toNat,by omega⟩
 have hRt:p.regs.toNat=R:=sN;rw [←hZ,hRt];have hown:∀ h:List Int,h.length=R→A4 (some ⟨b2,0,none⟩) R h []:=fun h hh=>.inr ⟨b2,U,by rw [hh];rfl,by omega,by simp only [maxLen];omega⟩;refine iV 8 U (show _=Value.slice (some ⟨b2,0,none⟩) (List.replicate R (default:Int)).length R by rw [aJ]) ?_;refine iV 39 U (show _=Value.int .i64 (R:Int) by rw [aJ]) ?_;refine gX (ι:=Nat×List Int) (fun (k,h)=>([(40,.int .i64 (k:Int)),(8,.slice (some ⟨b2,0,none⟩) h.length R),(39,.int .i64 (↑R:Int)),(7,.pointer (some (Addr.mk u 0 none))),(6,.int .i64 (↑p.code.length:Int)),(4,.slice nb1 (List.length (sV p)) nc1),(3,.int .i64 0),(2,.pointer none),(1,.pointer (some ⟨b1,0,none⟩))],[(64,some b2,Row 3 h []),(60,some x,Row (α:=Int) 3 (Z) ([])),(61,some y,Row (α:=Int) 3 (Z) ([])),(62,some z,Row (α:=Int) 3 (Z) ([])),(63,some u,.cells #[.int .i64 p.ins,.int .i64 p.regs,.slice ac p.code.length cc,.slice ao p.outs.length co,.slice nb1 (List.length (sV p)) nc1,.slice (some (Addr.mk x 0 none)) (List.length Z) (List.length Z),.slice (some (Addr.mk y 0 none)) (List.length Z) (List.length Z),.slice (some (Addr.mk z 0 none)) (List.length Z) (List.length Z),.slice none 0 0,.slice none 0 0] 143),(1,Option.map (fun x=>Go.Addr.block x) nb1,Row (α:=Bool) 4 (sV p) (nj1)),(0,some b1,.cells (H8 p ac cc ao co) 26)])) (fun (k,h)=>k≤R∧h.length=R∧∀ q:Nat,q<k→h[q]?.getD default=min (q:Int) p.ins) (fun (k,h)=>R - k) ((0,List.replicate R (default:Int))) (⟨aM _,aJ,fun q hq=>by omega⟩) fun ⟨k,h⟩=>fun hk=>?_;obtain ⟨hk1,hhl,hhe⟩:=hk;have hoh:=hown h hhl;rcases aK k R with hkR | hkR
 · refine aI 22 [1,0] ?_;refine cI U (md _ _ _ _ _ _ _) ?_;refine iE (α:=Int) T.sl24 ?_;refine dC (z:=_) 64 T.size3 U U U sO sN U fun ho1=>?_;refine aS 7 [] ?_;refine cJ 8 U (show _=Value.slice (some ⟨b2,0,none⟩) (h.set (k:Int).toNat (min (k:Int) p.ins)).length R by rw [aG]) ?_;refine cK ((k+1,h.set (k:Int).toNat (min (k:Int) p.ins))) ?_ ?_
   · refine ⟨hkR,by rw [aG];exact hhl,fun q hq=>?_⟩;rw [aE,cF];by_cases hqk:k=q
     · subst hqk;rw [aF rfl,aF (by omega)];rfl
     rw [aD hqk];exact hhe q sN
   show R - (k+1)<R - k;omega
 have hh0:h=(vY p).held:=by
  refine VJ (by rw [hhl];show R=((List.range p.regs.toNat).map _).length;rw [aN,cC,hRt]) fun q hq=>?_;rw [hhe q sN];show _=((List.range p.regs.toNat).map fun (r:Nat)=>min (r:Int) p.ins)[q]?.getD default;rw [bM,eV sN];rfl
 refine bI 22 [0,0] ?_;refine eJ 65 (Row 3 ([]:List Int) []) ?_;refine fT (ι:=Nat×List Int×(Option Addr×Nat×List Value)) (fun (i,t,(o,d,j))=>([(53,.int .i64 (i:Int)),(52,.int .i64 (PV.ins p+1)),(8,.slice (some (Addr.mk b2 0 none)) (List.length h) R),(7,.pointer (some (Addr.mk u 0 none))),(6,.int .i64 (↑p.code.length:Int)),(4,.slice nb1 (List.length (sV p)) nc1),(3,.int .i64 0),(2,.pointer none),(1,.pointer (some ⟨b1,0,none⟩))],[(63,some u,.cells #[.int .i64 p.ins,.int .i64 p.regs,.slice ac p.code.length cc,.slice ao p.outs.length co,.slice nb1 (sV p).length nc1,.slice (some ⟨x,0,none⟩) Z.length Z.length,.slice (some ⟨y,0,none⟩) Z.length Z.length,.slice (some ⟨z,0,none⟩) Z.length Z.length,.slice none 0 0,.slice o t.length d] 143),(65,o.map (·.block),Row 3 t j),(64,some b2,Row (α:=Int) 3 (h) ([])),(60,some x,Row (α:=Int) 3 (Z) ([])),(61,some y,Row (α:=Int) 3 (Z) ([])),(62,some z,Row (α:=Int) 3 (Z) ([])),(1,Option.map (fun x=>Go.Addr.block x) nb1,Row (α:=Bool) 4 (sV p) (nj1)),(0,some b1,.cells (H8 p ac cc ao co) 26)])) (fun (i,t,(o,d,j))=>(i:Int)≤p.ins+1∧t=List.replicate i (-1)∧A4 o d t j) (fun (i,t,(o,d,j))=>p.ins.toNat+1 - i) ((0,[],(none,0,[]))) (⟨by show (0:Int)≤_;omega,U,eG⟩) ⟨U,U,U,U,U,U,U,U,U,F9⟩ ⟨U,U,U,U,U,U,U,U,F9⟩ fun ⟨i,t,(o,d,j)⟩=>fun hk=>?_;obtain ⟨hi1,hti,hot⟩:=hk;have htl:t.length=i:=by rw [hti,aJ]
 by_cases hii:(i:Int)<p.ins+1
 · refine aI 17 [1,63] ?_;refine cZ (α:=Int) 66 [(-1)] U T.sl24 T.el3 U U U U U fun b3=>?_;refine kH (α:=Int) 65 T.sl24 T.el3 (dT 66 U) fun a1 c1 junk1 ho1=>?_;refine aS 10 [63] ?_;refine cK ((i+1,t++[-1],(a1,c1,junk1))) ?_ ?_
   · exact ⟨by omega,by rw [hti,List.replicate_succ'],ho1⟩
   show p.ins.toNat+1 - (i+1)<p.ins.toNat+1 - i;omega
 refine bI 22 [0,0] ?_;have htt:t=(vY p).till:=by
  rw [hti,show i=p.ins.toNat+1 by omega];rfl
 have hZ':Z=(vY p).a:=hZ;subst htt hh0 hZ';have hno9:∀ (b:Nat) (l:List Int),l.length=p.code.length→A4 (some ⟨b,0,none⟩) (vY p).a.length l []:=fun b l hl=>.inr ⟨b,U,by rw [hZl,hl];rfl,by omega,by simp only [maxLen];omega⟩;refine fT (ι:=Nat×Life×(Option Addr×Nat×List Value)) (fun (k,l,(o,d,j))=>([(68,.int .i64 (k:Int)),(8,.slice (some ⟨b2,0,none⟩) l.held.length R),(67,.int .i64 (↑p.code.length:Int)),(66,.slice ac p.code.length cc),(7,.pointer (some (Addr.mk u 0 none))),(6,.int .i64 (↑p.code.length:Int)),(4,.slice nb1 (List.length (sV p)) nc1),(3,.int .i64 0),(2,.pointer none),(1,.pointer (some ⟨b1,0,none⟩))],[(60,some x,Row 3 l.a []),(61,some y,Row 3 l.b []),(62,some z,Row 3 l.sets []),(64,some b2,Row 3 l.held []),(63,some u,.cells #[.int .i64 p.ins,.int .i64 p.regs,.slice ac p.code.length cc,.slice ao p.outs.length co,.slice nb1 (sV p).length nc1,.slice (some ⟨x,0,none⟩) l.a.length (vY p).a.length,.slice (some ⟨y,0,none⟩) l.b.length (vY p).a.length,.slice (some ⟨z,0,none⟩) l.sets.length (vY p).a.length,.slice none 0 0,.slice o l.till.length d] 143),(65,o.map (·.block),Row 3 l.till j),(1,Option.map (fun x=>Go.Addr.block x) nb1,Row (α:=Bool) 4 (sV p) (nj1)),(0,some b1,.cells (H8 p ac cc ao co) 26)])) (fun (k,l,(o,d,j))=>k≤p.code.length∧l=tA p k∧A4 o d l.till j) (fun (k,l,(o,d,j))=>p.code.length - k) ((0,vY p,(o,d,j))) (⟨aM _,U,hot⟩) ⟨U,U,U,U,U,U,U,U,U,U,F9⟩ ⟨U,U,U,U,U,U,U,U,F9⟩ fun ⟨k,l,(o,d,j)⟩=>fun hk=>?_;obtain ⟨hk9,hlk,hol⟩:=hk;have hok:=xO hR k hk9;rw [←hlk] at hok;obtain ⟨k1,k2,k3,k4,k5,k6,k7,k8,k9,k10,k11⟩:=hok;have hoa:=hno9 x l.a k1;have hob:=hno9 y l.b k2;have hoz:=hno9 z l.sets k3;have hoh2:=hown l.held sN;rcases aK k p.code.length with hkc | hkc
 · have hm:=vZ hR hkc;unfold vX at hm;have hnl:(sV p).length=p.code.length:=(wM p _).2;have hva:0≤l.held[(p.code[(k:Int).toNat]?.getD default).a.toNat]?.getD default∧l.held[(p.code[(k:Int).toNat]?.getD default).a.toNat]?.getD default<l.till.length:=k7 _ (get_mem (by have:=(tK hm).2.2.1;omega));obtain ⟨m1,m2,m3,m4,m5,m6,m7,m8⟩:=tK hm;have hI:vX p k=p.code[(k:Int).toNat]?.getD default:=rfl;have m4':1<((tC (p.code[(k:Int).toNat]?.getD default)).length:Int)→0≤(p.code[(k:Int).toNat]?.getD default).b∧(p.code[(k:Int).toNat]?.getD default).b<p.regs:=fun h=>m4 (Me sN);refine aI 14 [1] ?_;refine fR (α:=Sl.Instr) T.sl23 ?_;refine lL T.agg91 ?_;refine aO 66 U T.zero91 fun b3=>?_;refine aL 9 [66] ?_;refine iE (α:=Bool) T.sl138 ?_;refine nA 1 0 T.one4 ?_;refine bB 3 [] ?_;refine lJ U (fun hc1=>?_) fun hc1=>?_;refine bE 8 [] ?_;rotate_left;refine bI 3 [] ?_;refine dE [0,1,65,63,64,62,61,60,66] [(66,23),(60,23),(61,23),(62,23),(64,23),(63,23),(65,23),(1,23),(0,23),(66,21),(60,21),(61,21),(62,21),(64,21),(63,21),(65,21),(1,21),(0,21)] T.mixed [[0],[1],[2],[3,63],[4],[5],[6],[7],[8,63],[9],[10],[11],[12,66]] ?_;refine fJ (α:=Int) 13 T.sl24 ?_;refine dW 14 [0,64] U (fF 64 0 T.one3 U U sO sN U U) ?_;refine dK [[15],[16]] ?_;refine bQ 17 ?_;refine aC 1 [66] ?_;refine bC ?_;refine fJ (α:=Int) 18 T.sl24 ?_;refine dW 19 [0,64] U (fF 64 0 T.one3 U U sO sN U U) ?_;refine fJ (α:=Int) 20 T.sl24 ?_;refine bQ 21 ?_;refine dC (z:=_) 60 T.size3 U U U sO sN U fun ho1=>?_;refine bC ?_;refine fJ (α:=Int) 22 T.sl24 ?_;refine bQ 23 ?_;refine dC (z:=_) 61 T.size3 U U U sO sN U fun ho2=>?_;refine fD ?_;refine cN ?_;rotate_left
   · have hn:¬yA p k=true:=by unfold yA;simpa using hc1
     refine cK ((k+1,l,(o,d,j))) ?_ ?_
     · exact ⟨hkc,by rw [hlk];exact (aD hn).symm,hol⟩
     show p.code.length - (k+1)<p.code.length - k;omega
   have hn:yA p k=true:=by unfold yA;simpa using hc1
   refine pI (ι:=Int) (fun v=>([(4,.slice nb1 (sV p).length nc1),(66,.slice ac p.code.length cc),(67,.int .i64 (p.code.length:Int)),(10,.int .i64 (↑k:Int)),(11,.pointer (some (Addr.mk b3 0 none))),(68,.int .i64 (↑k:Int)),(8,.slice (some (Addr.mk b2 0 none)) (List.length (Life.held l)) R),(7,.pointer (some (Addr.mk u 0 none))),(6,.int .i64 (↑p.code.length:Int)),(3,.int .i64 0),(2,.pointer none),(1,.pointer (some ⟨b1,0,none⟩))],[(61,some y,Row 3 (l.b.set (k:Int).toNat v) []),(60,Option.map (fun x=>Go.Addr.block x) (some (Addr.mk x 0 none)),Row (α:=Int) 3 (List.set (Life.a l) (Int.toNat (↑k:Int)) (Option.getD (Life.held l)[Int.toNat (Instr.a (Option.getD p.code[Int.toNat (↑k:Int)]? default))]? default)) ([])),(66,some b3,.cells (List.toArray (A2.enc (Option.getD p.code[Int.toNat (↑k:Int)]? default))) 91),(62,some z,Row (α:=Int) 3 (Life.sets l) ([])),(64,some b2,Row (α:=Int) 3 (Life.held l) ([])),(63,some u,.cells #[.int .i64 p.ins,.int .i64 p.regs,.slice ac p.code.length cc,.slice ao p.outs.length co,.slice nb1 (List.length (sV p)) nc1,.slice (some (Addr.mk x 0 none)) (List.length (Life.a l)) (List.length (Life.a (vY p))),.slice (some (Addr.mk y 0 none)) (List.length (Life.b l)) (List.length (Life.a (vY p))),.slice (some (Addr.mk z 0 none)) (List.length (Life.sets l)) (List.length (Life.a (vY p))),.slice none 0 0,.slice o (List.length (Life.till l)) d] 143),(65,Option.map (fun x=>Go.Addr.block x) o,Row (α:=Int) 3 (Life.till l) (j)),(1,Option.map (fun x=>Go.Addr.block x) nb1,Row (α:=Bool) 4 (sV p) (nj1)),(0,some b1,.cells (H8 p ac cc ao co) 26)])) (fun v=>v=vB l (p.code[(k:Int).toNat]?.getD default)) ?_ fun v=>fun (hk:v=vB l (p.code[(k:Int).toNat]?.getD default))=>?_
   · by_cases h2:1<((tC (p.code[((k:Nat):Int).toNat]?.getD default)).length:Int)
     · have m4b:=m4' h2;have hlb:(l.b.set (k:Int).toNat (l.held[(p.code[(k:Int).toNat]?.getD default).a.toNat]?.getD default)).length=l.b.length:=aG;refine aI 3 [66] ?_;refine bV 67 U (IT _ _) fun v2 G2 Ho2 hle2 hp=>?_;obtain ⟨ad2,cd2,junk2,rfl,hoa2,rfl,rfl⟩:=hp;refine bB 5 [1] ?_;refine dE [0,1,65,63,64,62,66,60,61,68] [(68,11),(61,11),(60,11),(66,11),(62,11),(64,11),(63,11),(65,11),(1,11),(0,11)] T.mixed [[0],[1],[2],[3,63],[4],[5],[6],[7,66]] ?_;refine fJ (α:=Int) 8 T.sl24 ?_;refine dW 9 [0,64] U (fF 64 0 T.one3 U U sO sN U U) ?_;refine fJ (α:=Int) 10 T.sl24 ?_;refine bQ 11 ?_;refine dC (z:=_) 61 T.size3 U U U sO sN U fun ho3=>?_;refine fD ?_;rw [List.set_set];refine mM (l.held[(p.code[(k:Int).toNat]?.getD default).b.toNat]?.getD default) ?_;exact (aF (by omega)).symm
     refine aI 3 [66] ?_;refine bV 67 U (IT _ _) fun v2 G2 Ho2 hle2 hp=>?_;obtain ⟨ad2,cd2,junk2,rfl,hoa2,rfl,rfl⟩:=hp;refine aS 6 [0] ?_;refine mM (l.held[(p.code[(k:Int).toNat]?.getD default).a.toNat]?.getD default) ?_;exact (aD (by omega)).symm
   have hvb:=QD ⟨k1,k2,k3,k4,k5,k6,k7,k8,k9,k10,k11⟩ hm;rw [←hk] at hvb;have hob3:=hno9 y (l.b.set (k:Int).toNat v) (by rw [aG];exact k2);have hra:(l.a.set (k:Int).toNat (l.held[(p.code[(k:Int).toNat]?.getD default).a.toNat]?.getD default))[(k:Int).toNat]?.getD default=l.held[(p.code[(k:Int).toNat]?.getD default).a.toNat]?.getD default:=Iq sN;have hrb:(l.b.set (k:Int).toNat v)[(k:Int).toNat]?.getD default=v:=Iq sN;have hla:(l.a.set (k:Int).toNat (l.held[(p.code[(k:Int).toNat]?.getD default).a.toNat]?.getD default)).length=l.a.length:=aG;have hlb:(l.b.set (k:Int).toNat v).length=l.b.length:=aG;have hlt1:(l.till.set (l.held[(p.code[(k:Int).toNat]?.getD default).a.toNat]?.getD default).toNat (k:Int)).length=l.till.length:=aG;have hlt2:((l.till.set (l.held[(p.code[(k:Int).toNat]?.getD default).a.toNat]?.getD default).toNat (k:Int)).set v.toNat (k:Int)).length=l.till.length:=by rw [aG,aG]
   refine dJ ?_;refine dE [0,1,65,63,64,62,66,60,61] [(61,27),(60,27),(66,27),(62,27),(64,27),(63,27),(65,27),(1,27),(0,27),(61,25),(60,25),(66,25),(62,25),(64,25),(63,25),(65,25),(1,25),(0,25)] T.mixed [[0],[1],[2],[3,63],[4],[5],[6],[7,63],[8]] ?_;refine fJ (α:=Int) 9 T.sl24 ?_;refine dW 10 [0,60] U (fF 60 0 T.one3 U U sO sN U U) ?_;refine dK [[11],[12],[13],[14,63],[15],[16],[17],[18,63],[19]] ?_;refine fJ (α:=Int) 20 T.sl24 ?_;refine dW 21 [0,61] U (fF 61 0 T.one3 U U sO sN U U) ?_;refine dK [[22],[23]] ?_;refine fJ (α:=Int) 24 T.sl24 ?_;refine bQ 25 ?_;refine dC (z:=_) 65 T.size3 U U U sO sN U fun ho3=>?_;refine bC ?_;refine fJ (α:=Int) 26 T.sl24 ?_;refine bQ 27 ?_;rw [hra,hrb];have hol2:A4 o d (l.till.set (l.held[(p.code[(k:Int).toNat]?.getD default).a.toNat]?.getD default).toNat (k:Int)) j:=Xs hol _ _;have hoh3:=hown (l.held.set (p.code[(k:Int).toNat]?.getD default).to.toNat (l.till.length:Int)) (by rw [aG];omega);refine dC (z:=_) 65 T.size3 U U U sO sN U fun ho4=>?_;refine fD ?_;refine lS 2 [] ?_;refine dE [0,1,63,64,62,66,60,61,65] [(65,21),(61,21),(60,21),(66,21),(62,21),(64,21),(63,21),(1,21),(0,21),(65,19),(61,19),(60,19),(66,19),(62,19),(64,19),(63,19),(1,19),(0,19)] T.mixed [[0],[1],[2],[3,63],[4],[5],[6],[8],[9],[10],[11,63],[12],[13],[14],[15],[16,63],[17]] ?_;refine fJ (α:=Int) 18 T.sl24 ?_;refine oG 7 19 ?_ ?_;refine aC 1 [66] ?_;refine cS 19 ?_;refine dC (z:=_) 62 T.size3 U U U sO sN U fun ho5=>?_;refine bC ?_;refine fJ (α:=Int) 20 T.sl24 ?_;refine bQ 21 ?_;refine dC (z:=_) 64 T.size3 U U U sO sN U fun ho6=>?_;refine fD ?_;refine lQ 7 [63] ?_;refine cZ (α:=Int) 67 [(-1)] U T.sl24 T.el3 U U U U U fun b4=>?_;rotate_left;refine dC (z:=_) 62 T.size3 U U U sO sN U fun ho5=>?_;refine cS 7 ?_;refine aC 1 [66] ?_;refine bC ?_;refine fJ (α:=Int) 20 T.sl24 ?_;refine bQ 21 ?_;refine dC (z:=_) 64 T.size3 U U U sO sN U fun ho6=>?_;refine fD ?_;refine lQ 7 [63] ?_;refine cZ (α:=Int) 67 [(-1)] U T.sl24 T.el3 U U U U U fun b4=>?_;rotate_left;all_goals
    refine fO 165 U (show _=Value.slice o ((l.till.set (l.held[(p.code[(k:Int).toNat]?.getD default).a.toNat]?.getD default).toNat (k:Int)).set v.toNat (k:Int)).length d by rw [hlt2]) ?_;have hol3:=Xs hol2 v.toNat (k:Int);refine kH (α:=Int) 65 T.sl24 T.el3 (dT 67 U) fun a7 c7 junk7 ho7=>?_;refine aS 10 [63] ?_;subst hk;have e1:(uT l k (p.code[(k:Int).toNat]?.getD default)).a.length=l.a.length:=aG;have e2:(uT l k (p.code[(k:Int).toNat]?.getD default)).b.length=l.b.length:=aG;have e3:(uT l k (p.code[(k:Int).toNat]?.getD default)).sets.length=l.sets.length:=aG;have e4:(uT l k (p.code[(k:Int).toNat]?.getD default)).held.length=l.held.length:=aG;refine gC 63 (.cells #[.int .i64 p.ins,.int .i64 p.regs,.slice ac p.code.length cc,.slice ao p.outs.length co,.slice nb1 (sV p).length nc1,.slice (some ⟨x,0,none⟩) (uT l k (p.code[(k:Int).toNat]?.getD default)).a.length (vY p).a.length,.slice (some ⟨y,0,none⟩) (uT l k (p.code[(k:Int).toNat]?.getD default)).b.length (vY p).a.length,.slice (some ⟨z,0,none⟩) (uT l k (p.code[(k:Int).toNat]?.getD default)).sets.length (vY p).a.length,.slice none 0 0,.slice a7 (uT l k (p.code[(k:Int).toNat]?.getD default)).till.length c7] 143) U (by rw [e1,e2,e3];rfl) ?_;refine cJ 8 U (show _=Value.slice (some ⟨b2,0,none⟩) (uT l k (p.code[(k:Int).toNat]?.getD default)).held.length R by rw [e4]) ?_;refine cK ((k+1,uT l k (p.code[(k:Int).toNat]?.getD default),(a7,c7,junk7))) ?_ ?_
    · refine ⟨hkc,?_,?_⟩
      · rw [hlk];exact (aF hn).symm
      show A4 a7 c7 (((l.till.set _ _).set _ _)++[-1]) junk7;assumption
    show p.code.length - (k+1)<p.code.length - k;omega
 have hke:k=p.code.length:=qM hk9 hkc;subst hke;have hlo:l.outs=[]:=by rw [hlk];exact zZ p _
 refine bI 22 [0,0] ?_;refine eJ 69 (Row 3 l.outs []) ?_;refine qU 63 (.cells #[.int .i64 p.ins,.int .i64 p.regs,.slice ac p.code.length cc,.slice ao p.outs.length co,.slice nb1 (sV p).length nc1,.slice (some ⟨x,0,none⟩) l.a.length (vY p).a.length,.slice (some ⟨y,0,none⟩) l.b.length (vY p).a.length,.slice (some ⟨z,0,none⟩) l.sets.length (vY p).a.length,.slice none l.outs.length 0,.slice o l.till.length d] 143) U (by rw [hlo];rfl) ?_;refine fT (ι:=Nat×Life×(Option Addr×Nat×List Value)) (fun (q,l2,(oo,od,oj))=>([(174,.int .i64 (q:Int)),(173,.int .i64 (↑p.outs.length:Int)),(172,.slice ao p.outs.length co),(8,.slice (some (Addr.mk b2 0 none)) (List.length (Life.held l)) R),(7,.pointer (some (Addr.mk u 0 none))),(6,.int .i64 (↑p.code.length:Int)),(3,.int .i64 0),(2,.pointer none)],[(65,o.map (·.block),Row 3 l2.till j),(69,oo.map (·.block),Row 3 l2.outs oj),(63,some u,.cells #[.int .i64 p.ins,.int .i64 p.regs,.slice ac p.code.length cc,.slice ao p.outs.length co,.slice nb1 (sV p).length nc1,.slice (some ⟨x,0,none⟩) l.a.length (vY p).a.length,.slice (some ⟨y,0,none⟩) l.b.length (vY p).a.length,.slice (some ⟨z,0,none⟩) l.sets.length (vY p).a.length,.slice oo l2.outs.length od,.slice o l2.till.length d] 143),(60,some x,Row (α:=Int) 3 (Life.a l) ([])),(61,some y,Row (α:=Int) 3 (Life.b l) ([])),(62,some z,Row (α:=Int) 3 (Life.sets l) ([])),(64,some b2,Row (α:=Int) 3 (Life.held l) ([])),(1,Option.map (fun x=>Go.Addr.block x) nb1,Row (α:=Bool) 4 (sV p) (nj1)),(0,some b1,.cells (H8 p ac cc ao co) 26)])) (fun (q,l2,(oo,od,oj))=>q≤p.outs.length∧l2=vF p q∧A4 oo od l2.outs oj∧A4 o d l2.till j) (fun (q,l2,(oo,od,oj))=>p.outs.length - q) ((0,l,(none,0,[]))) (⟨aM _,hlk,by show A4 none 0 l.outs [];rw [hlo];exact eG,hol⟩) ⟨U,U,U,U,U,U,U,U,F9⟩ ⟨U,U,U,U,U,U,U,U,U,F9⟩ fun ⟨q,l2,(oo,od,oj)⟩=>fun hk=>?_;obtain ⟨hq1,hl2,hoo,hot2⟩:=hk;have h2ok:=Rj hR q hq1;have h2h:=Ru p q;have h2l:=Mf p q;rw [←hl2] at h2ok h2h h2l;rw [←hlk] at h2h h2l;rw [hlo] at h2l;have h2l':l2.outs.length=q:=by rw [h2l];exact cR q
 have h2t:=h2ok.t1;rcases aK q p.outs.length with hqc | hqc
 · have hr:=Gf hR hqc;have hv2:0≤l.held[(p.outs[(q:Int).toNat]?.getD default).toNat]?.getD default∧l.held[(p.outs[(q:Int).toNat]?.getD default).toNat]?.getD default<l2.till.length:=h2ok.hb _ (by rw [h2h];exact get_mem sN);refine aI 13 [1] ?_;refine fR (α:=Int) T.sl24 ?_;refine jC 0 T.one3 ?_;refine bB 4 [] ?_;refine dE [0,1,64,62,61,60,63,69,65] [(63,13),(65,10),(69,10),(60,10),(61,10),(62,10),(64,10),(1,10)] T.mixed [[0],[1],[2],[3],[4,63],[5],[6]] ?_;refine fJ (α:=Int) 7 T.sl24 ?_;refine bQ 8 ?_;refine nA 64 0 T.one3 ?_;refine cS 9 ?_;refine cZ (α:=Int) 70 [(Option.getD (Go.Proofs.YtkdelpdbjfpgmaaGreatDoor.Life.held l)[Int.toNat (Option.getD p.outs[Int.toNat (↑q:Int)]? Inhabited.default)]? Inhabited.default)] U T.sl24 T.el3 U U U U U fun b3=>?_;refine cS 10 ?_;refine kH (α:=Int) 69 T.sl24 T.el3 (dT 70 U) fun a1 c1 junk1 ho1=>?_;refine bC ?_;refine dK [[11],[12]] ?_;refine bQ 13 ?_;refine aC 1 [63] ?_;refine fD ?_;refine cN ?_;refine dE [0,1,64,62,61,60,65,70,69,63] [(63,10),(69,10),(70,10),(65,10),(60,10),(61,10),(62,10),(64,10),(1,10),(0,10)] T.mixed [[0],[1],[2],[3,63],[4],[5]] ?_;refine fJ (α:=Int) 6 T.sl24 ?_;refine dW 7 [0,64] U (fF 64 0 T.one3 U U sO sN U U) ?_;refine dK [[8]] ?_;refine fJ (α:=Int) 9 T.sl24 ?_;refine bQ 10 ?_;refine dC (z:=_) 65 T.size3 U U U sO sN U fun ho2=>?_;refine fD ?_;refine eE 6 [] ?_;have e5:(Ds p l2 (p.outs[(q:Int).toNat]?.getD default)).till.length=l2.till.length:=aG;have eS:Ds p l2 (p.outs[(q:Int).toNat]?.getD default)={ l2 with outs:=l2.outs++[l.held[(p.outs[(q:Int).toNat]?.getD default).toNat]?.getD default],till:=l2.till.set (l.held[(p.outs[(q:Int).toNat]?.getD default).toNat]?.getD default).toNat p.code.length }:=by
    unfold Ds;rw [h2h]
   rw [eS] at e5;refine gC 63 (.cells #[.int .i64 p.ins,.int .i64 p.regs,.slice ac p.code.length cc,.slice ao p.outs.length co,.slice nb1 (sV p).length nc1,.slice (some ⟨x,0,none⟩) l.a.length (vY p).a.length,.slice (some ⟨y,0,none⟩) l.b.length (vY p).a.length,.slice (some ⟨z,0,none⟩) l.sets.length (vY p).a.length,.slice a1 (l2.outs++[l.held[(p.outs[(q:Int).toNat]?.getD default).toNat]?.getD default]).length c1,.slice o (l2.till.set (l.held[(p.outs[(q:Int).toNat]?.getD default).toNat]?.getD default).toNat p.code.length).length d] 143) U (by rw [e5];rfl) ?_;refine cK ((q+1,{ l2 with outs:=l2.outs++[l.held[(p.outs[(q:Int).toNat]?.getD default).toNat]?.getD default],till:=l2.till.set (l.held[(p.outs[(q:Int).toNat]?.getD default).toNat]?.getD default).toNat p.code.length },(a1,c1,junk1))) ?_ ?_
   · refine ⟨hqc,?_,by assumption,Xs hot2 _ _⟩;show _=Ds p (vF p q) _;rw [←hl2,eS]
   show p.outs.length - (q+1)<p.outs.length - q;omega
 have hqe:q=p.outs.length:=qM hq1 hqc;subst hqe;have hlp:l2=lifeP p:=hl2;have s1:l.a=(lifeP p).a:=by rw [hlk];exact (Br p _).1.symm
 have s2:l.b=(lifeP p).b:=by rw [hlk];exact (Br p _).2.1.symm
 have s3:l.sets=(lifeP p).sets:=by rw [hlk];exact (Br p _).2.2.symm
 subst hlp;refine bE 20 [0] ?_;refine mK [63,1,60,61,62,69,65] sY (gZ (.inr U) U (.tmp U) (.tmp U) (mD 0 _) ?_);rw [s1] at hoa;rw [s2] at hob;rw [s3] at hoz;refine ⟨u,nb1,nc1,nj1,x,y,z,(vY p).a.length,oo,od,oj,o,d,j,U,hon1,hoa,hob,hoz,hoo,hot2,?_,U⟩;rw [s1,s2,s3];rfl
section
variable {P:Program} {B:Bs} {e:A9} {D:List Deferred} {H:Hp} {G:A3}
theorem Va {ty:TypeId} {T et:TypeId} {len i:Nat} {x y:Operand} {cs:List Value} {v:Value} (hT:P.underlying T=some (.array len et)) (h1:P.plainKey et=true) (hs:(P.info? et).map (·.size)=some 1)
 (hx:e.ev x=some (.agg cs.toArray)) (hy:e.ev y=some (.int .i64 (i:Int))) (hi:i<len) (hv:cs[i]?=some v):Qy P (.index T x y) ty e H G v:=fun a w _ _ _ _ hh=>by
 have hp:(part et cs.toArray i).run P w=.ok v w:=by
  unfold Program.plainKey at h1;cases hu:P.underlying et with
  | none=>simp [hu] at h1
  | some d=>cases d <;> simp [hu] at h1 <;> simp [part,isAgg,cT hu,hv,Result.andThen]
 have hsz:=Go.Sl.run_sizeOf (P:=P) w hs;have h2:(0:Int)≤(i:Int)∧(i:Int)<(len:Int):=sN;simp only [execOp,hh.eval hx,hh.eval hy,Instr.index,asIntOf,dA,dN,bK,cT hT];rw [aF h2];simp only [dA,hsz,bK,aE,Nat.mul_one,hp,dN]
end
theorem WW:Tryz.prog.underlying 145=some (.array 2 3):=sR
theorem pk3:Tryz.prog.plainKey 3=true:=sR
theorem size3:(Tryz.prog.info? 3).map (·.size)=some 1:=sR
section
variable {P:Program} {B:Bs} {e:A9} {D:List Deferred} {H:Hp} {G:A3}
theorem QT {r:Option Nat} {c:Code} {Q:Exit→Act→World→Prop} (t t':Nat) {k:Option Nat} {o:Obj} (ht:H.get t=some (k,o)) (hn:Nat.beq t t'=false) (h:Wc r P c B ⟨e,D,(t',k,o) :: (t,none,o) :: H,G⟩ Q):Wc r P c B ⟨e,D,H,G⟩ Q:=
 fun a w hh=>h a w (retagH hh t t' ht (fun e=>by subst e;simp at hn) (.inr trivial))
end
theorem BZ (p:PV):(sV p).length=p.code.length:=by unfold sV;exact (wM p _).2
def VK (l:Life) (k:Nat) (s:Pl):Nat→Pl
 | 0=>s
 | 1=>vC l k s (l.a[((k:Nat):Int).toNat]?.getD default)
 | _=>vC l k (vC l k s (l.a[((k:Nat):Int).toNat]?.getD default)) (l.b[((k:Nat):Int).toNat]?.getD default)
theorem Vb (p:PV) {k:Nat}:∀ (j:Nat),k<j→j≤p.code.length→(tA p j).sets[((k:Nat):Int).toNat]?.getD default=(tA p (k+1)).sets[((k:Nat):Int).toNat]?.getD default
 | 0,h,_=>absurd h (qL _)
 | j+1,h,hj=>by
   by_cases hk:k=j
   · rw [hk]
   rw [←Vb p j sN sN];show (if yA p j=true then uT (tA p j) j (vX p j) else tA p j).sets[_]?.getD default=_;split
   · show ((tA p j).sets.set j _)[(k:Int).toNat]?.getD default=_;rw [cF,aD (by omega)]
   rfl
theorem KO {p:PV} (hR:sP p=true) {k:Nat} (hk:k<p.code.length) (hn:yA p k=true):(lifeP p).sets[((k:Nat):Int).toNat]?.getD default=(tA p k).till.length:=by
 unfold lifeP;rw [(Br p _).2.2,Vb p p.code.length hk (aH _)];show (if yA p k=true then uT (tA p k) k (vX p k) else tA p k).sets[_]?.getD default=_;rw [aF hn];exact Iq (by rw [(xO hR k sN).sl];exact hk)
theorem Sz {l:List Int} {f:Int→Int} {k:Nat} (h:k<l.length):(l.map f).take (k+1)=(l.map f).take k++[f (l[((k:Nat):Int).toNat]?.getD default)]:=by
 rw [nI (by rw [aN];exact h),aE,aA h,fA];rfl
theorem Rv (l:Life):∀ (n:Nat) (v:Int),(n:Int)≤v→A8 (wB l n).at_ v=none
 | 0,v,_=>rfl
 | n+1,v,h=>by
   show A8 (Cp (wB l n).at_ n _) v=none;rw [xM,aD (by omega),Rv l n v sN]
theorem KP {p:PV} {s:Pl} (hs:s=xU p (lifeP p)) (h:1≤p.ins) (v:Int) (hv:(tA p 0).till.length≤v):A8 s.at_ v=none:=by
 have h1:(tA p 0).till.length=p.ins.toNat+1:=aJ;rw [h1] at hv;rw [hs];unfold xU;split
 · show A8 (Cp (wB (lifeP p) p.ins.toNat).at_ p.ins _) v=none;rw [xM,aD (by omega),Rv _ _ v sN]
 exact Rv _ _ v sN
section
attribute [local irreducible] lifeP sV sP least
theorem YW (G:A3) (p:PV) (ac ao:Option Addr) (cc co:Nat) (hc:Arr G ac p.code) (ho:Arr G ao p.outs) (h1:p.code.length≤1099511627776) (h2:p.outs.length≤1099511627776) (hR:sP p=true) :
 Does Tryz.prog 41 [.agg (H8 p ac cc ao co)] G [] (fun v G' Ho =>
  ∃ bc bo dc do_ j1 j2,v=.tuple #[.agg #[.int .i64 (sU p).ins,.int .i64 (sU p).regs,.slice bc (sU p).code.length dc,.slice bo (sU p).outs.length do_],.int .i64 0]∧
   A4 bc dc (sU p).code j1∧A4 bo do_ (sU p).outs j2∧Ho=[(0,bc.map (·.block),Row 91 (sU p).code j1),(1,bo.map (·.block),Row 3 (sU p).outs j2)]∧G'=G):=by
 obtain ⟨r1,r2,r3,r4,r5,r6,r7,r8⟩:=sT hR;have hlok:=QF hR;obtain ⟨k1,k2,k3,k4,k5,k6,k7,k8,k9,k10,k11⟩:=hlok;refine D0 Tryz.func41 Tryz.ntmps41 fun w=>?_;refine aI 2 [] ?_;refine dV 0 fun b1=>?_;refine aO 1 U T.zero26 fun b2=>?_;refine aL 6 [0] ?_;refine bV 2 U (c81 _ _ _ _ _ _ sO sO sN sN hR) fun v1 G1 Ho1 hle1 hp=>?_;obtain ⟨lu1,lnb1,lnc1,lnj1,lx1,ly1,lz1,ln1,loo1,lod1,loj1,lo1,ld1,lj1,rfl,hln1,hlx1,hly1,hlz1,hlo1,hlt1,rfl,rfl⟩:=hp;refine aL 19 [0] ?_;refine Wl.makeMap (κ:=Int) 9 U fun b3=>?_;refine aQ (bP (cs:=[_,_]) T.st140 U U U) ?_;refine dV 10 fun b4=>?_;refine bB 12 [0] ?_;refine QT 9 11 U U ?_;refine eJ 12 (Row 4 ([]:List Bool) []) ?_;refine fT (ι:=Nat×Pl×(Option Addr×Nat×List Value)) (fun (v,s,(a,c,j))=>([(30,.int .i64 (v:Int)),(29,.int .i64 p.ins),(6,.pointer (some (Addr.mk b4 0 none))),(4,.pointer (some (Addr.mk lu1 0 none))),(3,.int .i64 0),(2,.pointer (some ⟨b2,0,none⟩)),(1,.pointer (some ⟨b1,0,none⟩))],[(10,some b4,.cells #[.map (some b3),.slice a s.free.length c] 140),(11,some b3,B0 s.at_),(12,a.map (·.block),Row 4 s.free j),(2,some lu1,.cells #[.int .i64 p.ins,.int .i64 p.regs,.slice ac p.code.length cc,.slice ao p.outs.length co,.slice lnb1 (List.length (sV p)) lnc1,.slice (some (Addr.mk lx1 0 none)) (List.length (Life.a (lifeP p))) ln1,.slice (some (Addr.mk ly1 0 none)) (List.length (Life.b (lifeP p))) ln1,.slice (some (Addr.mk lz1 0 none)) (List.length (Life.sets (lifeP p))) ln1,.slice loo1 (List.length (Life.outs (lifeP p))) lod1,.slice lo1 (List.length (Life.till (lifeP p))) ld1] 143),(3,Option.map (fun x=>Go.Addr.block x) lnb1,Row (α:=Bool) 4 (sV p) (lnj1)),(4,some lx1,Row (α:=Int) 3 (Life.a (lifeP p)) ([])),(5,some ly1,Row (α:=Int) 3 (Life.b (lifeP p)) ([])),(6,some lz1,Row (α:=Int) 3 (Life.sets (lifeP p)) ([])),(7,Option.map (fun x=>Go.Addr.block x) loo1,Row (α:=Int) 3 (Life.outs (lifeP p)) (loj1)),(8,Option.map (fun x=>Go.Addr.block x) lo1,Row (α:=Int) 3 (Life.till (lifeP p)) (lj1)),(1,some b2,.cells #[.int .i64 0,.int .i64 0,.slice none 0 0,.slice none 0 0] 26),(0,some b1,.cells (H8 p ac cc ao co) 26)])) (fun (v,s,(a,c,j))=>(v:Int)≤p.ins∧s=wB (lifeP p) v∧A4 a c s.free j) (fun (v,s,(a,c,j))=>p.ins.toNat - v) ((0,⟨[],[]⟩,(none,0,[]))) (⟨by show (0:Int)≤_;omega,U,eG⟩) ⟨U,U,U,U,U,U,U,F9⟩ ⟨U,U,U,U,U,U,U,U,U,U,U,U,F9⟩ fun ⟨v,s,(a,c,j)⟩=>fun hk=>?_;obtain ⟨hv1,hs,hoa⟩:=hk;have hsl:s.free.length=v:=by rw [hs];exact Au _ v
 by_cases hvi:(v:Int)<p.ins
 · refine aI 25 [1,2] ?_;refine iE (α:=Int) T.sl24 ?_;refine nA 8 0 T.one3 ?_;refine bV 10 U (c82 _ s _ _ _ _ _ _ _ hoa sN) fun v2 G2 Ho2 hle2 hp=>?_;obtain ⟨pa2,pc2,pj2,rfl,hpo2,rfl,rfl⟩:=hp;refine aS 7 [] ?_;refine cK ((v+1,Du s v ((lifeP p).till[(v:Int).toNat]?.getD default),(pa2,pc2,pj2))) ?_ ?_
   · exact ⟨by omega,by rw [hs];rfl,hpo2⟩
   show p.ins.toNat - (v+1)<p.ins.toNat - v;omega
 have hve:v=p.ins.toNat:=sN;refine bI 12 [0] ?_;refine pI (ι:=Pl×(Option Addr×Nat×List Value)) (fun (s0,(a0,c0,j0))=>([(6,.pointer (some (Addr.mk b4 0 none))),(4,.pointer (some (Addr.mk lu1 0 none))),(3,.int .i64 0),(2,.pointer (some ⟨b2,0,none⟩)),(1,.pointer (some ⟨b1,0,none⟩))],[(10,some b4,.cells #[.map (some b3),.slice a0 s0.free.length c0] 140),(11,some b3,B0 s0.at_),(12,a0.map (·.block),Row 4 s0.free j0),(2,some lu1,.cells #[.int .i64 p.ins,.int .i64 p.regs,.slice ac p.code.length cc,.slice ao p.outs.length co,.slice lnb1 (List.length (sV p)) lnc1,.slice (some (Addr.mk lx1 0 none)) (List.length (Life.a (lifeP p))) ln1,.slice (some (Addr.mk ly1 0 none)) (List.length (Life.b (lifeP p))) ln1,.slice (some (Addr.mk lz1 0 none)) (List.length (Life.sets (lifeP p))) ln1,.slice loo1 (List.length (Life.outs (lifeP p))) lod1,.slice lo1 (List.length (Life.till (lifeP p))) ld1] 143),(3,Option.map (fun x=>Go.Addr.block x) lnb1,Row (α:=Bool) 4 (sV p) (lnj1)),(4,some lx1,Row (α:=Int) 3 (Life.a (lifeP p)) ([])),(5,some ly1,Row (α:=Int) 3 (Life.b (lifeP p)) ([])),(6,some lz1,Row (α:=Int) 3 (Life.sets (lifeP p)) ([])),(7,Option.map (fun x=>Go.Addr.block x) loo1,Row (α:=Int) 3 (Life.outs (lifeP p)) (loj1)),(8,Option.map (fun x=>Go.Addr.block x) lo1,Row (α:=Int) 3 (Life.till (lifeP p)) (lj1)),(1,some b2,.cells #[.int .i64 0,.int .i64 0,.slice none 0 0,.slice none 0 0] 26),(0,some b1,.cells (H8 p ac cc ao co) 26)])) (fun (s0,(a0,c0,j0))=>s0=xU p (lifeP p)∧A4 a0 c0 s0.free j0) ?_ fun ⟨s0,(a0,c0,j0)⟩=>fun (hk:s0=xU p (lifeP p)∧A4 a0 c0 s0.free j0)=>?_
 · refine dJ ?_;refine dE [0,1,8,7,6,5,4,3,2,12,11,10] [] T.mixed [[0],[1],[2],[3,2],[4],[5,0]] ?_;refine fJ (α:=Int) 6 T.sl24 ?_;refine dW 7 [0,8] U (fF 8 0 T.one3 U U sO sN U U) ?_;refine dK [[8]] ?_;refine dG ?_;refine cN ?_;refine cW (fun hc1=>?_) fun hc1=>?_;refine dE [0,1,8,7,6,5,4,3,2,12,11,10] [(12,11),(11,11),(10,11)] T.mixed [[0],[1],[2,0],[3],[4],[5],[6,2],[7],[8,0]] ?_;refine fJ (α:=Int) 9 T.sl24 ?_;refine dW 10 [0,8] U (fF 8 0 T.one3 U U sO sN U U) ?_;refine bQ 11 ?_;refine bV 10 U (c82 _ s _ _ _ _ _ _ _ hoa sN) fun v2 G2 Ho2 hle2 hp=>?_;obtain ⟨pa2,pc2,pj2,rfl,hpo2,rfl,rfl⟩:=hp;refine fD ?_;rotate_left;refine kI ?_;rotate_left
   · refine mM ((Du s p.ins ((lifeP p).till[p.ins.toNat]?.getD default),(pa2,pc2,pj2))) ?_;exact ⟨by rw [hs,hve];exact (aF (by omega)).symm,hpo2⟩
   refine mM ((s,(a,c,j))) ?_;exact ⟨by rw [hs,hve];exact (aD (by omega)).symm,hoa⟩
 obtain ⟨hs0,hoa0⟩:=hk;have hl0:=Gg r1 (lifeP p);rw [←hs0] at hl0;obtain ⟨hp0,hf1,hf2⟩:=hl0;refine dJ ?_;refine dE [0,1,8,7,6,5,4,3,2,12,11,10] [] T.mixed [[0],[1,0],[2],[3,0],[4],[5],[6],[7,10],[8]] ?_;refine dW 9 [] U (Qy.max U U) ?_;refine dW 10 [] U (bP (cs:=[_,_,_,_]) T.st26 U U U) ?_;refine bQ 11 ?_;refine aO 13 U T.zero26 fun b5=>?_;refine cS 12 ?_;refine aC 1 [13] ?_;refine fD ?_;refine lS 11 [0] ?_;refine qU 13 (.cells #[.int .i64 p.ins,.int .i64 (sZ p 0).regs,.slice none 0 0,.slice none 0 0] 26) U (by rw [show (sZ p 0).regs=(if p.ins<(s0.free.length:Int) then (s0.free.length:Int) else p.ins) from by show max p.ins ((xU p (lifeP p)).free.length:Int)=_;rw [←hs0];split <;> omega]) ?_;refine eJ 14 (Row 91 ([]:List Sl.Instr) []) ?_;refine fT (ι:=Nat×PkS×(Option Addr×Nat×List Value)×(Option Addr×Nat×List Value)) (fun (k,x,(oa,oc,oj),(a,c,j))=>([(79,.int .i64 (k:Int)),(78,.int .i64 (↑p.code.length:Int)),(77,.slice ac p.code.length cc),(8,.pointer (some (Addr.mk b5 0 none))),(6,.pointer (some (Addr.mk b4 0 none))),(4,.pointer (some (Addr.mk lu1 0 none))),(3,.int .i64 0),(2,.pointer (some ⟨b2,0,none⟩))],[(10,some b4,.cells #[.map (some b3),.slice a x.s.free.length c] 140),(11,some b3,B0 x.s.at_),(12,a.map (·.block),Row 4 x.s.free j),(13,some b5,.cells #[.int .i64 p.ins,.int .i64 x.regs,.slice oa x.code.length oc,.slice none 0 0] 26),(14,oa.map (·.block),Row 91 x.code oj),(2,some lu1,.cells #[.int .i64 p.ins,.int .i64 p.regs,.slice ac p.code.length cc,.slice ao p.outs.length co,.slice lnb1 (List.length (sV p)) lnc1,.slice (some (Addr.mk lx1 0 none)) (List.length (Life.a (lifeP p))) ln1,.slice (some (Addr.mk ly1 0 none)) (List.length (Life.b (lifeP p))) ln1,.slice (some (Addr.mk lz1 0 none)) (List.length (Life.sets (lifeP p))) ln1,.slice loo1 (List.length (Life.outs (lifeP p))) lod1,.slice lo1 (List.length (Life.till (lifeP p))) ld1] 143),(3,Option.map (fun x=>Go.Addr.block x) lnb1,Row (α:=Bool) 4 (sV p) (lnj1)),(4,some lx1,Row (α:=Int) 3 (Life.a (lifeP p)) ([])),(5,some ly1,Row (α:=Int) 3 (Life.b (lifeP p)) ([])),(6,some lz1,Row (α:=Int) 3 (Life.sets (lifeP p)) ([])),(7,Option.map (fun x=>Go.Addr.block x) loo1,Row (α:=Int) 3 (Life.outs (lifeP p)) (loj1)),(8,Option.map (fun x=>Go.Addr.block x) lo1,Row (α:=Int) 3 (Life.till (lifeP p)) (lj1)),(1,some b2,.cells #[.int .i64 0,.int .i64 0,.slice none 0 0,.slice none 0 0] 26),(0,some b1,.cells (H8 p ac cc ao co) 26)])) (fun (k,x,(oa,oc,oj),(a,c,j))=>k≤p.code.length∧x=sZ p k∧A4 oa oc x.code oj∧A4 a c x.s.free j∧(∀ v:Int,(tA p k).till.length≤v→A8 x.s.at_ v=none)) (fun (k,x,(oa,oc,oj),(a,c,j))=>p.code.length - k) ((0,⟨s0,(sZ p 0).regs,[]⟩,(none,0,[]),(a0,c0,j0))) (⟨aM _,by rw [hs0];rfl,eG,hoa0,KP hs0 r1⟩) ⟨U,U,U,U,U,U,U,U,F9⟩ ⟨U,U,U,U,U,U,U,U,U,U,U,U,U,U,F9⟩ fun ⟨k,x,(oa,oc,oj),(a,c,j)⟩=>fun hk=>?_;obtain ⟨hkc0,hx,hoc,hof,hkeys⟩:=hk;have hxo:=HE r1 k;have hxl:=BS r1 k;rw [←hx] at hxo hxl;obtain ⟨hxl1,hxl2⟩:=hxl;rcases aK k p.code.length with hkc | hkc
 · have hm:=vZ hR hkc;unfold vX at hm;have hnl:(sV p).length=p.code.length:=BZ p;have hvA:=k8 _ (get_mem (r:=(k:Int)) (l:=(lifeP p).a) sN);have hvB:=k9 _ (get_mem (r:=(k:Int)) (l:=(lifeP p).b) sN);refine aI 14 [1] ?_;refine fR (α:=Sl.Instr) T.sl23 ?_;refine lL T.agg91 ?_;refine aO 15 U T.zero91 fun b6=>?_;refine aL 12 [15,2] ?_;refine iE (α:=Bool) T.sl138 ?_;refine nA 3 0 T.one4 ?_;refine bB 3 [] ?_;refine lJ U (fun hc1=>?_) fun hc1=>?_;refine bE 8 [] ?_;rotate_left;refine aI 5 [15] ?_;refine bV 16 U (IT _ _) fun v2 G2 Ho2 hle2 hp=>?_;obtain ⟨ad2,cd2,junk2,rfl,hoa2,rfl,rfl⟩:=hp;refine bB 6 [] ?_;refine dE [0,1,8,7,6,5,4,3,2,14,13,12,11,10,15,17] [(15,13)] T.mixed [[0],[1],[2],[3,10],[4],[5],[6],[7,2],[8]] ?_;refine fJ (α:=Int) 9 T.sl24 ?_;refine dW 10 [0,4] U (fF 4 0 T.one3 U U sO sN U U) ?_;refine dW 11 [11] U (kF 11 T.mp137 U U U) ?_;refine dK [[12]] ?_;refine bQ 13 ?_;refine aC 1 [15] ?_;refine fD ?_;refine cN ?_;rotate_left
   · have hn:¬yA p k=true:=by unfold yA;simpa using hc1
     refine cK ((k+1,x,(oa,oc,oj),(a,c,j))) ?_ ?_
     · refine ⟨hkc,by rw [hx];exact (aD hn).symm,hoc,hof,fun v hv=>hkeys v ?_⟩;have e:tA p (k+1)=tA p k:=aD hn;rw [e] at hv;exact hv
     show p.code.length - (k+1)<p.code.length - k;omega
   have hn:yA p k=true:=by unfold yA;simpa using hc1
   refine pI (ι:=Int) (fun v=>([(4,.pointer (some ⟨lu1,0,none⟩)),(77,.slice ac p.code.length cc),(78,.int .i64 (p.code.length:Int)),(79,.int .i64 (k:Int)),(9,.int .i64 (↑k:Int)),(10,.pointer (some (Addr.mk b6 0 none))),(8,.pointer (some (Addr.mk b5 0 none))),(6,.pointer (some (Addr.mk b4 0 none))),(3,.int .i64 0),(2,.pointer (some ⟨b2,0,none⟩))],[(15,some b6,.cells #[.int .i64 (p.code[(k:Int).toNat]?.getD default).op,.int .i64 (p.code[(k:Int).toNat]?.getD default).to,.int .i64 (stand x.s ((lifeP p).a[(k:Int).toNat]?.getD default)),.int .i64 v,.int .i64 (p.code[(k:Int).toNat]?.getD default).c] 91),(17,Option.map (fun x=>Go.Addr.block x) ad2,Row (α:=Int) 3 (tC (Option.getD p.code[Int.toNat (↑k:Int)]? default)) (junk2)),(10,some b4,.cells #[Go.Value.map (some b3),.slice a (List.length (Pl.free (PkS.s x))) c] 140),(11,some b3,Go.Sl.B0 (κ:=Int) (Pl.at_ (PkS.s x))),(12,Option.map (fun x=>Go.Addr.block x) a,Row (α:=Bool) 4 (Pl.free (PkS.s x)) (j)),(13,some b5,.cells #[.int .i64 p.ins,.int .i64 (PkS.regs x),.slice oa (List.length (PkS.code x)) oc,.slice none 0 0] 26),(14,Option.map (fun x=>Go.Addr.block x) oa,Row (α:=Go.Sl.Instr) 91 (PkS.code x) (oj)),(2,some lu1,.cells #[.int .i64 p.ins,.int .i64 p.regs,.slice ac p.code.length cc,.slice ao p.outs.length co,.slice lnb1 (List.length (sV p)) lnc1,.slice (some (Addr.mk lx1 0 none)) (List.length (Life.a (lifeP p))) ln1,.slice (some (Addr.mk ly1 0 none)) (List.length (Life.b (lifeP p))) ln1,.slice (some (Addr.mk lz1 0 none)) (List.length (Life.sets (lifeP p))) ln1,.slice loo1 (List.length (Life.outs (lifeP p))) lod1,.slice lo1 (List.length (Life.till (lifeP p))) ld1] 143),(3,Option.map (fun x=>Go.Addr.block x) lnb1,Row (α:=Bool) 4 (sV p) (lnj1)),(4,some lx1,Row (α:=Int) 3 (Life.a (lifeP p)) ([])),(5,some ly1,Row (α:=Int) 3 (Life.b (lifeP p)) ([])),(6,some lz1,Row (α:=Int) 3 (Life.sets (lifeP p)) ([])),(7,Option.map (fun x=>Go.Addr.block x) loo1,Row (α:=Int) 3 (Life.outs (lifeP p)) (loj1)),(8,Option.map (fun x=>Go.Addr.block x) lo1,Row (α:=Int) 3 (Life.till (lifeP p)) (lj1)),(1,some b2,.cells #[.int .i64 0,.int .i64 0,.slice none 0 0,.slice none 0 0] 26),(0,some b1,.cells (H8 p ac cc ao co) 26)])) (fun v=>v=if 1<(tC (p.code[(k:Int).toNat]?.getD default)).length then stand x.s ((lifeP p).b[(k:Int).toNat]?.getD default) else (p.code[(k:Int).toNat]?.getD default).b) ?_ fun v=>fun (hk:v=if 1<(tC (p.code[(k:Int).toNat]?.getD default)).length then stand x.s ((lifeP p).b[(k:Int).toNat]?.getD default) else (p.code[(k:Int).toNat]?.getD default).b)=>?_
   · refine bI 5 [] ?_;refine cW (fun hc2=>?_) fun hc2=>?_;refine dE [0,1,8,7,6,5,4,3,2,14,13,12,11,10,17,15] [(15,13)] T.mixed [[0],[1],[2],[3,10],[4],[5],[6],[7,2],[8]] ?_;refine fJ (α:=Int) 9 T.sl24 ?_;refine dW 10 [0,5] U (fF 5 0 T.one3 U U sO sN U U) ?_;refine dW 11 [11] U (kF 11 T.mp137 U U U) ?_;refine dK [[12]] ?_;refine bQ 13 ?_;refine aC 1 [15] ?_;refine fD ?_;rotate_left;refine kI ?_;rotate_left
     · refine mM (stand x.s ((lifeP p).b[(k:Int).toNat]?.getD default)) ?_;exact (aF (by omega)).symm
     refine mM ((p.code[(k:Int).toNat]?.getD default).b) ?_;exact (aD (by omega)).symm
   have hv9:=hk;refine bI 2 [] ?_;refine dE [0,1,8,7,6,5,4,3,2,14,13,12,11,10,17,15] [] T.mixed [[0],[1],[2],[3,2],[4]] ?_;refine fJ (α:=Int) 5 T.sl24 ?_;refine dW 6 [0,4] U (fF 4 0 T.one3 U U sO sN U U) ?_;refine dK [[7],[8],[9],[10,2],[11]] ?_;refine fJ (α:=Int) 12 T.sl24 ?_;refine dW 13 [0,5] U (fF 5 0 T.one3 U U sO sN U U) ?_;refine dW 14 [] U (Ky (cs:=[_,_]) T.ar145 U U U) ?_;refine dK [[15]] ?_;refine dG ?_;refine lS 2 [] ?_;refine gX (ι:=Nat×Pl) (fun (m,s1)=>([(138,.int .i64 (m:Int)),(77,.slice ac p.code.length cc),(78,.int .i64 (p.code.length:Int)),(79,.int .i64 (k:Int)),(137,.agg #[.int .i64 (Option.getD (Life.a (lifeP p))[Int.toNat (↑k:Int)]? default),.int .i64 (Option.getD (Life.b (lifeP p))[Int.toNat (↑k:Int)]? default)]),(4,.pointer (some (Addr.mk lu1 0 none))),(9,.int .i64 (↑k:Int)),(10,.pointer (some (Addr.mk b6 0 none))),(8,.pointer (some (Addr.mk b5 0 none))),(6,.pointer (some (Addr.mk b4 0 none))),(3,.int .i64 0),(2,.pointer (some ⟨b2,0,none⟩))],[(10,some b4,.cells #[.map (some b3),.slice a s1.free.length c] 140),(11,some b3,B0 s1.at_),(12,a.map (·.block),Row 4 s1.free j),(15,some b6,.cells #[.int .i64 (Instr.op (Option.getD p.code[Int.toNat (↑k:Int)]? default)),.int .i64 (Instr.to (Option.getD p.code[Int.toNat (↑k:Int)]? default)),.int .i64 (stand (PkS.s x) (Option.getD (Life.a (lifeP p))[Int.toNat (↑k:Int)]? default)),.int .i64 v,.int .i64 (Instr.c (Option.getD p.code[Int.toNat (↑k:Int)]? default))] 91),(17,Option.map (fun x=>Go.Addr.block x) ad2,Row (α:=Int) 3 (tC (Option.getD p.code[Int.toNat (↑k:Int)]? default)) (junk2)),(13,some b5,.cells #[.int .i64 p.ins,.int .i64 (PkS.regs x),.slice oa (List.length (PkS.code x)) oc,.slice none 0 0] 26),(14,Option.map (fun x=>Go.Addr.block x) oa,Row (α:=Go.Sl.Instr) 91 (PkS.code x) (oj)),(2,some lu1,.cells #[.int .i64 p.ins,.int .i64 p.regs,.slice ac p.code.length cc,.slice ao p.outs.length co,.slice lnb1 (List.length (sV p)) lnc1,.slice (some (Addr.mk lx1 0 none)) (List.length (Life.a (lifeP p))) ln1,.slice (some (Addr.mk ly1 0 none)) (List.length (Life.b (lifeP p))) ln1,.slice (some (Addr.mk lz1 0 none)) (List.length (Life.sets (lifeP p))) ln1,.slice loo1 (List.length (Life.outs (lifeP p))) lod1,.slice lo1 (List.length (Life.till (lifeP p))) ld1] 143),(3,Option.map (fun x=>Go.Addr.block x) lnb1,Row (α:=Bool) 4 (sV p) (lnj1)),(4,some lx1,Row (α:=Int) 3 (Life.a (lifeP p)) ([])),(5,some ly1,Row (α:=Int) 3 (Life.b (lifeP p)) ([])),(6,some lz1,Row (α:=Int) 3 (Life.sets (lifeP p)) ([])),(7,Option.map (fun x=>Go.Addr.block x) loo1,Row (α:=Int) 3 (Life.outs (lifeP p)) (loj1)),(8,Option.map (fun x=>Go.Addr.block x) lo1,Row (α:=Int) 3 (Life.till (lifeP p)) (lj1)),(1,some b2,.cells #[.int .i64 0,.int .i64 0,.slice none 0 0,.slice none 0 0] 26),(0,some b1,.cells (H8 p ac cc ao co) 26)])) (fun (m,s1)=>m≤2∧s1=VK (lifeP p) k x.s m∧A4 a c s1.free j) (fun (m,s1)=>2 - m) ((0,x.s)) (⟨aM _,U,hof⟩) fun ⟨m,s1⟩=>fun hk=>?_;obtain ⟨hm2,hs1,hof1⟩:=hk;by_cases hm0:m=0
   · subst hm0;have hs1:s1=x.s:=hs1;subst hs1;have hst:=hxo.ab ((lifeP p).a[(k:Int).toNat]?.getD default);unfold stand at hst;refine aI 13 [1] ?_;refine aQ (Va (i:=0) WW pk3 size3 U U sY U) ?_;refine aL 10 [2] ?_;refine iE (α:=Int) T.sl24 ?_;refine nA 8 0 T.one3 ?_;refine bB 4 [] ?_;refine cW (fun hc2=>?_) fun hc2=>?_;refine dE [0,1,8,7,6,5,4,3,2,14,13,17,15,12,11,10] [(10,11),(12,11),(15,11),(17,11),(13,11),(14,11),(2,11),(3,11),(4,11),(5,11),(6,11),(7,11),(8,11),(1,11),(0,11)] T.mixed [[0],[1],[2],[3,10],[4],[5],[6],[7,10],[8]] ?_;refine dW 9 [11] U (kF 11 T.mp137 U U U) ?_;refine fJ (α:=Bool) 10 T.sl138 ?_;refine bQ 11 ?_;refine dC (z:=_) 12 T.size4 U U U sO sN U fun ho1=>?_;refine fD ?_;refine eE 6 [] ?_;rotate_left;refine bE 7 [] ?_;rotate_left
     · refine gC 10 (.cells #[.map (some b3),.slice a (x.s.free.set ((A8 x.s.at_ ((lifeP p).a[(k:Int).toNat]?.getD default)).getD 0).toNat true).length c] 140) U Dy ?_;refine cK ((0+1,⟨x.s.at_,x.s.free.set ((A8 x.s.at_ ((lifeP p).a[(k:Int).toNat]?.getD default)).getD 0).toNat true⟩)) ?_ ?_
       · refine ⟨by omega,?_,by assumption⟩;exact (aF sO).symm
       exact pW 1
     refine cK ((0+1,x.s)) ?_ ?_
     · refine ⟨by omega,?_,hof1⟩;exact (aD sO).symm
     exact pW 1
   by_cases hm1:m=1
   · subst hm1;have hs1:s1=vC (lifeP p) k x.s ((lifeP p).a[(k:Int).toNat]?.getD default):=hs1;have hst:=(Av (l:=lifeP p) (k:=k) (v:=((lifeP p).a[(k:Int).toNat]?.getD default)) hxo).ab ((lifeP p).b[(k:Int).toNat]?.getD default);rw [←hs1] at hst;unfold stand at hst;refine aI 13 [1] ?_;refine aQ (Va (i:=1) WW pk3 size3 U U sY U) ?_;refine aL 10 [2] ?_;refine iE (α:=Int) T.sl24 ?_;refine nA 8 0 T.one3 ?_;refine bB 4 [] ?_;refine cW (fun hc2=>?_) fun hc2=>?_;refine dE [0,1,8,7,6,5,4,3,2,14,13,17,15,12,11,10] [(10,11),(12,11),(15,11),(17,11),(13,11),(14,11),(2,11),(3,11),(4,11),(5,11),(6,11),(7,11),(8,11),(1,11),(0,11)] T.mixed [[0],[1],[2],[3,10],[4],[5],[6],[7,10],[8]] ?_;refine dW 9 [11] U (kF 11 T.mp137 U U U) ?_;refine fJ (α:=Bool) 10 T.sl138 ?_;refine bQ 11 ?_;refine dC (z:=_) 12 T.size4 U U U sO sN U fun ho1=>?_;refine fD ?_;refine eE 6 [] ?_;rotate_left;refine bE 7 [] ?_;rotate_left
     · refine gC 10 (.cells #[.map (some b3),.slice a (s1.free.set ((A8 s1.at_ ((lifeP p).b[(k:Int).toNat]?.getD default)).getD 0).toNat true).length c] 140) U Dy ?_;refine cK ((1+1,⟨s1.at_,s1.free.set ((A8 s1.at_ ((lifeP p).b[(k:Int).toNat]?.getD default)).getD 0).toNat true⟩)) ?_ ?_
       · refine ⟨by omega,?_,by assumption⟩;show _=vC (lifeP p) k (vC (lifeP p) k x.s ((lifeP p).a[(k:Int).toNat]?.getD default)) ((lifeP p).b[(k:Int).toNat]?.getD default);rw [←hs1];exact (aF sO).symm
       exact pW 0
     refine cK ((1+1,s1)) ?_ ?_
     · refine ⟨by omega,?_,hof1⟩;show _=vC (lifeP p) k (vC (lifeP p) k x.s ((lifeP p).a[(k:Int).toNat]?.getD default)) ((lifeP p).b[(k:Int).toNat]?.getD default);rw [←hs1];exact (aD sO).symm
     exact pW 0
   have hm3:m=2:=sN;subst hm3;have hs1:s1=vC (lifeP p) k (vC (lifeP p) k x.s ((lifeP p).a[(k:Int).toNat]?.getD default)) ((lifeP p).b[(k:Int).toNat]?.getD default):=hs1;have hs1l:s1.free.length=x.s.free.length:=by rw [hs1,wN,wN]
   have hsets:(lifeP p).sets[(k:Int).toNat]?.getD default=(tA p k).till.length:=KO hR hkc hn;have hm9:A8 s1.at_ ((lifeP p).sets[(k:Int).toNat]?.getD default)=none:=by
    rw [hs1,Db,Db,hsets];exact hkeys _ (iM _)
   have hle:=Aa s1.free;refine aI 20 [0,2] ?_;refine iE (α:=Int) T.sl24 ?_;refine nA 6 0 T.one3 ?_;refine bV 10 U (c84 _ s1 _ _ _ _ _ _ hof1 sN hm9) fun v3 G3 Ho3 hle3 hp=>?_;obtain ⟨pa3,pc3,pj3,rfl,hpo3,rfl,rfl⟩:=hp;refine aL 9 [15,13,15] ?_;refine cZ (α:=Sl.Instr) 18 [⟨Go.Sl.Instr.op (Option.getD p.code[Int.toNat (↑k:Int)]? Inhabited.default),(↑(Go.Proofs.YtkdelpdbjfpgmaaGreatDoor.least (Go.Proofs.YtkdelpdbjfpgmaaGreatDoor.Pl.free s1)):Int),Go.Proofs.YtkdelpdbjfpgmaaGreatDoor.stand (Go.Proofs.YtkdelpdbjfpgmaaGreatDoor.PkS.s x) (Option.getD (Go.Proofs.YtkdelpdbjfpgmaaGreatDoor.Life.a (Go.Proofs.YtkdelpdbjfpgmaaGreatDoor.lifeP p))[Int.toNat (↑k:Int)]? Inhabited.default),v,Go.Sl.Instr.c (Option.getD p.code[Int.toNat (↑k:Int)]? Inhabited.default)⟩] U T.sl23 T.el91 U U U U U fun b7=>?_;refine kH (α:=Sl.Instr) 14 T.sl23 T.el91 (dT 18 U) fun a1 c1 junk1 ho1=>?_;refine aL 10 [13,13,15] ?_;refine aQ (Qy.max U U) ?_;refine aS 9 [13] ?_;have hst9:Im (lifeP p) x k (p.code[(k:Int).toNat]?.getD default)=⟨wA s1 ((lifeP p).sets[(k:Int).toNat]?.getD default),max x.regs ((least s1.free:Int)+1),x.code++[⟨(p.code[(k:Int).toNat]?.getD default).op,(least s1.free:Int),stand x.s ((lifeP p).a[(k:Int).toNat]?.getD default),v,(p.code[(k:Int).toNat]?.getD default).c⟩]⟩:=by
    unfold Im;simp only;rw [←hs1,←hv9]
   refine gC 13 (.cells #[.int .i64 p.ins,.int .i64 (max x.regs ((least s1.free:Int)+1)),.slice a1 (x.code++[(⟨(p.code[(k:Int).toNat]?.getD default).op,(least s1.free:Int),stand x.s ((lifeP p).a[(k:Int).toNat]?.getD default),v,(p.code[(k:Int).toNat]?.getD default).c⟩:Sl.Instr)]).length c1,.slice none 0 0] 26) U (by rw [show max x.regs ((least s1.free:Int)+1)=(if x.regs<(least s1.free:Int)+1 then (least s1.free:Int)+1 else x.regs) from Td];rfl) ?_;refine cK ((k+1,⟨wA s1 ((lifeP p).sets[(k:Int).toNat]?.getD default),max x.regs ((least s1.free:Int)+1),x.code++[⟨(p.code[(k:Int).toNat]?.getD default).op,(least s1.free:Int),stand x.s ((lifeP p).a[(k:Int).toNat]?.getD default),v,(p.code[(k:Int).toNat]?.getD default).c⟩]⟩,(a1,c1,junk1),(pa3,pc3,pj3))) ?_ ?_
   · refine ⟨hkc,?_,by assumption,hpo3,fun w hw=>?_⟩
     · show _=(if yA p k=true then Im (lifeP p) (sZ p k) k (vX p k) else sZ p k);rw [aF hn,←hx];exact hst9.symm
     have e:(tA p (k+1)).till.length=(tA p k).till.length+1:=by
      show (if yA p k=true then uT (tA p k) k (vX p k) else tA p k).till.length=_;rw [aF hn];exact Cm _ _ _
     rw [e] at hw;show A8 (Cp s1.at_ ((lifeP p).sets[(k:Int).toNat]?.getD default) _) w=none;rw [xM,aD (by rw [hsets];omega),hs1,Db,Db];exact hkeys w sN
   show p.code.length - (k+1)<p.code.length - k;omega
 have hke:k=p.code.length:=qM hkc0 hkc;subst hke;have hlo:=Dt p;refine bI 24 [0,2] ?_;refine eJ 20 (Row 3 ([]:List Int) []) ?_;refine fT (ι:=Nat×List Int×(Option Addr×Nat×List Value)) (fun (q,ol,(oo,od,ok))=>([(191,.int .i64 (q:Int)),(190,.int .i64 (↑(List.length (Life.outs (lifeP p))):Int)),(189,.slice loo1 (List.length (Life.outs (lifeP p))) lod1),(8,.pointer (some (Addr.mk b5 0 none))),(6,.pointer (some (Addr.mk b4 0 none))),(3,.int .i64 0),(2,.pointer (some ⟨b2,0,none⟩))],[(13,some b5,.cells #[.int .i64 p.ins,.int .i64 x.regs,.slice oa x.code.length oc,.slice oo ol.length od] 26),(20,oo.map (·.block),Row 3 ol ok),(10,some b4,.cells #[Go.Value.map (some b3),.slice a (List.length (Pl.free (PkS.s x))) c] 140),(11,some b3,Go.Sl.B0 (κ:=Int) (Pl.at_ (PkS.s x))),(12,Option.map (fun x=>Go.Addr.block x) a,Row (α:=Bool) 4 (Pl.free (PkS.s x)) (j)),(14,Option.map (fun x=>Go.Addr.block x) oa,Row (α:=Go.Sl.Instr) 91 (PkS.code x) (oj)),(2,some lu1,.cells #[.int .i64 p.ins,.int .i64 p.regs,.slice ac p.code.length cc,.slice ao p.outs.length co,.slice lnb1 (List.length (sV p)) lnc1,.slice (some (Addr.mk lx1 0 none)) (List.length (Life.a (lifeP p))) ln1,.slice (some (Addr.mk ly1 0 none)) (List.length (Life.b (lifeP p))) ln1,.slice (some (Addr.mk lz1 0 none)) (List.length (Life.sets (lifeP p))) ln1,.slice loo1 (List.length (Life.outs (lifeP p))) lod1,.slice lo1 (List.length (Life.till (lifeP p))) ld1] 143),(3,Option.map (fun x=>Go.Addr.block x) lnb1,Row (α:=Bool) 4 (sV p) (lnj1)),(4,some lx1,Row (α:=Int) 3 (Life.a (lifeP p)) ([])),(5,some ly1,Row (α:=Int) 3 (Life.b (lifeP p)) ([])),(6,some lz1,Row (α:=Int) 3 (Life.sets (lifeP p)) ([])),(7,Option.map (fun x=>Go.Addr.block x) loo1,Row (α:=Int) 3 (Life.outs (lifeP p)) (loj1)),(8,Option.map (fun x=>Go.Addr.block x) lo1,Row (α:=Int) 3 (Life.till (lifeP p)) (lj1)),(1,some b2,.cells #[.int .i64 0,.int .i64 0,.slice none 0 0,.slice none 0 0] 26),(0,some b1,.cells (H8 p ac cc ao co) 26)])) (fun (q,ol,(oo,od,ok))=>q≤p.outs.length∧ol=((lifeP p).outs.map (stand x.s)).take q∧A4 oo od ol ok) (fun (q,ol,(oo,od,ok))=>p.outs.length - q) ((0,[],(none,0,[]))) (⟨aM _,by rw [bR],eG⟩) ⟨U,U,U,U,U,U,U,F9⟩ ⟨U,U,U,U,U,U,U,U,U,U,U,U,U,U,U,F9⟩ fun ⟨q,ol,(oo,od,ok)⟩=>fun hk=>?_;obtain ⟨hq1,hol,hoo⟩:=hk;have hoq:ol.length=q:=by rw [hol,bG,aN];omega
 rcases aK q p.outs.length with hqc | hqc
 · refine aI 13 [1] ?_;refine iE (α:=Int) T.sl24 ?_;refine nA 7 0 T.one3 ?_;refine bB 3 [] ?_;refine dE [0,1,8,7,6,5,4,3,2,14,12,11,10,20,13] [(13,11),(20,9),(12,9),(14,9),(3,9),(4,9),(5,9),(6,9),(7,9),(8,9)] T.mixed [[0],[1,13],[2],[3],[4],[5,10],[6]] ?_;refine dW 7 [11] U (kF 11 T.mp137 U U U) ?_;refine bQ 8 ?_;refine cZ (α:=Int) 21 [(Option.getD (Go.Sl.A8 (Go.Proofs.YtkdelpdbjfpgmaaGreatDoor.Pl.at_ (Go.Proofs.YtkdelpdbjfpgmaaGreatDoor.PkS.s x)) (Option.getD (Go.Proofs.YtkdelpdbjfpgmaaGreatDoor.Life.outs (Go.Proofs.YtkdelpdbjfpgmaaGreatDoor.lifeP p))[Int.toNat (↑q:Int)]? Inhabited.default)) 0)] U T.sl24 T.el3 U U U U U fun b6=>?_;refine cS 9 ?_;refine kH (α:=Int) 20 T.sl24 T.el3 (dT 21 U) fun a1 c1 junk1 ho1=>?_;refine bC ?_;refine dK [[10]] ?_;refine bQ 11 ?_;refine aC 1 [13] ?_;refine fD ?_;refine eE 6 [] ?_;refine cK ((q+1,ol++[stand x.s ((lifeP p).outs[(q:Int).toNat]?.getD default)],(a1,c1,junk1))) ?_ ?_
   · exact ⟨hqc,by rw [Sz sN,hol],by assumption⟩
   show p.outs.length - (q+1)<p.outs.length - q;omega
 have hqe:q=p.outs.length:=qM hq1 hqc;subst hqe;rw [fH Iv] at hol;subst hol hx;refine bE 20 [0,13,1] ?_;refine Ar.retag 1 30 U U (Ar.retag 14 0 U U (Ar.retag 20 1 U U ?_));refine gZ (.inr U) (Ho:=Hp.only _ [0,1]) U (.agg 30 U U T.agg26) (.tmp U) (aV _ _) ?_;exact ⟨oa,oo,oc,od,oj,ok,U,hoc,hoo,U,U⟩
end
def me (ls:List (List Int)):Prop:=∀ z∈ls,z.length=(ls[0]?.getD []).length∧z.length≤20
instance (ls:List (List Int)):Decidable (me ls):=by unfold me;infer_instance
section
attribute [local irreducible] No pw uJ p2 xW tR tE sP me
end
theorem mf (G:A3) (a:Option Addr) (c:Nat) (xs:List Sl.Instr) (hx:Arr G a xs) (hl:xs.length≤1099511627776) :
 Does Tryz.prog 52 [.slice a xs.length c] G [] (fun v G' Ho=>∃ b d j,v=.slice b xs.length d∧A4 b d xs j∧Ho=[(0,b.map (·.block),Row 91 xs j)]∧G'=G):=by
 refine D0 Tryz.func52 Tryz.ntmps52 fun w=>?_;refine aI 9 [] ?_;refine aQ (jL T.sl23 U U) ?_;refine bB 2 [] ?_;refine cW (fun hc1=>?_) fun hc1=>?_;refine bE 7 [] ?_;rotate_left;refine aI 4 [] ?_;refine rG 0 U T.sl23 fun b1=>?_;refine aC 1 [] ?_;rotate_left
 · subst hc1;have hn:xs=[]:=by
    rcases hx.2 with h | ⟨b,o,h,_⟩
    · exact dO h
    cases h
   subst hn;refine Lc 0 (Row 91 ([]:List Sl.Instr) []) ?_;refine nP [0] ?_;exact ⟨none,0,[],U,eG,U,U⟩
 refine oW 0 (Row 91 ([]:List Sl.Instr) []) U U ?_;refine eH (α:=Sl.Instr) 0 U T.sl23 T.el91 U U U (fK tU) (lM sO) (by simp only [cE];omega) (by simp only [cE,maxLen];omega) fun a1 c1 junk1 ho1=>?_;refine aS 4 [] ?_;refine nP [0] ?_;exact ⟨_,_,_,U,ho1,U,U⟩
theorem c94 (G:A3) (p:PV) (ac ao:Option Addr) (cc co:Nat) (hc:Arr G ac p.code) (ho:Arr G ao p.outs) (h1:p.code.length≤1099511627776) (h2:p.outs.length≤1099511627776) :
 Does Tryz.prog 94 [.agg (H8 p ac cc ao co)] G [] (fun v G' Ho=>∃ bc bo dc do_ j1 j2,v=.agg #[.int .i64 p.ins,.int .i64 p.regs,.slice bc p.code.length dc,.slice bo p.outs.length do_]∧
  A4 bc dc p.code j1∧A4 bo do_ p.outs j2∧Ho=[(0,bc.map (·.block),Row 91 p.code j1),(1,bo.map (·.block),Row 3 p.outs j2)]∧G'=G):=by
 refine D0 Tryz.func94 Tryz.ntmps94 fun w=>?_;refine aI 2 [] ?_;refine dV 0 fun b1=>?_;refine aO 1 U T.zero26 fun b2=>?_;refine bB 3 [] ?_;refine dE [0,1] [(0,9),(0,7)] T.mixed [[0],[1,0],[3],[4,0]] ?_;refine bQ 2 ?_;refine bV 2 U (mf _ _ _ _ sO sN) fun v1 G1 Ho1 hle1 hp=>?_;obtain ⟨lb1,ld1,lj1,rfl,hlb1,rfl,rfl⟩:=hp;refine bC ?_;refine dK [[6]] ?_;refine bQ 5 ?_;refine bV 3 U (YR _ _ _ _ sO sN) fun v2 G2 Ho2 hle2 hp=>?_;obtain ⟨lb2,ld2,lj2,rfl,hlb2,rfl,rfl⟩:=hp;refine cS 7 ?_;refine aC 1 [0] ?_;refine bC ?_;refine dK [[8]] ?_;refine bQ 9 ?_;refine aC 1 [0] ?_;refine fD ?_;refine eE 8 [0,1] ?_;refine mK [2,3,1] sY (cH (.inr U) (Ho:=Hp.only _ [0,1]) U (.agg 2 U U T.agg26) (aV _ _) ?_);exact ⟨_,_,_,_,_,_,U,hlb1,hlb2,U,U⟩
theorem el (G:A3) (p:PV) (ac ao:Option Addr) (cc co:Nat) :
 Does Tryz.prog 45 [.agg (H8 p ac cc ao co)] G [] (fun v G' Ho =>
  ∃ b,v=.func (.func 93) #[] #[.pointer (some ⟨b,0,none⟩)]∧Ho=[]∧G' b=some (.cells [.int .i64 p.ins,.int .i64 p.regs,.slice ac p.code.length cc,.slice ao p.outs.length co].toArray 26)):=by
 refine D0 Tryz.func45 Tryz.ntmps45 fun w=>?_;refine aI 2 [] ?_;refine dV 0 fun b1=>?_;refine aL 5 [] ?_;refine aQ (gR U U) ?_;refine aS 4 [] ?_;refine pZ 0 U fun G' hle hb=>?_;refine cV ?_;exact ⟨_,U,U,hb⟩
def Rw (G:A3) (f:Nat) (p:PV) (ac ao:Option Addr) (cc co:Nat) (q:PV):Prop:=
 Does Tryz.prog f [.agg (H8 p ac cc ao co)] G [] (fun v G' Ho =>
  ∃ bc bo dc do_,v=.tuple #[.agg #[.int .i64 q.ins,.int .i64 q.regs,.slice bc q.code.length dc,.slice bo q.outs.length do_],.int .i64 0]∧Arr G' bc q.code∧Arr G' bo q.outs∧Ho=[])
theorem Mm {G:A3} {f:Nat} {p:PV} {ac ao:Option Addr} {cc co:Nat} {q:PV} (h:Does Tryz.prog f [.agg (H8 p ac cc ao co)] G [] (fun v G' Ho =>
 ∃ bc bo dc do_ j1 j2,v=.tuple #[.agg #[.int .i64 q.ins,.int .i64 q.regs,.slice bc q.code.length dc,.slice bo q.outs.length do_],.int .i64 0]∧
  A4 bc dc q.code j1∧A4 bo do_ q.outs j2∧Ho=[(0,bc.map (·.block),Row 91 q.code j1),(1,bo.map (·.block),Row 3 q.outs j2)]∧G'=G)):Rw G f p ac ao cc co q:=by
 refine (To (α:=Sl.Instr) (β:=Int) (E:=91) (E':=3) (q:=fun v a c xs b d ys=>v=.tuple #[.agg #[.int .i64 q.ins,.int .i64 q.regs,.slice a q.code.length c,.slice b q.outs.length d],.int .i64 0]∧xs=q.code∧ys=q.outs)
  (h.mono fun v G' Ho _ ⟨bc,bo,dc,do_,j1,j2,g1,g2,g3,g4,g5⟩=>⟨bc,dc,q.code,j1,bo,do_,q.outs,j2,⟨g1,U,U⟩,g2,g3,g4,g5⟩)).mono
  fun v G' Ho _ ⟨a,c,xs,b,d,ys,⟨g1,hx,hy⟩,h2,h3,h4⟩=>?_
 subst hx hy;exact ⟨a,b,c,d,g1,h2,h3,h4⟩
theorem mg (G:A3) (hT:TabOk G) (p:PV) (ac ao:Option Addr) (cc co:Nat) (hc:Arr G ac p.code) (ho:Arr G ao p.outs) (hR:sP p=true):Rw G 47 p ac ao cc co (zY p):=by
 obtain ⟨f1,f2,f3,f4,f5,f6,f7,f8⟩:=sT hR;exact Mm (lh G hT p ac ao cc co hc ho sN sN hR)
theorem mh (G:A3) (p:PV) (ac ao:Option Addr) (cc co:Nat) (hc:Arr G ac p.code) (ho:Arr G ao p.outs) (hR:sP p=true):Rw G 48 p ac ao cc co (xW p):=by
 obtain ⟨f1,f2,f3,f4,f5,f6,f7,f8⟩:=sT hR;exact Mm (li G p ac ao cc co hc ho sN sN hR)
theorem mi (G:A3) (p:PV) (ac ao:Option Addr) (cc co:Nat) (hc:Arr G ac p.code) (ho:Arr G ao p.outs) (hR:sP p=true):Rw G 49 p ac ao cc co (Aj p):=by
 obtain ⟨f1,f2,f3,f4,f5,f6,f7,f8⟩:=sT hR;exact Mm (lx G p ac ao cc co hc ho sN sN hR)
theorem QU (p:PV) (k:Nat):vL p (k+1)=vD k (vL p k):=rfl
section
attribute [local irreducible] tT zY xW Aj sU vL sX xJ zA sP uK
structure RP where
 name:ByteArray
 fn:Nat
instance:Inhabited RP:=⟨⟨ByteArray.empty,0⟩⟩
instance:A2 RP:=⟨2,fun x=>[.string x.name,.func (.func x.fn) #[] #[]],fun _=>rfl,fun _=>rfl⟩
structure PA where
 a:Option Addr
 b:Option Addr
 c:Nat
 d:Nat
 j:List Value
 k:List Value
def mj (x:NP) (y:PA):List Value:=[.string x.name,.agg #[.int .i64 x.p.ins,.int .i64 x.p.regs,.slice y.a x.p.code.length y.c,.slice y.b x.p.outs.length y.d]]
def eo (x:NP) (y:PA):Option Nat×Obj:=(y.a.map (·.block),Row 91 x.p.code y.j)
def ep (x:NP) (y:PA):Option Nat×Obj:=(y.b.map (·.block),Row 3 x.p.outs y.k)
def WX (x:NP) (y:PA):Prop:=A4 y.a y.c x.p.code y.j∧A4 y.b y.d x.p.outs y.k
theorem ml (G:A3) (p:PV) (ac ao:Option Addr) (cc co:Nat) (hc:Arr G ac p.code) (ho:Arr G ao p.outs) (h1:p.code.length≤1099511627776) (h2:p.outs.length≤1099511627776) :
 Does Tryz.prog 94 [.agg (H8 p ac cc ao co)] G [] (fun v G' Ho=>∃ bc bo dc do_,v=.agg #[.int .i64 p.ins,.int .i64 p.regs,.slice bc p.code.length dc,.slice bo p.outs.length do_]∧
  Arr G' bc p.code∧Arr G' bo p.outs∧Ho=[]):=by
 refine (To (α:=Sl.Instr) (β:=Int) (E:=91) (E':=3) (q:=fun v a c xs b d ys=>v=.agg #[.int .i64 p.ins,.int .i64 p.regs,.slice a p.code.length c,.slice b p.outs.length d]∧xs=p.code∧ys=p.outs)
  ((c94 G p ac ao cc co hc ho h1 h2).mono fun v G' Ho _ ⟨bc,bo,dc,do_,j1,j2,g1,g2,g3,g4,g5⟩=>⟨bc,dc,p.code,j1,bo,do_,p.outs,j2,⟨g1,U,U⟩,g2,g3,g4,g5⟩)).mono
  fun v G' Ho _ ⟨a,c,xs,b,d,ys,⟨g1,hx,hy⟩,h2,h3,h4⟩=>?_
 subst hx hy;exact ⟨a,b,c,d,g1,h2,h3,h4⟩
theorem QV (G:A3) (p:PV) (ac ao:Option Addr) (cc co:Nat) (hc:Arr G ac p.code) (ho:Arr G ao p.outs) (h1:p.code.length≤1099511627776) (h2:p.outs.length≤1099511627776) (hR:sP p=true) :
 Does Tryz.prog 56 [.agg (H8 p ac cc ao co)] G [] (fun v G' Ho=>v=.tuple #[.int .i64 (uK p).1,.int .i64 0]∧G'=G∧Ho=[]):=Nq G p ac ao cc co hc ho h1 h2 hR
def CQ:List RP:=[{ name:={ data:=#[102,111,108,100] },fn:=47 },{ name:={ data:=#[115,104,97,114,101] },fn:=48 },{ name:={ data:=#[100,101,97,100] },fn:=49 }]
theorem HL:[({ name:={ data:=#[102,111,108,100] },fn:=47 }:RP),{ name:={ data:=#[115,104,97,114,101] },fn:=48 },{ name:={ data:=#[100,101,97,100] },fn:=49 }]=CQ:=rfl
theorem VL:CQ.length=3:=rfl
theorem QW {m k:Nat} (hm:m<3) (hk:k % 3=m):(CQ[((m:Nat):Int).toNat]?.getD default).name=Rs k:=by
 rcases (show m=0∨m=1∨m=2 by omega) with rfl | rfl | rfl
 · unfold Rs;rw [aF hk];rfl
 · unfold Rs;rw [aD (by omega),aF hk];rfl
 unfold Rs;rw [aD (by omega),aD (by omega)];rfl
theorem YX {m:Nat} (hm:m<3):tO Tryz.prog (CQ[((m:Nat):Int).toNat]?.getD default).fn:=by
 rcases (show m=0∨m=1∨m=2 by omega) with rfl | rfl | rfl
 · exact T.fn47
 · exact T.fn48
 exact T.fn49
theorem QX {G:A3} (hT:TabOk G) {m k:Nat} (hm:m<3) (hk:k % 3=m) {p:PV} {ac ao:Option Addr} {cc co:Nat} (hc:Arr G ac p.code) (ho:Arr G ao p.outs) (hR:sP p=true) :
 Rw G (CQ[((m:Nat):Int).toNat]?.getD default).fn p ac ao cc co (vD k p):=by
 rcases (show m=0∨m=1∨m=2 by omega) with rfl | rfl | rfl
 · unfold vD;rw [aF hk];exact mg G hT p ac ao cc co hc ho hR
 · unfold vD;rw [aD (by omega),aF hk];exact mh G p ac ao cc co hc ho hR
 unfold vD;rw [aD (by omega),aD (by omega)];exact mi G p ac ao cc co hc ho hR
attribute [local irreducible] CQ vD Rs
def zOk (G:A3) (p z:PV) (k:Nat) (a1 a2:Option Addr):Prop:=z=vL p k∧Arr G a1 z.code∧Arr G a2 z.outs
theorem QY (G:A3) (hT:TabOk G) (p:PV) (ac ao:Option Addr) (cc co:Nat) (b:Nat) (hc:Arr G ac p.code) (ho:Arr G ao p.outs)
 (hb:G b=some (.cells [.int .i64 p.ins,.int .i64 p.regs,.slice ac p.code.length cc,.slice ao p.outs.length co].toArray 26)) (hR:sP p=true) :
 Ly Tryz.prog 93 [.pointer (some ⟨b,0,none⟩)] G mj eo ep WX (sX p):=by
 intro ι J inv stop ly i0 hi0 hY;obtain ⟨r1,r2,r3,r4,r5,r6,r7,r8⟩:=sT hR;have hrow:=Fx hb;refine D0 Tryz.func93 Tryz.ntmps93 fun w=>?_;refine Jd 1000 ?_;refine aI 3 [] ?_;refine aQ (gH T.agg26 U sO U) ?_;refine cI U (QV _ p _ _ _ _ sO sO sN sN hR) ?_;refine aL 18 [0] ?_;refine aQ (gH T.agg26 U sO U) ?_;refine bV 0 U (ml _ p _ _ _ _ sO sO sN sN) fun v1 G1 Ho1 hle1 hp=>?_;obtain ⟨na,no,nc,nd,rfl,hnc,hno,rfl⟩:=hp;replace hc:=hc.up hle1;replace ho:=ho.up hle1;refine aO 0 U T.zero26 fun b1=>?_;refine aL 5 [0] ?_;refine aQ (bP (cs:=[_,_]) T.st158 U U U) ?_;refine aQ (bP (cs:=[_,_]) T.st158 U U U) ?_;refine aQ (bP (cs:=[_,_]) T.st158 U U U) ?_;refine cZ (α:=RP) 1 [⟨_,_⟩,⟨_,_⟩,⟨_,_⟩] U T.sl159 T.el158 U U U U U fun b2=>?_;refine bB 10 [] ?_;refine qU 1 (Row 158 CQ []) U (by rw [HL]) ?_;refine iV 6 U (show _=Value.slice (some ⟨b2,0,none⟩) CQ.length 3 by rw [←HL]) ?_;have hr3:=VL;refine Us (ι:=Nat×A3×PV×(Option Addr×Nat×Option Addr×Nat)×ι) 1000 (fun (n,Gx,z,(a1,c1,a2,c2),s)=>([(23,.int .i64 (n:Int)),(6,.slice (some (Addr.mk b2 0 none)) (List.length CQ) 3),(5,.pointer (some ⟨b1,0,none⟩)),(0,.func (Go.Fn.yield ly) #[] #[])],[(0,some b1,.cells #[.int .i64 z.ins,.int .i64 z.regs,.slice a1 z.code.length c1,.slice a2 z.outs.length c2] 26),(1,some b2,Row (α:=RP) 158 (CQ) ([]))])) (fun (n,Gx,z,(a1,c1,a2,c2),s)=>J s) (fun (n,Gx,z,(a1,c1,a2,c2),s)=>Gx) (fun (n,Gx,z,(a1,c1,a2,c2),s)=>n≤xJ p+1∧(n=xJ p+1→xJ p=15)∧G.le Gx∧zOk Gx p z (3*n) a1 a2∧inv (3*n) s) (fun (n,Gx,z,(a1,c1,a2,c2),s)=>17 - n) ((0,G1,p,(na,nc,no,nd),i0)) (⟨aM _,fun h=>absurd h sN,hle1,⟨by rw [Nat.mul_zero];unfold vL;rfl,hnc,hno⟩,hi0⟩) U ⟨U,U,U,U,F9⟩ ⟨U,U,F9⟩ vU fun ⟨n,Gx,z,(a1,c1,a2,c2),s⟩=>fun hk=>?_;obtain ⟨hn1,hn2,hn3,hz,hinv⟩:=hk;have h15:=Xr p;have hlen:zA p=3*xJ p+3:=by unfold zA;rfl
 have hRz:sP z=true:=by rw [hz.1];exact wD hR _
 obtain ⟨z1,z2,z3,z4,z5,z6,z7,z8⟩:=sT hRz;obtain ⟨hz0,hzc,hzo⟩:=hz;rcases aK n 16 with hn16 | hn16
 · have hnl:n≤xJ p:=sN;refine aI 14 [1,0] ?_;refine aO 2 U T.zero26 fun b3=>?_;refine bB 12 [2] ?_;refine Us (ι:=Nat×A3×PV×(Option Addr×Nat×Option Addr×Nat)×ι) 1000 (fun (m,Gy,y,(d1,e1,d2,e2),s)=>([(28,.int .i64 (m:Int)),(6,.slice (some ⟨b2,0,none⟩) CQ.length 3),(27,.int .i64 (CQ.length:Int)),(26,.slice (some (Addr.mk b2 0 none)) (List.length CQ) 3),(7,.pointer (some (Addr.mk b3 0 none))),(23,.int .i64 (↑n:Int)),(5,.pointer (some ⟨b1,0,none⟩)),(0,.func (Go.Fn.yield ly) #[] #[])],[(0,some b1,.cells #[.int .i64 y.ins,.int .i64 y.regs,.slice d1 y.code.length e1,.slice d2 y.outs.length e2] 26),(2,some b3,.cells #[.int .i64 z.ins,.int .i64 z.regs,.slice a1 z.code.length c1,.slice a2 z.outs.length c2] 26),(1,some b2,Row (α:=RP) 158 (CQ) ([]))])) (fun (m,Gy,y,(d1,e1,d2,e2),s)=>J s) (fun (m,Gy,y,(d1,e1,d2,e2),s)=>Gy) (fun (m,Gy,y,(d1,e1,d2,e2),s)=>m≤3∧Gx.le Gy∧zOk Gy p y (3*n+m) d1 d2∧inv (3*n+m) s) (fun (m,Gy,y,(d1,e1,d2,e2),s)=>3 - m) ((0,Gx,z,(a1,c1,a2,c2),s)) (⟨aM _,bN _,⟨hz0,hzc,hzo⟩,hinv⟩) U ⟨U,U,U,U,U,U,U,U,F9⟩ ⟨U,U,U,F9⟩ vU fun ⟨m,Gy,y,(d1,e1,d2,e2),s⟩=>fun hk=>?_;obtain ⟨hm1,hm2,⟨hy0,hy1,hy2⟩,hinv2⟩:=hk;have hRy:sP y=true:=by rw [hy0];exact wD hR _
   obtain ⟨y1,y2,y3,y4,y5,y6,y7,y8⟩:=sT hRy;replace hzc:=hzc.up hm2;replace hzo:=hzo.up hm2;have hT2:TabOk Gy:=hT.up (aP hn3 hm2);rcases aK m 3 with hm3 | hm3
   · refine aI 13 [1] ?_;refine aQ (eC T.sl159 U U sN) ?_;refine aQ (sF (α:=RP) 1 T.agg158 U U ⟨by omega,by omega⟩) ?_;refine aO 3 U T.zero158 fun b4=>?_;refine aL 8 [3,3,0] ?_;obtain ⟨u,hu⟩:∃ u,u=vD (3*n+m) y:=⟨_,U⟩
     have hP:=QX hT2 hm3 (k:=3*n+m) sN (cc:=e1) (co:=e2) hy1 hy2 hRy;rw [←hu] at hP;refine fE (fst:=[]) (cap:=[]) 100 U (YX hm3) U U hP (sS F9) fun v9 G9 Ho9 hle9 hp=>?_;obtain ⟨qa,qb,qc,qd,rfl,hqA,hqB,rfl⟩:=hp;have hRu:sP u=true:=by rw [hu];exact Rt hRy _
     obtain ⟨u1,u2,u3,u4,u5,u6,u7,u8⟩:=sT hRu;refine bB 7 [0] ?_;refine dE [1,2,3,0] [(0,5),(3,5),(2,5),(1,5)] T.mixed [[0],[1],[2,3]] ?_;refine bQ 3 ?_;refine aC 1 [0] ?_;refine cS 4 ?_;refine bV 4 U (c94 _ _ _ _ _ _ sO sO sN sN) fun v2 G2 Ho2 hle2 hp=>?_;obtain ⟨ya2,yb2,yc2,yd2,yj2,yk2,rfl,hya2,hyb2,rfl,rfl⟩:=hp;refine cS 5 ?_;have hun:u=vL p (3*n+m+1):=by rw [hu,hy0,QU]
     have hxs:(sX p)[3*n+m]?=some ⟨(CQ[(m:Int).toNat]?.getD default).name,u⟩:=by rw [QW hm3 (k:=3*n+m) sN,hun];exact Ml p sN
     refine pS (A:=[(0,some b1,.cells #[.int .i64 u.ins,.int .i64 u.regs,.slice qa u.code.length qc,.slice qb u.outs.length qd] 26),(3,some b4,.cells (A2.enc (CQ[(m:Int).toNat]?.getD default)).toArray 158),(2,some b3,.cells #[.int .i64 z.ins,.int .i64 z.regs,.slice a1 z.code.length c1,.slice a2 z.outs.length c2] 26),(1,some b2,Row 158 CQ [])]) 1000 4 5 U U U U U U ⟨U,U,U,U,F9⟩ U U vU U
      ((hY (3*n+m) ⟨(CQ[((m:Nat):Int).toNat]?.getD default).name,u⟩ ⟨ya2,yb2,yc2,yd2,yj2,yk2⟩ s hxs ⟨hya2,hyb2⟩ hinv2).up (aP hn3 (aP hm2 hle9))) (fun vy Gv Hv hlv hp=>?_)
     obtain ⟨rfl,s',rfl,hp⟩:=hp;rcases hp with ⟨rfl,hinv'⟩ | ⟨rfl,hst⟩
     · refine bC ?_;refine dK [[6]] ?_;refine dG ?_;refine eE 9 [0] ?_;refine If ((m+1,_,u,(qa,qc,qb,qd),s')) ?_ ?_ U ⟨U,U,U,U,U,U,U,U,F9⟩ ⟨U,U,U,F9⟩ vU
       · exact ⟨by omega,aP hm2 hle9,⟨hun,hqA,hqB⟩,hinv'⟩
       show 3 - (m+1)<3 - m;omega
     refine bC ?_;refine dK [[6]] ?_;refine dG ?_;refine eE 13 [1] ?_;refine kE ?_;refine mT (k:=1000) (.inr U) U vU ⟨U,s',U,.inr hst⟩
   have hm:m=3:=sN;subst hm;refine aI 16 [0,2,0] ?_;refine cI U (kz _ _ _ _ _ _ _ _ _ _ _ sO sO sO sO sN sN sN sN) ?_;refine bB 2 [] ?_;refine cW (fun hc1=>?_) fun hc1=>?_;refine aI 9 [0] ?_;refine bV 3 U (YW _ _ _ _ _ _ sO sO sN sN sO) fun v2 G2 Ho2 hle2 hp=>?_;obtain ⟨pa2,pb2,pc2,pd2,pj2,pk2,rfl,hpa2,hpb2,rfl,rfl⟩:=hp;refine aL 9 [0,0] ?_;rotate_left;refine bE 7 [] ?_;rotate_left
   · have hzy:z=y:=hc1;have hnn:n=xJ p:=by
      rcases aK n (xJ p) with h9 | h9
      · exact absurd (by rw [←hz0,hzy,hy0]) (QQ p h9)
      omega
     have hyl:y=vL p (zA p):=by rw [hy0,hlen,hnn]
     have hxs:(sX p)[3*n+3]?=some ⟨Nj,sU y⟩:=by rw [hyl,hnn,←hlen];exact xK p
     have hrl:=yG p;refine pS (A:=[(0,some b1,.cells #[.int .i64 (sU y).ins,.int .i64 (sU y).regs,.slice pa2 (sU y).code.length pc2,.slice pb2 (sU y).outs.length pd2] 26)]) 1000 3 4 U U U U U U ⟨U,F9⟩ U U vU U
      ((hY (3*n+3) ⟨Nj,sU y⟩ ⟨pa2,pb2,pc2,pd2,pj2,pk2⟩ s hxs ⟨hpa2,hpb2⟩ hinv2).up (aP hn3 hm2)) (fun vy Gv Hv hlv hp=>?_)
     obtain ⟨rfl,s',rfl,hp⟩:=hp;rw [show 3*n+3+1=(sX p).length by rw [hrl];omega] at hp;refine eM ?_;refine kE ?_;refine mT (k:=1000) (.inl U) U vU ⟨U,s',U,hp.imp And.right And.right⟩
   have hne:¬z=y:=hc1;refine If ((n+1,Gy,y,(d1,e1,d2,e2),s)) ?_ ?_ U ⟨U,U,U,U,F9⟩ ⟨U,U,F9⟩ vU
   · refine ⟨by omega,fun h=>?_,aP hn3 hm2,⟨by rw [hy0];congr 1,hy1,hy2⟩,by rw [show 3*(n+1)=3*n+3 by omega];exact hinv2⟩;rcases QP p with h9 | h9
     · exact h9
     have:n=xJ p:=sN;subst this;exact absurd (by rw [hz0,hy0];exact h9.symm) hne
   show 17 - (n+1)<17 - n;omega
 have hnn:n=16:=sN;have hl15:xJ p=15:=hn2 sN;have hzl:z=vL p (zA p):=by rw [hz0,hlen,hnn,hl15]
 have hxs:(sX p)[3*n]?=some ⟨Nj,sU z⟩:=by rw [hzl,show 3*n=zA p by omega];exact xK p
 have hrl:=yG p;refine aI 15 [0,0] ?_;refine bV 2 U (YW _ _ _ _ _ _ sO sO sN sN sO) fun v2 G2 Ho2 hle2 hp=>?_;obtain ⟨pa2,pb2,pc2,pd2,pj2,pk2,rfl,hpa2,hpb2,rfl,rfl⟩:=hp;refine aL 9 [0,0] ?_;refine pS (A:=[(0,some b1,.cells #[.int .i64 (sU z).ins,.int .i64 (sU z).regs,.slice pa2 (sU z).code.length pc2,.slice pb2 (sU z).outs.length pd2] 26)]) 1000 2 3 U U U U U U ⟨U,F9⟩ U U vU U
  ((hY (3*n) ⟨Nj,sU z⟩ ⟨pa2,pb2,pc2,pd2,pj2,pk2⟩ s hxs ⟨hpa2,hpb2⟩ hinv).up hn3) (fun vy Gv Hv hlv hp=>?_)
 obtain ⟨rfl,s',rfl,hp⟩:=hp;rw [show 3*n+1=(sX p).length by rw [hrl];omega] at hp;refine eM ?_;refine kE ?_;refine mT (k:=1000) (.inl U) U vU ⟨U,s',U,hp.imp And.right And.right⟩
end
section
attribute [local irreducible] tT zY xW Aj sU vL sX xJ zA sP uK CQ vD Rs
def lastP (p:PV):PV:=sU (vL p (zA p))
theorem eu (G:A3) (hT:TabOk G) (p:PV) (ac ao:Option Addr) (cc co:Nat) (hc:Arr G ac p.code) (ho:Arr G ao p.outs) (hR:sP p=true) :
 Does Tryz.prog 50 [.agg (H8 p ac cc ao co)] G [] (fun v G' Ho=>∃ q bc bo dc do_,v=.tuple #[.agg #[.int .i64 q.ins,.int .i64 q.regs,.slice bc q.code.length dc,.slice bo q.outs.length do_],.int .i64 0]∧q=lastP p∧Arr G' bc q.code∧Arr G' bo q.outs∧Ho=[]):=by
 obtain ⟨r1,r2,r3,r4,r5,r6,r7,r8⟩:=sT hR;refine kA Tryz.func50 U Tryz.ntmps50 U fun w=>?_;refine aI 2 [] ?_;refine dV 0 fun b1=>?_;refine aO 1 U T.zero26 fun b2=>?_;refine aL 7 [0] ?_;refine cI U (QV _ p _ _ _ _ sO sO sN sN hR) ?_;refine aL 18 [0] ?_;refine aO 2 U T.zero26 fun b3=>?_;refine aL 6 [0] ?_;refine bV 3 U (el _ p _ _ _ _) fun v1 G1 Ho1 hle1 hp=>?_;obtain ⟨bi1,rfl,rfl,hbi1⟩:=hp;replace hc:=hc.up hle1;replace ho:=ho.up hle1;refine bB 3 [] ?_;refine eJ 5 (Row 91 ([]:List Sl.Instr) []) (eJ 6 (Row 3 ([]:List Int) []) ?_);have hT1:TabOk G1:=hT.up hle1;refine mQ (ι:=PV×PA) 900 901 902 903 (fun (q,y)=>[(2,some b3,.cells #[.int .i64 q.ins,.int .i64 q.regs,.slice y.a q.code.length y.c,.slice y.b q.outs.length y.d] 26),(5,y.a.map (·.block),Row 91 q.code y.j),(6,y.b.map (·.block),Row 3 q.outs y.k),(1,some b2,.cells #[.int .i64 0,.int .i64 0,.slice none 0 0,.slice none 0 0] 26),(0,some b1,.cells (H8 p ac cc ao co) 26)]) (fun k (q,y)=>A4 y.a y.c q.code y.j∧A4 y.b y.d q.outs y.k∧(∀ x,0<k→(sX p)[k - 1]?=some x→q=x.p)) (fun c (q,y)=>False) ((⟨0,0,[],[]⟩,⟨none,none,0,0,[],[]⟩)) U T.fn93 (fun _ _=>rfl) U (QY _ hT1 p _ _ _ _ _ hc ho hbi1 hR) (⟨eG,eG,fun x h=>absurd h sN⟩) (nK ⟨U,U,U,U,U,F9⟩) ⟨U,fun _=>rfl⟩ U (fun k xk yk ⟨q,y⟩ l dd qq w0 hx hgd hi=>?_) (fun ⟨q,y⟩ dd hi=>?_) fun ⟨q,y⟩ dd c hi=>?_
 · refine aI 1 [] ?_;refine aO 904 U T.zero26 fun b4=>?_;refine aS 2 [904] ?_;refine nQ 900 U ?_;refine bE 6 [904,2] ?_;refine Ar.retag 902 5 U U (Ar.retag 903 6 U U ?_);refine gU none (.inl ⟨U,U⟩) 900 U ⟨U,((xk.p,yk),none),U,.inl ⟨U,U,?_⟩⟩ (nK ⟨U,U,U,U,U,U,U,F9⟩);refine ⟨hgd.1,hgd.2,fun x _ hx'=>?_⟩;rw [jM,hx] at hx';cases hx';rfl
 · obtain ⟨hoc,hoo,hl⟩:=hi;have hq:q=lastP p:=by
    have h9:=yG p;exact hl _ sN (by rw [h9,jM];exact xK p)
   refine eE 10 [2,1] ?_;refine iD (.inr U) 901 U ?_;refine jP (.inr U) ?_;refine cX 5 U hoc (fun G8 hle8 hA8=>cX 6 U hoo (fun G9 hle9 hA9=>?_));refine gZ (.inr U) (Ho:=[]) U (.agg 1 U U T.agg26) (.tmp U) F9 ?_;exact ⟨_,_,_,_,_,U,hq,hA8.up hle9,hA9,U⟩
 exact hi.elim
end
structure F3 where
 b:Nat
 o:Nat
instance:Inhabited F3:=⟨⟨0,0⟩⟩
instance:A2 F3:=⟨1,fun x=>[.pointer (some ⟨x.b,x.o,none⟩)],fun _=>rfl,fun _=>rfl⟩
section
attribute [local irreducible] tF sP tW evP madeP lastP idx
theorem mm (G:A3) (k1 k2:Int) (a:Option Addr) (c:Nat) (l:List R2) (ha:Arr G a l) (hl:l.length≤1048576) (hlc:l.length≤c) (hW:¬tF k1 k2 l=0) :
 Does Tryz.prog 34 [.int .i64 k1,.int .i64 k2,.slice a l.length c] G [] (fun v G' Ho=>v=.tuple #[.agg #[.int .i64 0,.int .i64 0,.slice none 0 0,.int .i64 0,.int .i64 0,.slice none 0 0,.slice none 0 0,.int .i64 0,.int .i64 0,.slice none 0 0,.slice none 0 0,.int .i64 0,.int .i64 0,.slice none 0 0,.slice none 0 0],.int .i64 (tF k1 k2 l)]∧Ho=[]):=by
 refine D0 Tryz.func34 Tryz.ntmps34 fun w=>?_;refine aI 2 [] ?_;refine aO 0 U T.zero28 fun b1=>?_;refine aL 8 [] ?_;refine bV 1 U (fg _ _ _ _ _ _ sO sN sN) fun v1 G1 Ho1 hle1 hp=>?_;obtain ⟨pv1,rfl,rfl⟩:=hp;replace ha:=ha.up hle1;refine aL 17 [1] ?_;refine aQ (bP (cs:=[_,_,_,_,_,_,_,_,_,_,_,_,_,_,_]) T.st28 U U U) ?_;refine aS 7 [0] ?_;refine gZ (.inr U) (Ho:=[]) U (.agg 0 U U T.agg28) (.tmp U) F9 ?_;exact ⟨U,U⟩
theorem ez (G:A3) (hT:TabOk G) (n1 n2:Nat) (a:Option Addr) (c:Nat) (l:List R2) (ha:Arr G a l) (hl:l.length≤1048576) (hlc:l.length≤c) (hW:tF (n1:Int) (n2:Int) l=0) :
 Does Tryz.prog 34 [.int .i64 (n1:Int),.int .i64 (n2:Int),.slice a l.length c] G [] (fun v G' Ho=>∃ (pa xc xo yc yo zc zo:Option Addr) (pd xcc xoc ycc yoc zcc zoc:Nat) (pj zj zk:List Value),v=.tuple #[.agg #[.int .i64 (n1:Int),.int .i64 (n2:Int),.slice pa l.length pd,.int .i64 (evP n1 l).ins,.int .i64 (evP n1 l).regs,.slice xc (evP n1 l).code.length xcc,.slice xo (evP n1 l).outs.length xoc,.int .i64 (evP n2 l).ins,.int .i64 (evP n2 l).regs,.slice yc (evP n2 l).code.length ycc,.slice yo (evP n2 l).outs.length yoc,.int .i64 (madeP l (idx l.length)).ins,.int .i64 (madeP l (idx l.length)).regs,.slice zc (madeP l (idx l.length)).code.length zcc,.slice zo (madeP l (idx l.length)).outs.length zoc],.int .i64 0]∧
  A4 pa pd l pj∧Arr G' xc (evP n1 l).code∧Arr G' xo (evP n1 l).outs∧Arr G' yc (evP n2 l).code∧Arr G' yo (evP n2 l).outs∧A4 zc zcc (madeP l (idx l.length)).code zj∧A4 zo zoc (madeP l (idx l.length)).outs zk∧Ho=[(1,pa.map (·.block),Row 52 l pj),(3,zc.map (·.block),Row 91 (madeP l (idx l.length)).code zj),(4,zo.map (·.block),Row 3 (madeP l (idx l.length)).outs zk)]):=by
 obtain ⟨hP1,hP2,hL,hRL⟩:=uS hW;have hn1:1≤n1∧n1≤8:=by have:=hP1.1;have:=hP1.2;omega
 have hn2:1≤n2∧n2≤8:=by have:=hP2.1;have:=hP2.2;omega
 refine D0 Tryz.func34 Tryz.ntmps34 fun w=>?_;refine aI 2 [] ?_;refine aO 0 U T.zero28 fun b1=>?_;refine aL 8 [] ?_;refine bV 1 U (fg _ _ _ _ _ _ sO sN sN) fun v1 G1 Ho1 hle1 hp=>?_;obtain ⟨pv1,rfl,rfl⟩:=hp;replace ha:=ha.up hle1;refine aL 22 [0] ?_;refine bV 1 U (c33 _ _ _ _ sO sN) fun v2 G2 Ho2 hle2 hp=>?_;obtain ⟨s2,d2,j2,rfl,ho2,rfl,rfl⟩:=hp;refine aQ (bP (cs:=[_,_,_,_,_,_,_,_,_,_,_,_,_,_,_]) T.st28 U U U) ?_;refine aO 2 U T.zero28 fun b2=>?_;refine aL 7 [2] ?_;refine bV 3 U (c43 _ (hT.up Yb) _ _ _ _ sO sN hRL sN sN) fun v3 G3 Ho3 hle3 hp=>?_;obtain ⟨ca3,oa3,cc3,oc3,rfl,hcA3,hoA3,rfl⟩:=hp;replace ha:=ha.up hle3;refine aC 4 [] ?_;refine jT 2 T.size26 U U U U U U ?_;refine aL 17 [0] ?_;refine bV 3 U (c43 _ (hT.up Yb) _ _ _ _ sO sN hRL sN sN) fun v4 G4 Ho4 hle4 hp=>?_;obtain ⟨ca4,oa4,cc4,oc4,rfl,hcA4,hoA4,rfl⟩:=hp;replace hcA3:=hcA3.up hle4;replace hoA3:=hoA3.up hle4;replace ha:=ha.up hle4;refine aC 4 [] ?_;refine jT 2 T.size26 U U U U U U ?_;refine aL 16 [0] ?_;refine bV 3 U (kx _ _ _ _ sO sN hRL) fun v5 G5 Ho5 hle5 hp=>?_;obtain ⟨za5,zb5,zc5,zd5,zj5,zk5,rfl,hza5,hzb5,rfl⟩:=hp;refine aC 4 [] ?_;refine jT 2 T.size26 U U U U U U ?_;refine aS 21 [0,2,0] ?_;refine gZ (.inr U) (Ho:=[(1,s2.map (·.block),Row 52 l j2),(3,za5.map (·.block),Row 91 (madeP l (idx l.length)).code zj5),(4,zb5.map (·.block),Row 3 (madeP l (idx l.length)).outs zk5)]) U (.agg 0 U U T.agg28) (.tmp U) ⟨U,U,U,F9⟩ ?_;exact ⟨s2,ca3,oa3,ca4,oa4,za5,zb5,d2,cc3,oc3,cc4,oc4,zc5,zd5,j2,zj5,zk5,U,ho2,hcA3.up sO,hoA3.up sO,hcA4.up sO,hoA4.up sO,hza5,hzb5,U⟩
end
section
attribute [local irreducible] tT zY xW Aj sU vL sX xJ zA sP uK CQ vD Rs
theorem mn (G:A3) (hT:TabOk G) (p:PV) (ac ao:Option Addr) (cc co:Nat) (hc:Arr G ac p.code) (ho:Arr G ao p.outs) (hR:sP p=true) :
 Does Tryz.prog 50 [.agg (H8 p ac cc ao co)] G [] (fun v G' Ho=>∃ q bc bo dc do_ jo,v=.tuple #[.agg #[.int .i64 q.ins,.int .i64 q.regs,.slice bc q.code.length dc,.slice bo q.outs.length do_],.int .i64 0]∧q=lastP p∧Arr G' bc q.code∧A4 bo do_ q.outs jo∧Ho=[(6,bo.map (·.block),Row 3 q.outs jo)]):=by
 obtain ⟨r1,r2,r3,r4,r5,r6,r7,r8⟩:=sT hR;refine kA Tryz.func50 U Tryz.ntmps50 U fun w=>?_;refine aI 2 [] ?_;refine dV 0 fun b1=>?_;refine aO 1 U T.zero26 fun b2=>?_;refine aL 7 [0] ?_;refine cI U (QV _ p _ _ _ _ sO sO sN sN hR) ?_;refine aL 18 [0] ?_;refine aO 2 U T.zero26 fun b3=>?_;refine aL 6 [0] ?_;refine bV 3 U (el _ p _ _ _ _) fun v1 G1 Ho1 hle1 hp=>?_;obtain ⟨bi1,rfl,rfl,hbi1⟩:=hp;replace hc:=hc.up hle1;replace ho:=ho.up hle1;refine bB 3 [] ?_;refine eJ 5 (Row 91 ([]:List Sl.Instr) []) (eJ 6 (Row 3 ([]:List Int) []) ?_);have hT1:TabOk G1:=hT.up hle1;refine mQ (ι:=PV×PA) 900 901 902 903 (fun (q,y)=>[(2,some b3,.cells #[.int .i64 q.ins,.int .i64 q.regs,.slice y.a q.code.length y.c,.slice y.b q.outs.length y.d] 26),(5,y.a.map (·.block),Row 91 q.code y.j),(6,y.b.map (·.block),Row 3 q.outs y.k),(1,some b2,.cells #[.int .i64 0,.int .i64 0,.slice none 0 0,.slice none 0 0] 26),(0,some b1,.cells (H8 p ac cc ao co) 26)]) (fun k (q,y)=>A4 y.a y.c q.code y.j∧A4 y.b y.d q.outs y.k∧(∀ x,0<k→(sX p)[k - 1]?=some x→q=x.p)) (fun c (q,y)=>False) ((⟨0,0,[],[]⟩,⟨none,none,0,0,[],[]⟩)) U T.fn93 (fun _ _=>rfl) U (QY _ hT1 p _ _ _ _ _ hc ho hbi1 hR) (⟨eG,eG,fun x h=>absurd h sN⟩) (nK ⟨U,U,U,U,U,F9⟩) ⟨U,fun _=>rfl⟩ U (fun k xk yk ⟨q,y⟩ l dd qq w0 hx hgd hi=>?_) (fun ⟨q,y⟩ dd hi=>?_) fun ⟨q,y⟩ dd c hi=>?_
 · refine aI 1 [] ?_;refine aO 904 U T.zero26 fun b4=>?_;refine aS 2 [904] ?_;refine nQ 900 U ?_;refine bE 6 [904,2] ?_;refine Ar.retag 902 5 U U (Ar.retag 903 6 U U ?_);refine gU none (.inl ⟨U,U⟩) 900 U ⟨U,((xk.p,yk),none),U,.inl ⟨U,U,?_⟩⟩ (nK ⟨U,U,U,U,U,U,U,F9⟩);refine ⟨hgd.1,hgd.2,fun x _ hx'=>?_⟩;rw [jM,hx] at hx';cases hx';rfl
 · obtain ⟨hoc,hoo,hl⟩:=hi;have hq:q=lastP p:=by
    have h9:=yG p;exact hl _ sN (by rw [h9,jM];exact xK p)
   refine eE 10 [2,1] ?_;refine iD (.inr U) 901 U ?_;refine jP (.inr U) ?_;refine cX 5 U hoc fun G8 hle8 hA8=>?_;refine gZ (.inr U) (Ho:=[(6,y.b.map (·.block),Row 3 q.outs y.k)]) U (.agg 1 U U T.agg26) (.tmp U) ⟨U,F9⟩ ?_;exact ⟨_,_,_,_,_,_,U,hq,hA8,hoo,U⟩
 exact hi.elim
end
theorem WY (G:A3) (b:Nat):Does Tryz.prog 67 [.pointer (some ⟨b,0,none⟩)] G [] (fun v G' Ho=>∃ s,v=.slice s ([⟨b,3⟩,⟨b,7⟩,⟨b,11⟩]:List F3).length 3∧Arr G' s ([⟨b,3⟩,⟨b,7⟩,⟨b,11⟩]:List F3)∧Ho=[]):=by
 refine D0 Tryz.func67 Tryz.ntmps67 fun w=>?_;refine bI 6 [] ?_;refine dE [] [] T.mixed [[0],[1],[2],[3],[4],[5],[6],[7],[8]] ?_;refine bQ 9 ?_;refine cZ (α:=F3) 0 [⟨_,_⟩,⟨_,_⟩,⟨_,_⟩] U T.sl86 T.el85 U U U U U fun b1=>?_;refine bC ?_;refine dK [[10]] ?_;refine dG ?_;refine eE 2 [] ?_;refine cX (α:=F3) 0 U (fK Ea) fun G2 hle2 hA2=>?_;refine cV ?_;exact ⟨_,U,hA2,U⟩
section
attribute [local irreducible] tF sP tW evP madeP lastP idx
theorem wR {k:Nat} {l:List R2} (hR:tW l) (hk:1≤k∧k≤8):sP (evP k l)=true:=Qq (Ce hR hk)
theorem Bt {l:List R2} (hR:tW l):sP (madeP l (idx l.length))=true:=Ic hR (Cz l.length)
theorem fb (G:A3) (hT:TabOk G) (n1 n2:Nat) (a:Option Addr) (c:Nat) (l:List R2) (ha:Arr G a l) (hl:l.length≤1048576) (hlc:l.length≤c) (hW:tF (n1:Int) (n2:Int) l=0) :
 Does Tryz.prog 20 [.int .i64 (n1:Int),.int .i64 (n2:Int),.slice a l.length c] G [] (fun v G' Ho=>∃ (pa xc xo yc yo zc zo:Option Addr) (pd xcc xoc ycc yoc zcc zoc:Nat) (pj zk:List Value),v=.tuple #[.agg #[.int .i64 (n1:Int),.int .i64 (n2:Int),.slice pa l.length pd,.int .i64 (lastP (evP n1 l)).ins,.int .i64 (lastP (evP n1 l)).regs,.slice xc (lastP (evP n1 l)).code.length xcc,.slice xo (lastP (evP n1 l)).outs.length xoc,.int .i64 (lastP (evP n2 l)).ins,.int .i64 (lastP (evP n2 l)).regs,.slice yc (lastP (evP n2 l)).code.length ycc,.slice yo (lastP (evP n2 l)).outs.length yoc,.int .i64 (lastP (madeP l (idx l.length))).ins,.int .i64 (lastP (madeP l (idx l.length))).regs,.slice zc (lastP (madeP l (idx l.length))).code.length zcc,.slice zo (lastP (madeP l (idx l.length))).outs.length zoc],.int .i64 0]∧
  A4 pa pd l pj∧Arr G' xc (lastP (evP n1 l)).code∧Arr G' xo (lastP (evP n1 l)).outs∧Arr G' yc (lastP (evP n2 l)).code∧Arr G' yo (lastP (evP n2 l)).outs∧Arr G' zc (lastP (madeP l (idx l.length))).code∧A4 zo zoc (lastP (madeP l (idx l.length))).outs zk∧Ho=[(2,pa.map (·.block),Row 52 l pj),(7,zo.map (·.block),Row 3 (lastP (madeP l (idx l.length))).outs zk)]):=by
 obtain ⟨hP1,hP2,hL,hRL⟩:=uS hW;have hn1:1≤n1∧n1≤8:=by have:=hP1.1;have:=hP1.2;omega
 have hn2:1≤n2∧n2≤8:=by have:=hP2.1;have:=hP2.2;omega
 have hRx:=wR hRL hn1;have hRy:=wR hRL hn2;have hRz:=Bt hRL;refine D0 Tryz.func20 Tryz.ntmps20 fun w=>?_;refine aI 2 [] ?_;refine aO 0 U T.zero28 fun b1=>?_;refine aL 8 [] ?_;refine bV 1 U (ez _ hT n1 n2 _ _ _ sO sN sN hW) fun v1 G1 Ho1 hle1 hp=>?_;obtain ⟨pa1,xc1,xo1,yc1,yo1,zc1,zo1,pd1,xcc1,xoc1,ycc1,yoc1,zcc1,zoc1,pj1,zj1,zk1,rfl,hpo1,hxc1,hxo1,hyc1,hyo1,hzc1,hzo1,rfl⟩:=hp;replace ha:=ha.up hle1;refine aC 3 [] ?_;refine aO 6 U T.zero28 fun b2=>?_;refine aL 17 [6,0] ?_;refine bV 7 U (WY _ _) fun v2 G2 Ho2 hle2 hp=>?_;obtain ⟨ps2,rfl,hps2,rfl⟩:=hp;replace hxc1:=hxc1.up hle2;replace hxo1:=hxo1.up hle2;replace hyc1:=hyc1.up hle2;replace hyo1:=hyo1.up hle2;replace ha:=ha.up hle2;refine bB 5 [] ?_;refine qD 4 U hzc1 (fun G3 hle3 hzcA=>qD 5 U hzo1 (fun G4 hle4 hzoA=>?_));replace hps2:=(hps2.up hle3).up hle4;replace hxc1:=(hxc1.up hle3).up hle4;replace hxo1:=(hxo1.up hle3).up hle4;replace hyc1:=(hyc1.up hle3).up hle4;replace hyo1:=(hyo1.up hle3).up hle4;replace hzcA:=hzcA.up hle4;refine eJ 7 (Row 3 ([]:List Int) []) ?_;refine jZ (ι:=Nat×A3×PH×PH×PH×(Option Addr×Nat×List Int×List Value)) (fun (k,Gx,u,v,q,(ro,rd,os,rj))=>([(27,.int .i64 (k:Int)),(26,.int .i64 ((3:Nat):Int)),(8,.pointer (some ⟨b2,0,none⟩)),(6,.pointer (some ⟨b1,0,none⟩)),(25,.slice ps2 (List.length [F3.mk b2 3,F3.mk b2 7,F3.mk b2 11]) 3)],[(0,some b1,.cells #[.int .i64 0,.int .i64 0,.slice none 0 0,.int .i64 0,.int .i64 0,.slice none 0 0,.slice none 0 0,.int .i64 0,.int .i64 0,.slice none 0 0,.slice none 0 0,.int .i64 0,.int .i64 0,.slice none 0 0,.slice none 0 0] 28),(2,pa1.map (·.block),Row 52 l pj1),(6,some b2,.cells #[.int .i64 (n1:Int),.int .i64 (n2:Int),.slice pa1 l.length pd1,.int .i64 u.ins,.int .i64 u.regs,.slice u.ac u.cn u.cc,.slice u.ao u.on u.oc,.int .i64 v.ins,.int .i64 v.regs,.slice v.ac v.cn v.cc,.slice v.ao v.on v.oc,.int .i64 q.ins,.int .i64 q.regs,.slice q.ac q.cn q.cc,.slice q.ao q.on q.oc] 28),(7,ro.map (·.block),Row 3 os rj)])) (fun (k,Gx,u,v,q,(ro,rd,os,rj))=>Gx) (fun (k,Gx,u,v,q,(ro,rd,os,rj))=>k≤3∧G4.le Gx∧D6 Gx (if 0<k then (lastP (evP n1 l)) else (evP n1 l)) u∧D6 Gx (if 1<k then (lastP (evP n2 l)) else (evP n2 l)) v∧(k<3→D6 Gx (madeP l (idx l.length)) q)∧A4 ro rd os rj∧(k=3→os=(lastP (madeP l (idx l.length))).outs∧q=⟨(lastP (madeP l (idx l.length))).ins,(lastP (madeP l (idx l.length))).regs,q.ac,(lastP (madeP l (idx l.length))).code.length,q.cc,ro,os.length,rd⟩∧Arr Gx q.ac (lastP (madeP l (idx l.length))).code)) (fun (k,Gx,u,v,q,(ro,rd,os,rj))=>3 - k) ((0,G4,⟨(evP n1 l).ins,(evP n1 l).regs,xc1,(evP n1 l).code.length,xcc1,xo1,(evP n1 l).outs.length,xoc1⟩,⟨(evP n2 l).ins,(evP n2 l).regs,yc1,(evP n2 l).code.length,ycc1,yo1,(evP n2 l).outs.length,yoc1⟩,⟨(madeP l (idx l.length)).ins,(madeP l (idx l.length)).regs,zc1,(madeP l (idx l.length)).code.length,zcc1,zo1,(madeP l (idx l.length)).outs.length,zoc1⟩,(none,0,[],[]))) (⟨aM _,bN _,⟨U,U,U,U,hxc1,hxo1⟩,⟨U,U,U,U,hyc1,hyo1⟩,fun _=>⟨U,U,U,U,hzcA,hzoA⟩,eG,fun h=>absurd h sN⟩) U ⟨U,U,U,U,U,F9⟩ ⟨U,U,U,U,F9⟩ fun ⟨k,Gx,u,v,q,(ro,rd,os,rj)⟩=>fun hk=>?_;obtain ⟨hk3,hgx,hu,hv,hq,hro,hq3⟩:=hk;replace hps2:=hps2.up hgx;have hk4:k=0∨k=1∨k=2∨k=3:=sN;rcases hk4 with rfl | rfl | rfl | rfl
 · have hu0:D6 Gx (evP n1 l) u:=hu;obtain ⟨ei,er,eac,ecn,ecc,eao,eon,eoc⟩:=u;obtain ⟨e1,e2,e3,e4,hec,heo⟩:=hu0;dsimp only at e1 e2 e3 e4 hec heo;subst e1 e2 e3 e4;refine bI 6 [] ?_;refine qV U (show ((0:Nat):Int)<((3:Nat):Int) by decide) ?_;refine aI 6 [] ?_;refine aQ (iI (α:=F3) T.sl86 U U hps2 (show 0≤((0:Nat):Int)∧((0:Nat):Int)<((3:Nat):Int) by decide)) ?_;refine aQ (bW T.one85 U (gB hps2 (show 0≤((0:Nat):Int)∧((0:Nat):Int)<((3:Nat):Int) by decide) 0 U U)) ?_;refine fO 30 U (show _=Value.pointer (some ⟨b2,3,none⟩) from U) ?_;refine aL 7 [] ?_;refine aQ (eF 6 T.agg26 U U U U) ?_;refine bV 8 U (eu _ (hT.up Yb) (evP n1 l) _ _ _ _ sO sO hRx) fun v5 G5 Ho5 hle5 hp=>?_;obtain ⟨lq5,la5,lb5,lc5,ld5,rfl,hlq5,hla5,hlb5,rfl⟩:=hp;replace hps2:=hps2.up hle5;replace hec:=hec.up hle5;replace heo:=heo.up hle5;refine aC 3 [] ?_;refine aO 8 U T.zero26 fun b3=>?_;refine aL 18 [8,0,8] ?_;refine jT 6 T.size26 U U U U U U ?_;refine aS 7 [] ?_;replace hle5:Gx.le G5:=hle5;subst hlq5;refine cJ 27 U (show _=Value.int .i64 ((1:Nat):Int) from U) ?_;refine cK ((1,G5,⟨(lastP (evP n1 l)).ins,(lastP (evP n1 l)).regs,la5,(lastP (evP n1 l)).code.length,lc5,lb5,(lastP (evP n1 l)).outs.length,ld5⟩,v,q,(ro,rd,os,rj))) ?_ ?_
   · exact ⟨by omega,aP hgx hle5,⟨U,U,U,U,hla5,hlb5⟩,hv.up hle5,fun _=>(hq sY).up hle5,hro,fun h=>absurd h sN⟩
   show 3 - 1<3 - 0;omega
 · have hv1:D6 Gx (evP n2 l) v:=hv;obtain ⟨ei,er,eac,ecn,ecc,eao,eon,eoc⟩:=v;obtain ⟨e1,e2,e3,e4,hec,heo⟩:=hv1;dsimp only at e1 e2 e3 e4 hec heo;subst e1 e2 e3 e4;refine bI 6 [] ?_;refine qV U (show ((1:Nat):Int)<((3:Nat):Int) by decide) ?_;refine aI 6 [] ?_;refine aQ (iI (α:=F3) T.sl86 U U hps2 (show 0≤((1:Nat):Int)∧((1:Nat):Int)<((3:Nat):Int) by decide)) ?_;refine aQ (bW T.one85 U (gB hps2 (show 0≤((1:Nat):Int)∧((1:Nat):Int)<((3:Nat):Int) by decide) 0 U U)) ?_;refine fO 30 U (show _=Value.pointer (some ⟨b2,7,none⟩) from U) ?_;refine aL 7 [] ?_;refine aQ (eF 6 T.agg26 U U U U) ?_;refine bV 8 U (eu _ (hT.up Yb) (evP n2 l) _ _ _ _ sO sO hRy) fun v5 G5 Ho5 hle5 hp=>?_;obtain ⟨lq5,la5,lb5,lc5,ld5,rfl,hlq5,hla5,hlb5,rfl⟩:=hp;replace hps2:=hps2.up hle5;replace hec:=hec.up hle5;replace heo:=heo.up hle5;refine aC 3 [] ?_;refine aO 8 U T.zero26 fun b3=>?_;refine aL 18 [8,0,8] ?_;refine jT 6 T.size26 U U U U U U ?_;refine aS 7 [] ?_;replace hle5:Gx.le G5:=hle5;subst hlq5;refine cJ 27 U (show _=Value.int .i64 ((2:Nat):Int) from U) ?_;refine cK ((2,G5,u,⟨(lastP (evP n2 l)).ins,(lastP (evP n2 l)).regs,la5,(lastP (evP n2 l)).code.length,lc5,lb5,(lastP (evP n2 l)).outs.length,ld5⟩,q,(ro,rd,os,rj))) ?_ ?_
   · exact ⟨by omega,aP hgx hle5,hu.up hle5,⟨U,U,U,U,hla5,hlb5⟩,fun _=>(hq sY).up hle5,hro,fun h=>absurd h sN⟩
   show 3 - 2<3 - 1;omega
 · have hq2:D6 Gx (madeP l (idx l.length)) q:=hq sY;obtain ⟨ei,er,eac,ecn,ecc,eao,eon,eoc⟩:=q;obtain ⟨e1,e2,e3,e4,hec,heo⟩:=hq2;dsimp only at e1 e2 e3 e4 hec heo;subst e1 e2 e3 e4;refine bI 6 [] ?_;refine qV U (show ((2:Nat):Int)<((3:Nat):Int) by decide) ?_;refine aI 6 [] ?_;refine aQ (iI (α:=F3) T.sl86 U U hps2 (show 0≤((2:Nat):Int)∧((2:Nat):Int)<((3:Nat):Int) by decide)) ?_;refine aQ (bW T.one85 U (gB hps2 (show 0≤((2:Nat):Int)∧((2:Nat):Int)<((3:Nat):Int) by decide) 0 U U)) ?_;refine fO 30 U (show _=Value.pointer (some ⟨b2,11,none⟩) from U) ?_;refine aL 7 [] ?_;refine aQ (eF 6 T.agg26 U U U U) ?_;refine bV 8 U (mn _ (hT.up Yb) (madeP l (idx l.length)) _ _ _ _ sO sO hRz) fun v5 G5 Ho5 hle5 hp=>?_;obtain ⟨lq5,la5,lb5,lc5,ld5,lj5,rfl,hlq5,hla5,hlb5,rfl⟩:=hp;replace hps2:=hps2.up hle5;replace hec:=hec.up hle5;replace heo:=heo.up hle5;refine aC 3 [] ?_;refine aO 15 U T.zero26 fun b3=>?_;refine aL 18 [15,0,15] ?_;refine jT 6 T.size26 U U U U U U ?_;refine aS 7 [] ?_;replace hle5:Gx.le G5:=hle5;subst hlq5;refine cJ 27 U (show _=Value.int .i64 ((3:Nat):Int) from U) ?_;refine Ar.retag 14 7 U U ?_;refine cK ((3,G5,u,v,⟨(lastP (madeP l (idx l.length))).ins,(lastP (madeP l (idx l.length))).regs,la5,(lastP (madeP l (idx l.length))).code.length,lc5,lb5,(lastP (madeP l (idx l.length))).outs.length,ld5⟩,(lb5,ld5,(lastP (madeP l (idx l.length))).outs,lj5))) ?_ ?_
   · exact ⟨by omega,aP hgx hle5,hu.up hle5,hv.up hle5,fun h=>absurd h sN,hlb5,fun _=>⟨U,U,hla5⟩⟩
   show 3 - 3<3 - 2;omega
 have hu3:D6 Gx (lastP (evP n1 l)) u:=hu;have hv3:D6 Gx (lastP (evP n2 l)) v:=hv;obtain ⟨ui,ur,uac,ucn,ucc,uao,uon,uoc⟩:=u;obtain ⟨e1,e2,e3,e4,huc,huo⟩:=hu3;dsimp only at e1 e2 e3 e4 huc huo;subst e1 e2 e3 e4;obtain ⟨vi,vr,vac,vcn,vcc,vao,von,voc⟩:=v;obtain ⟨e1,e2,e3,e4,hvc,hvo⟩:=hv3;dsimp only at e1 e2 e3 e4 hvc hvo;subst e1 e2 e3 e4;obtain ⟨ho3,hq4,hac⟩:=hq3 U;obtain ⟨qi,qr,qac,qcn,qcc,qao,qon,qoc⟩:=q;rw [PH.mk.injEq] at hq4;obtain ⟨rfl,rfl,-,rfl,-,rfl,rfl,rfl⟩:=hq4;subst ho3;refine bE 20 [0,6,0] ?_;refine gZ (.inr U) (Ho:=[(2,pa1.map (·.block),Row 52 l pj1),(7,qao.map (·.block),Row 3 (lastP (madeP l (idx l.length))).outs rj)]) U (.agg 0 U U T.agg28) (.tmp U) ⟨U,U,F9⟩ ?_;exact ⟨pa1,uac,uao,vac,vao,qac,qao,pd1,ucc,uoc,vcc,voc,qcc,qoc,pj1,rj,U,hpo1,huc,huo,hvc,hvo,hac,hro,U⟩
end
end Go.Proofs.YtkdelpdbjfpgmaaGreatDoor
