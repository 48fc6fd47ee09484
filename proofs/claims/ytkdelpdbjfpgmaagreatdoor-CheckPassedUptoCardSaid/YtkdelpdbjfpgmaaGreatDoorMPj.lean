/- vD of the proof (part 10): what the rows' text needs of the texts that lead to it. -/
import Derived.Test.YtkdelpdbjfpgmaaGreatDoorMPi
set_option linter.unusedVariables false
set_option linter.unusedSimpArgs false
set_option linter.unusedSectionVars false
set_option maxHeartbeats 4000000
set_option maxRecDepth 100000
namespace Go.Proofs.YtkdelpdbjfpgmaaGreatDoor
open Go Go.Sl
theorem Md {N:Nat}:∀ (l:List Sl.Instr) (rs:List (List Int)),Flat N rs→(∀ i∈l,DS rs.length i)→
 (∀ r',yU l rs=some r'→Flat N r'∧r'.length=rs.length∧∀ j,j<N→wL l (Cm j rs)=some (Cm j r'))∧(yU l rs=none→∃ j,j<N∧wL l (Cm j rs)=none)
 | [],rs,he,_=>⟨fun r' h=>by cases h;exact ⟨he,F9,fun j _=>rfl⟩,fun h=>by cases h⟩
 | i :: l,rs,he,hi=>by
   obtain ⟨h1,h2⟩:=GB he (hi i uE).1 (hi i uE).2;unfold yU wL;cases hd:xU i rs with
   | none =>
     refine ⟨fun r' h=>(by cases h),fun _=>?_⟩;obtain ⟨j,hj,hz⟩:=h2 hd;exact ⟨j,hj,by rw [hz];rfl⟩
   | some x =>
     obtain ⟨hx,hc⟩:=h1 x hd;obtain ⟨g1,g2⟩:=Md l (rs.set i.to.toNat x) (flat_set he hx) (fun q hq=>by rw [aG];exact hi q (by simp [hq]));refine ⟨fun r' h=>?_,fun h=>?_⟩
     · obtain ⟨k1,k2,k3⟩:=g1 r' h;refine ⟨k1,by rw [k2,aG],fun j hj=>?_⟩;rw [hc j hj];show wL l ((Cm j rs).set i.to.toNat (x[j]?.getD 0))=_;rw [←Nw];exact k3 j hj
     obtain ⟨j,hj,hz⟩:=g2 h;refine ⟨j,hj,?_⟩;rw [hc j hj];show wL l ((Cm j rs).set i.to.toNat (x[j]?.getD 0))=_;rw [←Nw];exact hz
theorem He {p q:PV} {gs os:List (List Int)} {N:Nat} (hR:sY p=true) (hQ:sY q=true) (hi:q.ins=p.ins) (ho:q.outs.length=p.outs.length) (hg:(gs.length:Int)=p.ins) (hN:Flat N gs)
 (hans:∀ zs ys:List Int,(zs.length:Int)=p.ins→Du p zs=some ys→Du q zs=some ys) (h:tJ p gs=some os):tJ q gs=some os:=by
 obtain ⟨f1,f2,f3,f4,f5,f6,f7,f8⟩:=tB hR;obtain ⟨k1,k2,k3,k4,k5,k6,k7,k8⟩:=tB hQ;have hfp:=Lo (p:=p) hN sW;have hfq:=Lo (p:=q) hN sW;unfold tJ at h ⊢;rw [zK p gs _ (aI _),bD] at h;rw [zK q gs _ (aI _),bD];obtain ⟨r',hr',rfl⟩:=jO.1 h;obtain ⟨p1,p2,p3⟩:=(Md p.code (vN p gs) hfp (fun i hi=>DT (f8 i hi) (by rw [vY];omega))).1 r' hr';have hcol:∀ j,j<N→Du q (Cm j gs)=some (yW p (Cm j r')):=fun j hj=>by
  refine hans _ _ (by rw [yZ];exact hg) ?_;unfold Du;rw [wO p _ _ (aI _),bD,←Jt sW,p3 j hj];rfl
 have hq:=Md q.code (vN q gs) hfq (fun i hi=>DT (k8 i hi) (by rw [vY];omega));cases hrq:yU q.code (vN q gs) with
 | none =>
   obtain ⟨j,hj,hz⟩:=hq.2 hrq;have h9:=hcol j hj;unfold Du at h9;rw [wO q _ _ (aI _),bD,←Jt sW,hz] at h9;cases h9
 | some s' =>
   obtain ⟨q1,q2,q3⟩:=hq.1 s' hrq;show some (xI q s')=some (xI p r');congr 1;unfold xI;apply gD
   · rw [aP,aP,ho]
   intro k g1 g2;rw [aP] at g1 g2;rw [gB,gB];have hrp:=f7 p.outs[k] (bZ g2);have hrq2:=k7 q.outs[k] (bZ g1);have lp:=Cc p1 (k:=p.outs[k].toNat) (by rw [p2,vY];omega);have lq:=Cc q1 (k:=q.outs[k].toNat) (by rw [q2,vY];omega);apply gD
   · omega
   intro j j1 j2;have h9:=hcol j sW;unfold Du at h9;rw [wO q _ _ (aI _),bD,←Jt sW,q3 j sW] at h9;have h10:yW q (Cm j s')=yW p (Cm j r'):=by
    have:=jO.1 h9;obtain ⟨z,e1,e2⟩:=this;cases e1;exact e2
   unfold yW at h10;have h11:=congrArg (fun l:List Int=>l[k]?) h10;simp only [bK,aA g1,aA g2,fZ,bY,Fa] at h11;rw [aA j1,aA j2] at h11;exact h11
theorem Mz {p:PV} {gs os:List (List Int)} {N:Nat} (hR:sY p=true) (hg:(gs.length:Int)=p.ins) (hN:Flat N gs) (h:tJ p gs=some os):tJ (zD p) gs=some os:=
 He hR (Rd hR) F9 F9 hg hN (fun zs ys hz h9=>by rw [QB hR hz];exact h9) h
def WT (A:List Bool) (r s:List Int):Prop:=r.length=s.length∧∀ k:Nat,A[k]?.getD default=true→r[k]?.getD 0=s[k]?.getD 0
theorem KJ {i:Sl.Instr} {r s:List Int} (ha:r[i.a.toNat]?.getD 0=s[i.a.toNat]?.getD 0) (hb:i.op=3∨i.op=4→r[i.b.toNat]?.getD 0=s[i.b.toNat]?.getD 0):Af i r=Af i s:=by
 unfold Af;simp only [ha];by_cases h34:i.op=3∨i.op=4
 · rw [hb h34]
 have h3:¬i.op=3:=fun e=>h34 (.inl e);have h4:¬i.op=4:=fun e=>h34 (.inr e);simp only [h3,h4,lF]
theorem EC (p:PV) (i:Sl.Instr) (l:List Sl.Instr):Jw p (i :: l)=if (nf p l).1[i.to.toNat]?.getD default=true∧¬wN i then i :: Jw p l else Jw p l:=by
 by_cases hc:(nf p l).1[i.to.toNat]?.getD default=true
 · have e:(nf p (i :: l)).2=true :: (nf p l).2:=by simp only [nf];rw [aE hc]
   unfold Jw;rw [e,nA];by_cases hd:wN i
   · rw [aD (fun h=>h.2 hd),List.filterMap_cons_none (Hx (fun h=>h.2 hd))]
   rw [aE ⟨hc,hd⟩,List.filterMap_cons_some (Qq ⟨rfl,hd⟩)]
 have e:(nf p (i :: l)).2=false :: (nf p l).2:=by simp only [nf];rw [aD hc]
 unfold Jw;rw [e,nA,aD (fun h=>hc h.1),List.filterMap_cons_none (Hx (fun h=>by cases h.1))]
theorem Ki {p:PV} (hm:∀ i∈p.code,tI i p.regs=true):∀ (l:List Sl.Instr),(∀ i∈l,i∈p.code)→∀ (r s r':List Int),(r.length:Int)=p.regs→WT (nf p l).1 r s→wL l r=some r'→∃ s',wL (Jw p l) s=some s'∧WT (nf p []).1 r' s'
 | [],_,r,s,r',_,h,h1=>by cases h1;exact ⟨s,F9,h⟩
 | i :: l,hl,r,s,r',hlen,h,h1=>by
   have hmi:=hm i (hl i uE);obtain ⟨m1,m2,m3,m4,m5,m6,m7,m8⟩:=tY hmi;have hA:((nf p l).1.length:Int)=p.regs:=by rw [(PS p l).1];omega
   unfold wL at h1;obtain ⟨x,hx,h1⟩:=qC.1 h1;obtain ⟨hl1,hag⟩:=h;have hl':∀ j∈l,j∈p.code:=fun j hj=>hl j (by simp [hj]);have hlen':((r.set i.to.toNat x).length:Int)=p.regs:=by rw [aG];exact hlen
   rw [EC];by_cases hasked:(nf p l).1[i.to.toNat]?.getD default=true
   · have e:(nf p (i :: l)).1=vR ((nf p l).1.set i.to.toNat false) (tM i):=by simp only [nf];rw [aE hasked]
     rw [e] at hag;have hstep:∀ k:Nat,(nf p l).1[k]?.getD default=true→k≠i.to.toNat→r[k]?.getD 0=s[k]?.getD 0:=fun k hk hne=>by
      have hkA:k<(nf p l).1.length:=by
       rcases aK k (nf p l).1.length with h | h
       · exact h
       rw [cA h] at hk;cases hk
      refine hag k ?_;have hg:=Qs hA hmi (r:=(k:Int)) sW;rw [aF] at hg;rw [hg,hk,cD (show ¬i.to=(k:Int) by omega)];simp
     have hin:∀ q∈tM i,r[q.toNat]?.getD 0=s[q.toNat]?.getD 0:=fun q hq=>by
      have hqr:=Oa hmi q hq;refine hag q.toNat ?_;rw [Qs hA hmi hqr,bT hq,Bool.true_or]
     have haa:i.a∈tM i:=by
      unfold tM;split
      · exact bF
      first | exact bF | (rw [aE m1];exact bF)
     have hd:=KJ (hin _ haa) (fun h34=>hin _ WC);by_cases hno:wN i
     · rw [aD (fun h=>h.2 hno)];refine Ki hm l hl' (r.set i.to.toNat x) s r' hlen' ⟨by rw [aG];exact hl1,fun k hk=>?_⟩ h1;rw [Jz];split
       · rename_i hkk;obtain ⟨rfl,hk2⟩:=hkk;have hxa:x=r[i.to.toNat]?.getD 0:=by
          obtain ⟨n1,n2⟩:=hno;unfold Af at hx;simp [n1] at hx;rw [←hx,n2]
         rw [hxa];have:=hin i.a haa;rw [←hno.2] at this;exact this
       rename_i hkk;refine hstep k hk (fun hk3=>hkk ⟨hk3.symm,?_⟩);omega
     rw [aE ⟨hasked,hno⟩];show ∃ s',((Af i s).bind fun x=>wL (Jw p l) (s.set i.to.toNat x))=some s'∧_;rw [←hd,hx];refine Ki hm l hl' (r.set i.to.toNat x) (s.set i.to.toNat x) r' hlen' ⟨by rw [aG,aG];exact hl1,fun k hk=>?_⟩ h1;rw [Jz,Jz];by_cases hkk:i.to.toNat=k
     · rw [aE ⟨hkk,by omega⟩,aE ⟨hkk,by omega⟩]
     rw [aD (fun h=>hkk h.1),aD (fun h=>hkk h.1)];exact hstep k hk (fun h=>hkk h.symm)
   rw [aD (fun h=>hasked h.1)];have e:(nf p (i :: l)).1=(nf p l).1:=by simp only [nf];rw [aD hasked]
   rw [e] at hag;refine Ki hm l hl' (r.set i.to.toNat x) s r' hlen' ⟨by rw [aG];exact hl1,fun k hk=>?_⟩ h1;rw [Jz,aD ?_]
   · exact hag k hk
   rintro ⟨rfl,_⟩;exact hasked hk
theorem QQ {p:PV} {zs os:List Int} (hR:sY p=true) (hz:(zs.length:Int)=p.ins) (h:Du p zs=some os):Du (zX p) zs=some os:=by
 obtain ⟨f1,f2,f3,f4,f5,f6,f7,f8⟩:=tB hR;have hl:(wC p zs).length=p.regs.toNat:=by unfold wC;rw [aB,aJ];omega
 unfold Du at h ⊢;rw [wO p _ _ (aI _),bD] at h;rw [wO (zX p) _ _ (aI _),bD];obtain ⟨r',hr',rfl⟩:=jO.1 h;obtain ⟨s',hs',hag⟩:=Ki f8 p.code (fun i hi=>hi) (wC p zs) (wC p zs) r' sW ⟨F9,fun k _=>rfl⟩ hr';rw [JZ];show (wL (Jw p p.code) (wC p zs)).map (yW (zX p))=_;rw [hs'];show some (yW p s')=some (yW p r');congr 1;unfold yW;apply jL;intro q hq;refine (hag.2 q.toNat ?_).symm;show (vR (List.replicate p.regs.toNat false) p.outs)[q.toNat]?.getD default=true;rw [Uf sW f7 (f7 q hq),bT hq]
theorem Na {p:PV} {gs os:List (List Int)} {N:Nat} (hR:sY p=true) (hg:(gs.length:Int)=p.ins) (hN:Flat N gs) (h:tJ p gs=some os):tJ (zX p) gs=some os:=
 He hR (Qp hR) F9 F9 hg hN (fun zs ys hz h9=>QQ hR hz h9) h
def uS (m:Nat) (p:PV):PV:=if m % 3=0 then zD p else if m % 3=1 then xT p else zX p
def vX (p:PV):Nat→PV
 | 0=>p
 | k+1=>uS k (vX p k)
def Xe (m:Nat):ByteArray:=if m % 3=0 then ⟨#[102,111,108,100]⟩ else if m % 3=1 then ⟨#[115,104,97,114,101]⟩ else ⟨#[100,101,97,100]⟩
def Up:ByteArray:=⟨#[112,97,99,107]⟩
def wP (p:PV):Nat:=((List.range 15).find? fun n=>decide (vX p (3*n+3)=vX p (3*n))).getD 15
def Ae (p:PV):Nat:=3*wP p+3
structure NP where
 name:ByteArray
 p:PV
def tF (p:PV):List NP:=(List.range (Ae p)).map (fun k=>⟨Xe k,vX p (k+1)⟩)++[⟨Up,tO (vX p (Ae p))⟩]
theorem Xf (p:PV):wP p≤15:=by
 unfold wP;cases h:(List.range 15).find? fun n=>decide (vX p (3*n+3)=vX p (3*n)) with
 | none=>exact aI _
 | some n =>
   have:=List.mem_of_find?_eq_some h;rw [iO] at this;show n≤15;omega
theorem QR (p:PV):wP p=15∨vX p (3*wP p+3)=vX p (3*wP p):=by
 unfold wP;cases h:(List.range 15).find? fun n=>decide (vX p (3*n+3)=vX p (3*n)) with
 | none=>exact .inl F9
 | some n =>
   have:=List.find?_some h;exact .inr (fQ this)
theorem QS (p:PV) {n:Nat} (hn:n<wP p):¬vX p (3*n+3)=vX p (3*n):=by
 have h15:=Xf p;intro he;unfold wP at hn;cases h:(List.range 15).find? fun n=>decide (vX p (3*n+3)=vX p (3*n)) with
 | none =>
   rw [h] at hn;have hn15:n<15:=hn;rw [List.find?_eq_none] at h;exact h n (by rw [iO];exact hn15) (by simpa using he)
 | some m =>
   rw [h] at hn;have hn':n<m:=hn;rw [List.find?_range_eq_some] at h;have:=h.2.2 n hn';simp [he] at this
theorem zO (p:PV):(tF p).length=Ae p+1:=by unfold tF;rw [aB,aP,cB];rfl
theorem Uq (p:PV) {k:Nat} (hk:k<Ae p):(tF p)[k]?=some ⟨Xe k,vX p (k+1)⟩:=by
 unfold tF;rw [bJ (by rw [aP,cB];exact hk),bK,fB hk];rfl
theorem yP (p:PV):(tF p)[Ae p]?=some ⟨Up,tO (vX p (Ae p))⟩:=by
 unfold tF;rw [cL (by rw [aP,cB];exact aI _),aP,cB,iW];rfl
theorem Ie {p:PV} (h:sY p=true) (m:Nat):sY (uS m p)=true:=by
 unfold uS;split
 · exact Rd h
 split
 · exact AX h
 exact Qp h
theorem xS {p:PV} (h:sY p=true):∀ k,sY (vX p k)=true
 | 0=>h
 | k+1=>Ie (xS h k) k
theorem Ur {p:PV} (h:sY p=true) (m:Nat):(uS m p).ins=p.ins∧(uS m p).outs.length=p.outs.length∧(uS m p).code.length≤p.code.length:=by
 unfold uS;split
 · exact ⟨F9,F9,BE p⟩
 split
 · exact ⟨F9,by show (wG _ _).length=_;unfold wG;rw [aP],(Wo h _ (aI _)).2.1⟩
 exact ⟨F9,F9,Hu p _⟩
theorem Kj {p:PV} (h:sY p=true):∀ k,(vX p k).ins=p.ins∧(vX p k).outs.length=p.outs.length∧(vX p k).code.length≤p.code.length
 | 0=>⟨F9,F9,aI _⟩
 | k+1=>by
   obtain ⟨e1,e2,e3⟩:=Kj h k;obtain ⟨g1,g2,g3⟩:=Ur (xS h k) k;show (uS k (vX p k)).ins=_∧_∧_;exact ⟨by rw [g1,e1],by show (uS k (vX p k)).outs.length=_;rw [g2,e2],by show (uS k (vX p k)).code.length≤_;omega⟩
theorem If {p:PV} {gs os:List (List Int)} {N:Nat} (hR:sY p=true) (hg:(gs.length:Int)=p.ins) (hN:Flat N gs) (h:tJ p gs=some os):∀ k,tJ (vX p k) gs=some os
 | 0=>h
 | k+1=>by
   have ih:=If hR hg hN h k;have hk:=xS hR k;have hi:=(Kj hR k).1;show tJ (uS k (vX p k)) gs=_;unfold uS;split
   · exact Mz hk (by rw [hi];exact hg) hN ih
   split
   · rw [Mr hk (by rw [hi];exact hg)];exact ih
   exact Na hk (by rw [hi];exact hg) hN ih
theorem Nb {p:PV} (hR:sY p=true):(tO p).ins=p.ins∧(tO p).outs.length=p.outs.length∧(tO p).code.length≤p.code.length:=by
 refine ⟨F9,?_,(Xc hR _ (aI _)).2⟩;show ((lifeP p).outs.map _).length=_;rw [aP];have:=Ic p p.outs.length (aI _);show (wJ p p.outs.length).outs.length=_;rw [this,bD,aP]
theorem Dr {p:PV} (hR:sY p=true) {k:Nat} {x:NP} (h:(tF p)[k]?=some x):sY x.p=true∧x.p.ins=p.ins∧x.p.outs.length=p.outs.length∧x.p.code.length≤p.code.length∧
 ∀ (gs os:List (List Int)) (N:Nat),(gs.length:Int)=p.ins→Flat N gs→tJ p gs=some os→tJ x.p gs=some os:=by
 have hlt:k<(tF p).length:=(bI.1 h).1;rw [zO] at hlt;rcases aK k (Ae p) with hk | hk
 · rw [Uq p hk] at h;cases h;obtain ⟨e1,e2,e3⟩:=Kj hR (k+1);exact ⟨xS hR _,e1,e2,e3,fun gs os N hg hN h=>If hR hg hN h _⟩
 have:k=Ae p:=sW;subst this;rw [yP] at h;cases h;obtain ⟨e1,e2,e3⟩:=Kj hR (Ae p);obtain ⟨g1,g2,g3⟩:=Nb (xS hR (Ae p));refine ⟨My (xS hR _),by rw [g1,e1],by rw [g2,e2],by show (tO _).code.length≤_;omega,fun gs os N hg hN h=>Kh (xS hR _) (by rw [e1];exact hg) (If hR hg hN h _)⟩
def fj (s:Pl) (bm bp:Nat) (a:Option Addr) (c:Nat) (junk:List Value):Hp:=
 [(0,some bp,.cells #[.map (some bm),.slice a s.free.length c] 140),(1,some bm,B0 s.at_),(2,a.map (·.block),Row 4 s.free junk)]
theorem md (G:A3) (p:PV) (ac ao:Option Addr) (cc co:Nat) (r:Int) :
 Does Tryz.prog 142 [.agg (I0 p ac cc ao co),.int .i64 r] G [] (fun v G' Ho=>v=.int .i64 (min r p.ins)∧G'=G∧Ho=[]):=by
 refine D0 Tryz.func142 Tryz.ntmps142 fun w=>?_;refine aH 2 [] ?_;refine eC 0 fun b1=>?_;refine aL 8 [0] ?_;refine aQ (Qy.min F9 F9) ?_;refine aS 4 [] ?_;refine dA ?_;refine ⟨?_,F9,F9⟩;congr 1;split <;> omega
theorem QT {l:List Bool} {k:Nat} (hk:k<l.length) (h:∀ j:Nat,j<k→l[j]?.getD default=false) (hb:l[k]?.getD default=true):least l=k:=by
 unfold least;rw [List.findIdx_eq hk];rw [aA hk] at hb;refine ⟨hb,fun j hj=>?_⟩;have:=h j hj;rw [aA sW] at this;exact this
theorem ED {l:List Bool} (h:∀ j:Nat,j<l.length→l[j]?.getD default=false):least l=l.length:=by
 unfold least;rw [List.findIdx_eq_length];intro x hx;obtain ⟨j,hj,rfl⟩:=gF.1 hx;have:=h j hj;rw [aA hj] at this;exact this
theorem c82 (G:A3) (s:Pl) (bm bp:Nat) (a:Option Addr) (c:Nat) (junk:List Value) (v u:Int) (ho:A4 a c s.free junk) (hl:s.free.length≤1048576) :
 Does Tryz.prog 82 [.pointer (some ⟨bp,0,none⟩),.int .i64 v,.int .i64 u] G (fj s bm bp a c junk) (fun r G' Ho=>∃ a' c' j',r=.tuple #[]∧A4 a' c' (Ly s v u).free j'∧G'=G∧Ho=fj (Ly s v u) bm bp a' c' j'):=by
 refine D0 Tryz.func82 Tryz.ntmps82 fun w=>?_;refine dN ?_;refine dK [2,1,0] [(1,10)] T.mixed [[0],[1],[2],[3,0],[4],[5],[6],[7],[8,0],[9]] ?_;refine bE 10 ?_;refine Wl.mapUpdate 1 T.mp137 F9 F9 F9 F9 ?_;refine fJ ?_;refine lK 9 [0] ?_;refine cC (α:=Bool) 3 [(Decidable.decide (u<0))] F9 T.sl138 T.el4 F9 F9 F9 F9 F9 fun b1=>?_;refine kM (α:=Bool) 2 T.sl138 T.el4 (cQ 3 F9) fun a1 c1 junk1 ho1=>?_;refine aS 4 [0] ?_;refine mR [0,1,2] tG (kH (.inl F9) F9  (mI 0 _) ?_);exact ⟨a1,c1,junk1,F9,ho1,F9,F9⟩
theorem QU (s:Pl) (v:Int) (h:least s.free<s.free.length):wY s v=⟨Co s.at_ v (least s.free),s.free.set (least s.free) false⟩:=by unfold wY;rw [aE h]
theorem VM (s:Pl) (v:Int) (h:¬least s.free<s.free.length):wY s v=⟨Co s.at_ v (least s.free),s.free++[false]⟩:=by unfold wY;rw [aD h]
theorem c84 (G:A3) (s:Pl) (bm bp:Nat) (a:Option Addr) (c:Nat) (junk:List Value) (v:Int) (ho:A4 a c s.free junk) (hl:s.free.length≤1048576) (hm:A8 s.at_ v=none) :
 Does Tryz.prog 84 [.pointer (some ⟨bp,0,none⟩),.int .i64 v] G (fj s bm bp a c junk) (fun r G' Ho=>∃ a' c' j',r=.int .i64 (least s.free)∧A4 a' c' (wY s v).free j'∧G'=G∧Ho=fj (wY s v) bm bp a' c' j'):=by
 refine D0 Tryz.func84 Tryz.ntmps84 fun w=>?_;refine bL 5 [] ?_;refine lX ?_;refine bL 15 [0] ?_;refine iA (ι:=Nat) (fun k=>([(12,.int .i64 (k:Int)),(4,.int .i64 0),(11,.int .i64 (↑(List.length (Pl.free s)):Int)),(10,.slice a (List.length (Pl.free s)) c),(0,.pointer (some (Addr.mk bp 0 none))),(1,.int .i64 v)],[(0,some bp,.cells #[Go.Value.map (some bm),.slice a (List.length (Pl.free s)) c] 140),(1,some bm,Go.Sl.B0 (κ:=Int) (Pl.at_ s)),(2,Option.map (fun x=>Go.Addr.block x) a,Row (α:=Bool) 4 (Pl.free s) (junk))])) (fun k=>k≤s.free.length∧∀ j:Nat,j<k→s.free[j]?.getD default=false) (fun k=>s.free.length - k) (0) (⟨aN _,fun j hj=>by omega⟩) fun k=>fun hk=>?_;obtain ⟨hk1,hk2⟩:=hk;rcases aK k s.free.length with hlt | hge
 · refine aH 14 [1] ?_;refine iK (α:=Bool) T.sl138 ?_;refine nG 2 0 T.one4 ?_;refine aZ 11 [] ?_;refine lN F9 (fun hc1=>?_) fun hc1=>?_;refine bG 8 [] ?_;rotate_left;refine bL 3 [] ?_;refine dK [2,1,0] [(0,15),(2,15),(1,13),(1,11)] T.mixed [[0],[1],[2],[3,0],[4],[5],[6],[7],[8,0],[9],[10]] ?_;refine bE 11 ?_;refine Wl.mapEntry 1 F9 T.mp137 F9 F9 F9 sX ?_;refine aT ?_;refine dP [[12]] ?_;refine bE 13 ?_;refine rR 1 F9 F9 F9 F9 ?_;refine aT ?_;refine fO (α:=Bool) 14 T.sl138 ?_;refine bE 15 ?_;refine dJ (z:=_) 2 T.size4 F9 F9 F9 sX sW F9 fun ho1=>?_;refine fJ ?_;refine dO 13 [] ?_;refine jJ ?_;refine mR [0,1,2] tG (cK (.inr F9) F9 (.tmp F9) (mI 0 _) ?_);rotate_left
   · refine cM (k+1) ?_ ?_
     · refine ⟨hlt,fun j hj=>?_⟩;by_cases hjk:j=k
       · subst hjk;rw [aF] at hc1;simpa using hc1
       exact hk2 j sW
     show s.free.length - (k+1)<s.free.length - k;omega
   rw [aF] at hc1;have hle:least s.free=k:=QT hlt hk2 (by simpa using hc1);have hg:=QU s v (by rw [hle];exact hlt);rw [hle] at hg;rw [aF] at ho1;refine ⟨a,c,junk,by rw [hle],by rw [hg];exact ho1,F9,?_⟩;rw [hg,zF _ _ _ hm,aF];show _=[(0,some bp,.cells #[.map (some bm),.slice a (s.free.set k false).length c] 140),(1,some bm,B0 (s.at_++[(v,(k:Int))])),(2,a.map (·.block),Row 4 (s.free.set k false) junk)];rw [aG];rfl
 refine bL 13 [0] ?_;refine dK [2,1,0] [(1,10)] T.mixed [[0],[1],[2],[3,0],[4],[5],[6],[7],[8,0],[9]] ?_;refine bE 10 ?_;refine Wl.mapUpdate 1 T.mp137 F9 F9 F9 F9 ?_;refine fJ ?_;refine lK 8 [0] ?_;refine cC (α:=Bool) 3 [(Bool.false)] F9 T.sl138 T.el4 F9 F9 F9 F9 F9 fun b1=>?_;refine kM (α:=Bool) 2 T.sl138 T.el4 (cQ 3 F9) fun a1 c1 junk1 ho1=>?_;refine aL 12 [0,0] ?_;refine aQ (Io F9 F9) ?_;refine aS 4 [] ?_;refine jJ ?_;refine mR [0,1,2] tG (cK (.inr F9) F9 (.tmp F9) (mI 0 _) ?_);have hke:k=s.free.length:=sW;have hle:least s.free=s.free.length:=ED (fun j hj=>hk2 j sW);have hg:=VM s v (by rw [hle];omega);refine ⟨a1,c1,junk1,?_,by rw [hg];exact ho1,F9,?_⟩
 · rw [hle,aB];show Value.int .i64 (IntKind.i64.wrap (((s.free.length+1:Nat):Int) - 1))=_;rw [show (((s.free.length+1:Nat):Int) - 1)=s.free.length by omega,jV _ sW]
 rw [hg,hle];rfl
theorem VN {xs ys:List Int} (h:xs.length=ys.length) (he:∀ i:Nat,i<xs.length→xs[i]?.getD default=ys[i]?.getD default):xs=ys:=by
 refine gD h fun i h1 h2=>?_;have:=he i h1;rw [aA h1,aA h2] at this;exact this
theorem Xg {a:Option Addr} {c:Nat} {xs:List Int} {junk:List Value} (h:A4 a c xs junk) (n:Nat) (x:Int):A4 a c (xs.set n x) junk:=by
 rcases h with ⟨h1,h2,h3,h4⟩ | ⟨b,h1,h2,h3,h4⟩
 · exact .inl ⟨h1,by rw [h2];rfl,h3,h4⟩
 exact .inr ⟨b,h1,by rw [aG];exact h2,by rw [aG];exact h3,h4⟩
theorem Rm (p:PV):∀ j,(wJ p j).held=(tH p p.code.length).held
 | 0=>rfl
 | j+1=>Rm p j
theorem Bo (p:PV):∀ j,(wJ p j).a=(tH p p.code.length).a∧(wJ p j).b=(tH p p.code.length).b∧(wJ p j).sets=(tH p p.code.length).sets
 | 0=>⟨F9,F9,F9⟩
 | j+1=>Bo p j
def eg (p:PV) (l:Life) (ac ao:Option Addr) (cc co u:Nat) (nb:Option Addr) (nc:Nat) (nj:List Value) (x y z n:Nat) (oo:Option Addr) (od:Nat) (oj:List Value) (o:Option Addr) (d:Nat) (j:List Value):Hp:=
 [(0,some u,.cells #[.int .i64 p.ins,.int .i64 p.regs,.slice ac p.code.length cc,.slice ao p.outs.length co,.slice nb (tD p).length nc,.slice (some ⟨x,0,none⟩) l.a.length n,.slice (some ⟨y,0,none⟩) l.b.length n,.slice (some ⟨z,0,none⟩) l.sets.length n,.slice oo l.outs.length od,.slice o l.till.length d] 143),
  (1,nb.map (·.block),Row 4 (tD p) nj),(2,some x,Row 3 l.a []),(3,some y,Row 3 l.b []),(4,some z,Row 3 l.sets []),(5,oo.map (·.block),Row 3 l.outs oj),(6,o.map (·.block),Row 3 l.till j)]
theorem Ig {l:List Int} {k:Nat} {x:Int} (h:k<l.length):(l.set ((k:Nat):Int).toNat x)[((k:Nat):Int).toNat]?.getD default=x:=by
 rw [aF,List.getElem?_set_self h];rfl
theorem c81 (G:A3) (p:PV) (ac ao:Option Addr) (cc co:Nat) (hc:Arr G ac p.code) (ho:Arr G ao p.outs) (h1:p.code.length≤1099511627776) (h2:p.outs.length≤1099511627776) (hR:sY p=true) :
 Does Tryz.prog 81 [.agg (I0 p ac cc ao co)] G [] (fun v G' Ho=>∃ u nb nc nj x y z n oo od oj o d j,v=.tuple #[.pointer (some ⟨u,0,none⟩),.int .i64 0]∧A4 nb nc (tD p) nj∧A4 (some ⟨x,0,none⟩) n (lifeP p).a []∧A4 (some ⟨y,0,none⟩) n (lifeP p).b []∧A4 (some ⟨z,0,none⟩) n (lifeP p).sets []∧A4 oo od (lifeP p).outs oj∧A4 o d (lifeP p).till j∧
  Ho=eg p (lifeP p) ac ao cc co u nb nc nj x y z n oo od oj o d j∧G'=G):=by
 obtain ⟨r1,r2,r3,r4,r5,r6,r7,r8⟩:=tB hR;refine D0 Tryz.func81 Tryz.ntmps81 fun w=>?_;refine aH 2 [] ?_;refine eC 0 fun b1=>?_;refine aL 7 [0] ?_;refine bS 1 F9 (mc _ _ _ _ _ _ sX sX sW sW hR) fun v1 G1 Ho1 hle1 hp=>?_;obtain ⟨nb1,nc1,nj1,rfl,hon1,rfl,rfl⟩:=hp;refine aZ 25 [0,0] ?_;refine pL (ι:=Nat×Nat×Nat×Nat) (fun (x,y,z,u)=>([(7,.pointer (some ⟨u,0,none⟩)),(6,.int .i64 (↑p.code.length:Int)),(4,.slice nb1 (List.length (tD p)) nc1),(3,.int .i64 0),(2,.pointer none),(1,.pointer (some ⟨b1,0,none⟩))],[(60,some x,Row 3 (List.replicate p.code.length (0:Int)) []),(61,some y,Row 3 (List.replicate p.code.length (0:Int)) []),(62,some z,Row 3 (List.replicate p.code.length (0:Int)) []),(63,some u,.cells #[.int .i64 p.ins,.int .i64 p.regs,.slice ac p.code.length cc,.slice ao p.outs.length co,.slice nb1 (tD p).length nc1,.slice (some ⟨x,0,none⟩) (List.replicate p.code.length (0:Int)).length (List.replicate p.code.length (0:Int)).length,.slice (some ⟨y,0,none⟩) (List.replicate p.code.length (0:Int)).length (List.replicate p.code.length (0:Int)).length,.slice (some ⟨z,0,none⟩) (List.replicate p.code.length (0:Int)).length (List.replicate p.code.length (0:Int)).length,.slice none 0 0,.slice none 0 0] 143),(1,Option.map (fun x=>Go.Addr.block x) nb1,Row (α:=Bool) 4 (tD p) (nj1)),(0,some b1,.cells (I0 p ac cc ao co) 26)])) (fun (x,y,z,u)=>True) ?_ fun ⟨x,y,z,u⟩=>fun (hk:True)=>?_
 · refine dK [0,1] [] T.mixed [[0,0],[1],[2],[4],[6]] ?_;refine Gm.o3 3 5 7 ?_ ?_ ?_;refine gN (α:=Int) 2 F9 T.sl24 T.el3 F9 F9 sW sW fun b2=>?_;refine aT ?_;refine mK 5 7 ?_ ?_;refine gN (α:=Int) 3 F9 T.sl24 T.el3 F9 F9 sW sW fun b3=>?_;refine cX 7 ?_;refine gN (α:=Int) 4 F9 T.sl24 T.el3 F9 F9 sW sW fun b4=>?_;refine aT ?_;refine eD 8 [] F9 (bP (cs:=[_,_,_,_,_,_,_,_,_,_]) T.st143 F9 F9 F9) ?_;refine bE 9 ?_;refine eC 5 fun b5=>?_;refine aT ?_;refine dP [[10]] ?_;refine cT ?_;rotate_left;refine gN (α:=Int) 3 F9 T.sl24 T.el3 F9 F9 sW sW fun b3=>?_;refine cX 5 ?_;refine gN (α:=Int) 4 F9 T.sl24 T.el3 F9 F9 sW sW fun b4=>?_;refine aT ?_;refine eD 8 [] F9 (bP (cs:=[_,_,_,_,_,_,_,_,_,_]) T.st143 F9 F9 F9) ?_;refine bE 9 ?_;refine eC 5 fun b5=>?_;refine aT ?_;refine dP [[10]] ?_;refine cT ?_;rotate_left;refine gN (α:=Int) 2 F9 T.sl24 T.el3 F9 F9 sW sW fun b2=>?_;refine aT ?_;refine mK 3 7 ?_ ?_;refine gN (α:=Int) 3 F9 T.sl24 T.el3 F9 F9 sW sW fun b3=>?_;refine cX 7 ?_;refine gN (α:=Int) 4 F9 T.sl24 T.el3 F9 F9 sW sW fun b4=>?_;refine aT ?_;refine eD 8 [] F9 (bP (cs:=[_,_,_,_,_,_,_,_,_,_]) T.st143 F9 F9 F9) ?_;refine bE 9 ?_;refine eC 5 fun b5=>?_;refine aT ?_;refine dP [[10]] ?_;refine cT ?_;rotate_left;refine gN (α:=Int) 3 F9 T.sl24 T.el3 F9 F9 sW sW fun b3=>?_;refine cX 3 ?_;refine gN (α:=Int) 4 F9 T.sl24 T.el3 F9 F9 sW sW fun b4=>?_;refine aT ?_;refine eD 8 [] F9 (bP (cs:=[_,_,_,_,_,_,_,_,_,_]) T.st143 F9 F9 F9) ?_;refine bE 9 ?_;refine eC 5 fun b5=>?_;refine aT ?_;refine dP [[10]] ?_;refine cT ?_;rotate_left;refine gN (α:=Int) 2 F9 T.sl24 T.el3 F9 F9 sW sW fun b2=>?_;refine aT ?_;refine mK 3 5 ?_ ?_;refine gN (α:=Int) 3 F9 T.sl24 T.el3 F9 F9 sW sW fun b3=>?_;refine cX 5 ?_;refine gN (α:=Int) 4 F9 T.sl24 T.el3 F9 F9 sW sW fun b4=>?_;refine aT ?_;refine eD 8 [] F9 (bP (cs:=[_,_,_,_,_,_,_,_,_,_]) T.st143 F9 F9 F9) ?_;refine bE 9 ?_;refine eC 5 fun b5=>?_;refine aT ?_;refine dP [[10]] ?_;refine cT ?_;rotate_left;refine gN (α:=Int) 3 F9 T.sl24 T.el3 F9 F9 sW sW fun b3=>?_;refine cX 3 ?_;refine gN (α:=Int) 4 F9 T.sl24 T.el3 F9 F9 sW sW fun b4=>?_;refine aT ?_;refine eD 8 [] F9 (bP (cs:=[_,_,_,_,_,_,_,_,_,_]) T.st143 F9 F9 F9) ?_;refine bE 9 ?_;refine eC 5 fun b5=>?_;refine aT ?_;refine dP [[10]] ?_;refine cT ?_;rotate_left;all_goals first | (refine Ar.retag 2 60 F9 F9 (Ar.retag 3 61 F9 F9 (Ar.retag 4 62 F9 F9 (Ar.retag 5 63 F9 F9 (pR (b2,b3,b4,b5) H2 F9 ?_ ?_)))) <;> (repeat (first | exact H2 | refine ⟨F9,?_⟩));done) | (refine Ar.retag 2 60 F9 F9 (Ar.retag 4 61 F9 F9 (Ar.retag 3 62 F9 F9 (Ar.retag 5 63 F9 F9 (pR (b2,b4,b3,b5) H2 F9 ?_ ?_)))) <;> (repeat (first | exact H2 | refine ⟨F9,?_⟩));done) | (refine Ar.retag 3 60 F9 F9 (Ar.retag 2 61 F9 F9 (Ar.retag 4 62 F9 F9 (Ar.retag 5 63 F9 F9 (pR (b3,b2,b4,b5) H2 F9 ?_ ?_)))) <;> (repeat (first | exact H2 | refine ⟨F9,?_⟩));done) | (refine Ar.retag 3 60 F9 F9 (Ar.retag 4 61 F9 F9 (Ar.retag 2 62 F9 F9 (Ar.retag 5 63 F9 F9 (pR (b3,b4,b2,b5) H2 F9 ?_ ?_)))) <;> (repeat (first | exact H2 | refine ⟨F9,?_⟩));done) | (refine Ar.retag 4 60 F9 F9 (Ar.retag 2 61 F9 F9 (Ar.retag 3 62 F9 F9 (Ar.retag 5 63 F9 F9 (pR (b4,b2,b3,b5) H2 F9 ?_ ?_)))) <;> (repeat (first | exact H2 | refine ⟨F9,?_⟩));done) | (refine Ar.retag 4 60 F9 F9 (Ar.retag 3 61 F9 F9 (Ar.retag 2 62 F9 F9 (Ar.retag 5 63 F9 F9 (pR (b4,b3,b2,b5) H2 F9 ?_ ?_)))) <;> (repeat (first | exact H2 | refine ⟨F9,?_⟩));done)
 clear hk;refine aH 4 [0] ?_;refine gN (α:=Int) 64 F9 T.sl24 T.el3 F9 F9 sW sW fun b2=>?_;refine aZ 12 [] ?_;obtain ⟨Z,hZ⟩:∃ Z,Z=List.replicate p.code.length (0:Int):=⟨_,F9⟩
 have hZl:Z.length=p.code.length:=by rw [hZ,aJ]
 have hno:∀ b:Nat,A4 (some ⟨b,0,none⟩) Z.length Z []:=fun b=>fP Of;obtain ⟨R,hRn⟩:∃ R:Nat,p.regs=(R:Int):=⟨p.regs.toNat,by omega⟩
 have hRt:p.regs.toNat=R:=sW;rw [←hZ,hRt];have hown:∀ h:List Int,h.length=R→A4 (some ⟨b2,0,none⟩) R h []:=fun h hh=>.inr ⟨b2,F9,by rw [hh];rfl,by omega,by simp only [maxLen];omega⟩;refine iP 8 F9 (show _=Value.slice (some ⟨b2,0,none⟩) (List.replicate R (default:Int)).length R by rw [aJ]) ?_;refine iP 39 F9 (show _=Value.int .i64 (R:Int) by rw [aJ]) ?_;refine iA (ι:=Nat×List Int) (fun (k,h)=>([(40,.int .i64 (k:Int)),(8,.slice (some ⟨b2,0,none⟩) h.length R),(39,.int .i64 (↑R:Int)),(7,.pointer (some (Addr.mk u 0 none))),(6,.int .i64 (↑p.code.length:Int)),(4,.slice nb1 (List.length (tD p)) nc1),(3,.int .i64 0),(2,.pointer none),(1,.pointer (some ⟨b1,0,none⟩))],[(64,some b2,Row 3 h []),(60,some x,Row (α:=Int) 3 (Z) ([])),(61,some y,Row (α:=Int) 3 (Z) ([])),(62,some z,Row (α:=Int) 3 (Z) ([])),(63,some u,.cells #[.int .i64 p.ins,.int .i64 p.regs,.slice ac p.code.length cc,.slice ao p.outs.length co,.slice nb1 (List.length (tD p)) nc1,.slice (some (Addr.mk x 0 none)) (List.length Z) (List.length Z),.slice (some (Addr.mk y 0 none)) (List.length Z) (List.length Z),.slice (some (Addr.mk z 0 none)) (List.length Z) (List.length Z),.slice none 0 0,.slice none 0 0] 143),(1,Option.map (fun x=>Go.Addr.block x) nb1,Row (α:=Bool) 4 (tD p) (nj1)),(0,some b1,.cells (I0 p ac cc ao co) 26)])) (fun (k,h)=>k≤R∧h.length=R∧∀ q:Nat,q<k→h[q]?.getD default=min (q:Int) p.ins) (fun (k,h)=>R - k) ((0,List.replicate R (default:Int))) (⟨aN _,aJ,fun q hq=>by omega⟩) fun ⟨k,h⟩=>fun hk=>?_;obtain ⟨hk1,hhl,hhe⟩:=hk;have hoh:=hown h hhl;rcases aK k R with hkR | hkR
 · refine aH 22 [1,0] ?_;refine cF F9 (md _ _ _ _ _ _ _) ?_;refine iK (α:=Int) T.sl24 ?_;refine dJ (z:=_) 64 T.size3 F9 F9 F9 sX sW F9 fun ho1=>?_;refine aS 7 [] ?_;refine cE 8 F9 (show _=Value.slice (some ⟨b2,0,none⟩) (h.set (k:Int).toNat (min (k:Int) p.ins)).length R by rw [aG]) ?_;refine cM ((k+1,h.set (k:Int).toNat (min (k:Int) p.ins))) ?_ ?_
   · refine ⟨hkR,by rw [aG];exact hhl,fun q hq=>?_⟩;rw [aF,cI];by_cases hqk:k=q
     · subst hqk;rw [aE rfl,aE (by omega)];rfl
     rw [aD hqk];exact hhe q sW
   show R - (k+1)<R - k;omega
 have hh0:h=(wI p).held:=by
  refine VN (by rw [hhl];show R=((List.range p.regs.toNat).map _).length;rw [aP,cB,hRt]) fun q hq=>?_;rw [hhe q sW];show _=((List.range p.regs.toNat).map fun (r:Nat)=>min (r:Int) p.ins)[q]?.getD default;rw [bK,fB sW];rfl
 refine bL 22 [0,0] ?_;refine eF 65 (Row 3 ([]:List Int) []) ?_;refine fX (ι:=Nat×List Int×(Option Addr×Nat×List Value)) (fun (i,t,(o,d,j))=>([(53,.int .i64 (i:Int)),(52,.int .i64 (PV.ins p+1)),(8,.slice (some (Addr.mk b2 0 none)) (List.length h) R),(7,.pointer (some (Addr.mk u 0 none))),(6,.int .i64 (↑p.code.length:Int)),(4,.slice nb1 (List.length (tD p)) nc1),(3,.int .i64 0),(2,.pointer none),(1,.pointer (some ⟨b1,0,none⟩))],[(63,some u,.cells #[.int .i64 p.ins,.int .i64 p.regs,.slice ac p.code.length cc,.slice ao p.outs.length co,.slice nb1 (tD p).length nc1,.slice (some ⟨x,0,none⟩) Z.length Z.length,.slice (some ⟨y,0,none⟩) Z.length Z.length,.slice (some ⟨z,0,none⟩) Z.length Z.length,.slice none 0 0,.slice o t.length d] 143),(65,o.map (·.block),Row 3 t j),(64,some b2,Row (α:=Int) 3 (h) ([])),(60,some x,Row (α:=Int) 3 (Z) ([])),(61,some y,Row (α:=Int) 3 (Z) ([])),(62,some z,Row (α:=Int) 3 (Z) ([])),(1,Option.map (fun x=>Go.Addr.block x) nb1,Row (α:=Bool) 4 (tD p) (nj1)),(0,some b1,.cells (I0 p ac cc ao co) 26)])) (fun (i,t,(o,d,j))=>(i:Int)≤p.ins+1∧t=List.replicate i (-1)∧A4 o d t j) (fun (i,t,(o,d,j))=>p.ins.toNat+1 - i) ((0,[],(none,0,[]))) (⟨by show (0:Int)≤_;omega,F9,eG⟩) ⟨F9,F9,F9,F9,F9,F9,F9,F9,F9,H2⟩ ⟨F9,F9,F9,F9,F9,F9,F9,F9,H2⟩ fun ⟨i,t,(o,d,j)⟩=>fun hk=>?_;obtain ⟨hi1,hti,hot⟩:=hk;have htl:t.length=i:=by rw [hti,aJ]
 by_cases hii:(i:Int)<p.ins+1
 · refine aH 17 [1,63] ?_;refine cC (α:=Int) 66 [(-1)] F9 T.sl24 T.el3 F9 F9 F9 F9 F9 fun b3=>?_;refine kM (α:=Int) 65 T.sl24 T.el3 (cQ 66 F9) fun a1 c1 junk1 ho1=>?_;refine aS 10 [63] ?_;refine cM ((i+1,t++[-1],(a1,c1,junk1))) ?_ ?_
   · exact ⟨by omega,by rw [hti,List.replicate_succ'],ho1⟩
   show p.ins.toNat+1 - (i+1)<p.ins.toNat+1 - i;omega
 refine bL 22 [0,0] ?_;have htt:t=(wI p).till:=by
  rw [hti,show i=p.ins.toNat+1 by omega];rfl
 have hZ':Z=(wI p).a:=hZ;subst htt hh0 hZ';have hno9:∀ (b:Nat) (l:List Int),l.length=p.code.length→A4 (some ⟨b,0,none⟩) (wI p).a.length l []:=fun b l hl=>.inr ⟨b,F9,by rw [hZl,hl];rfl,by omega,by simp only [maxLen];omega⟩;refine fX (ι:=Nat×Life×(Option Addr×Nat×List Value)) (fun (k,l,(o,d,j))=>([(68,.int .i64 (k:Int)),(8,.slice (some ⟨b2,0,none⟩) l.held.length R),(67,.int .i64 (↑p.code.length:Int)),(66,.slice ac p.code.length cc),(7,.pointer (some (Addr.mk u 0 none))),(6,.int .i64 (↑p.code.length:Int)),(4,.slice nb1 (List.length (tD p)) nc1),(3,.int .i64 0),(2,.pointer none),(1,.pointer (some ⟨b1,0,none⟩))],[(60,some x,Row 3 l.a []),(61,some y,Row 3 l.b []),(62,some z,Row 3 l.sets []),(64,some b2,Row 3 l.held []),(63,some u,.cells #[.int .i64 p.ins,.int .i64 p.regs,.slice ac p.code.length cc,.slice ao p.outs.length co,.slice nb1 (tD p).length nc1,.slice (some ⟨x,0,none⟩) l.a.length (wI p).a.length,.slice (some ⟨y,0,none⟩) l.b.length (wI p).a.length,.slice (some ⟨z,0,none⟩) l.sets.length (wI p).a.length,.slice none 0 0,.slice o l.till.length d] 143),(65,o.map (·.block),Row 3 l.till j),(1,Option.map (fun x=>Go.Addr.block x) nb1,Row (α:=Bool) 4 (tD p) (nj1)),(0,some b1,.cells (I0 p ac cc ao co) 26)])) (fun (k,l,(o,d,j))=>k≤p.code.length∧l=tH p k∧A4 o d l.till j) (fun (k,l,(o,d,j))=>p.code.length - k) ((0,wI p,(o,d,j))) (⟨aN _,F9,hot⟩) ⟨F9,F9,F9,F9,F9,F9,F9,F9,F9,F9,H2⟩ ⟨F9,F9,F9,F9,F9,F9,F9,F9,H2⟩ fun ⟨k,l,(o,d,j)⟩=>fun hk=>?_;obtain ⟨hk9,hlk,hol⟩:=hk;have hok:=xR hR k hk9;rw [←hlk] at hok;obtain ⟨k1,k2,k3,k4,k5,k6,k7,k8,k9,k10,k11⟩:=hok;have hoa:=hno9 x l.a k1;have hob:=hno9 y l.b k2;have hoz:=hno9 z l.sets k3;have hoh2:=hown l.held sW;rcases aK k p.code.length with hkc | hkc
 · have hm:=xO hR hkc;unfold yH at hm;have hnl:(tD p).length=p.code.length:=(wU p _).2;have hva:0≤l.held[(p.code[(k:Int).toNat]?.getD default).a.toNat]?.getD default∧l.held[(p.code[(k:Int).toNat]?.getD default).a.toNat]?.getD default<l.till.length:=k7 _ (get_mem (by have:=(tY hm).2.2.1;omega));obtain ⟨m1,m2,m3,m4,m5,m6,m7,m8⟩:=tY hm;have hI:yH p k=p.code[(k:Int).toNat]?.getD default:=rfl;have m4':1<((tM (p.code[(k:Int).toNat]?.getD default)).length:Int)→0≤(p.code[(k:Int).toNat]?.getD default).b∧(p.code[(k:Int).toNat]?.getD default).b<p.regs:=fun h=>m4 (Lw sW);refine aH 14 [1] ?_;refine fV (α:=Sl.Instr) T.sl23 ?_;refine lP T.agg91 ?_;refine aM 66 F9 T.zero91 fun b3=>?_;refine aL 9 [66] ?_;refine iK (α:=Bool) T.sl138 ?_;refine nG 1 0 T.one4 ?_;refine aZ 3 [] ?_;refine lN F9 (fun hc1=>?_) fun hc1=>?_;refine bG 8 [] ?_;rotate_left;refine bL 3 [] ?_;refine dK [0,1,65,63,64,62,61,60,66] [(66,23),(60,23),(61,23),(62,23),(64,23),(63,23),(65,23),(1,23),(0,23),(66,21),(60,21),(61,21),(62,21),(64,21),(63,21),(65,21),(1,21),(0,21)] T.mixed [[0],[1],[2],[3,63],[4],[5],[6],[7],[8,63],[9],[10],[11],[12,66]] ?_;refine fO (α:=Int) 13 T.sl24 ?_;refine eD 14 [0,64] F9 (fG 64 0 T.one3 F9 F9 sX sW F9 F9) ?_;refine dP [[15],[16]] ?_;refine bE 17 ?_;refine aC 1 [66] ?_;refine aT ?_;refine fO (α:=Int) 18 T.sl24 ?_;refine eD 19 [0,64] F9 (fG 64 0 T.one3 F9 F9 sX sW F9 F9) ?_;refine fO (α:=Int) 20 T.sl24 ?_;refine bE 21 ?_;refine dJ (z:=_) 60 T.size3 F9 F9 F9 sX sW F9 fun ho1=>?_;refine aT ?_;refine fO (α:=Int) 22 T.sl24 ?_;refine bE 23 ?_;refine dJ (z:=_) 61 T.size3 F9 F9 F9 sX sW F9 fun ho2=>?_;refine fJ ?_;refine cN ?_;rotate_left
   · have hn:¬Bq p k=true:=by unfold Bq;simpa using hc1
     refine cM ((k+1,l,(o,d,j))) ?_ ?_
     · exact ⟨hkc,by rw [hlk];exact (aD hn).symm,hol⟩
     show p.code.length - (k+1)<p.code.length - k;omega
   have hn:Bq p k=true:=by unfold Bq;simpa using hc1
   refine pL (ι:=Int) (fun v=>([(4,.slice nb1 (tD p).length nc1),(66,.slice ac p.code.length cc),(67,.int .i64 (p.code.length:Int)),(10,.int .i64 (↑k:Int)),(11,.pointer (some (Addr.mk b3 0 none))),(68,.int .i64 (↑k:Int)),(8,.slice (some (Addr.mk b2 0 none)) (List.length (Life.held l)) R),(7,.pointer (some (Addr.mk u 0 none))),(6,.int .i64 (↑p.code.length:Int)),(3,.int .i64 0),(2,.pointer none),(1,.pointer (some ⟨b1,0,none⟩))],[(61,some y,Row 3 (l.b.set (k:Int).toNat v) []),(60,Option.map (fun x=>Go.Addr.block x) (some (Addr.mk x 0 none)),Row (α:=Int) 3 (List.set (Life.a l) (Int.toNat (↑k:Int)) (Option.getD (Life.held l)[Int.toNat (Instr.a (Option.getD p.code[Int.toNat (↑k:Int)]? default))]? default)) ([])),(66,some b3,.cells (List.toArray (A2.enc (Option.getD p.code[Int.toNat (↑k:Int)]? default))) 91),(62,some z,Row (α:=Int) 3 (Life.sets l) ([])),(64,some b2,Row (α:=Int) 3 (Life.held l) ([])),(63,some u,.cells #[.int .i64 p.ins,.int .i64 p.regs,.slice ac p.code.length cc,.slice ao p.outs.length co,.slice nb1 (List.length (tD p)) nc1,.slice (some (Addr.mk x 0 none)) (List.length (Life.a l)) (List.length (Life.a (wI p))),.slice (some (Addr.mk y 0 none)) (List.length (Life.b l)) (List.length (Life.a (wI p))),.slice (some (Addr.mk z 0 none)) (List.length (Life.sets l)) (List.length (Life.a (wI p))),.slice none 0 0,.slice o (List.length (Life.till l)) d] 143),(65,Option.map (fun x=>Go.Addr.block x) o,Row (α:=Int) 3 (Life.till l) (j)),(1,Option.map (fun x=>Go.Addr.block x) nb1,Row (α:=Bool) 4 (tD p) (nj1)),(0,some b1,.cells (I0 p ac cc ao co) 26)])) (fun v=>v=vB l (p.code[(k:Int).toNat]?.getD default)) ?_ fun v=>fun (hk:v=vB l (p.code[(k:Int).toNat]?.getD default))=>?_
   · by_cases h2:1<((tM (p.code[((k:Nat):Int).toNat]?.getD default)).length:Int)
     · have m4b:=m4' h2;have hlb:(l.b.set (k:Int).toNat (l.held[(p.code[(k:Int).toNat]?.getD default).a.toNat]?.getD default)).length=l.b.length:=aG;refine aH 3 [66] ?_;refine bS 67 F9 (IN _ _) fun v2 G2 Ho2 hle2 hp=>?_;obtain ⟨ad2,cd2,junk2,rfl,hoa2,rfl,rfl⟩:=hp;refine aZ 5 [1] ?_;refine dK [0,1,65,63,64,62,66,60,61,68] [(68,11),(61,11),(60,11),(66,11),(62,11),(64,11),(63,11),(65,11),(1,11),(0,11)] T.mixed [[0],[1],[2],[3,63],[4],[5],[6],[7,66]] ?_;refine fO (α:=Int) 8 T.sl24 ?_;refine eD 9 [0,64] F9 (fG 64 0 T.one3 F9 F9 sX sW F9 F9) ?_;refine fO (α:=Int) 10 T.sl24 ?_;refine bE 11 ?_;refine dJ (z:=_) 61 T.size3 F9 F9 F9 sX sW F9 fun ho3=>?_;refine fJ ?_;rw [List.set_set];refine mU (l.held[(p.code[(k:Int).toNat]?.getD default).b.toNat]?.getD default) ?_;exact (aE (by omega)).symm
     refine aH 3 [66] ?_;refine bS 67 F9 (IN _ _) fun v2 G2 Ho2 hle2 hp=>?_;obtain ⟨ad2,cd2,junk2,rfl,hoa2,rfl,rfl⟩:=hp;refine aS 6 [0] ?_;refine mU (l.held[(p.code[(k:Int).toNat]?.getD default).a.toNat]?.getD default) ?_;exact (aD (by omega)).symm
   have hvb:=QD ⟨k1,k2,k3,k4,k5,k6,k7,k8,k9,k10,k11⟩ hm;rw [←hk] at hvb;have hob3:=hno9 y (l.b.set (k:Int).toNat v) (by rw [aG];exact k2);have hra:(l.a.set (k:Int).toNat (l.held[(p.code[(k:Int).toNat]?.getD default).a.toNat]?.getD default))[(k:Int).toNat]?.getD default=l.held[(p.code[(k:Int).toNat]?.getD default).a.toNat]?.getD default:=Ig sW;have hrb:(l.b.set (k:Int).toNat v)[(k:Int).toNat]?.getD default=v:=Ig sW;have hla:(l.a.set (k:Int).toNat (l.held[(p.code[(k:Int).toNat]?.getD default).a.toNat]?.getD default)).length=l.a.length:=aG;have hlb:(l.b.set (k:Int).toNat v).length=l.b.length:=aG;have hlt1:(l.till.set (l.held[(p.code[(k:Int).toNat]?.getD default).a.toNat]?.getD default).toNat (k:Int)).length=l.till.length:=aG;have hlt2:((l.till.set (l.held[(p.code[(k:Int).toNat]?.getD default).a.toNat]?.getD default).toNat (k:Int)).set v.toNat (k:Int)).length=l.till.length:=by rw [aG,aG]
   refine dN ?_;refine dK [0,1,65,63,64,62,66,60,61] [(61,27),(60,27),(66,27),(62,27),(64,27),(63,27),(65,27),(1,27),(0,27),(61,25),(60,25),(66,25),(62,25),(64,25),(63,25),(65,25),(1,25),(0,25)] T.mixed [[0],[1],[2],[3,63],[4],[5],[6],[7,63],[8]] ?_;refine fO (α:=Int) 9 T.sl24 ?_;refine eD 10 [0,60] F9 (fG 60 0 T.one3 F9 F9 sX sW F9 F9) ?_;refine dP [[11],[12],[13],[14,63],[15],[16],[17],[18,63],[19]] ?_;refine fO (α:=Int) 20 T.sl24 ?_;refine eD 21 [0,61] F9 (fG 61 0 T.one3 F9 F9 sX sW F9 F9) ?_;refine dP [[22],[23]] ?_;refine fO (α:=Int) 24 T.sl24 ?_;refine bE 25 ?_;refine dJ (z:=_) 65 T.size3 F9 F9 F9 sX sW F9 fun ho3=>?_;refine aT ?_;refine fO (α:=Int) 26 T.sl24 ?_;refine bE 27 ?_;rw [hra,hrb];have hol2:A4 o d (l.till.set (l.held[(p.code[(k:Int).toNat]?.getD default).a.toNat]?.getD default).toNat (k:Int)) j:=Xg hol _ _;have hoh3:=hown (l.held.set (p.code[(k:Int).toNat]?.getD default).to.toNat (l.till.length:Int)) (by rw [aG];omega);refine dJ (z:=_) 65 T.size3 F9 F9 F9 sX sW F9 fun ho4=>?_;refine fJ ?_;refine lW 2 [] ?_;refine dK [0,1,63,64,62,66,60,61,65] [(65,21),(61,21),(60,21),(66,21),(62,21),(64,21),(63,21),(1,21),(0,21),(65,19),(61,19),(60,19),(66,19),(62,19),(64,19),(63,19),(1,19),(0,19)] T.mixed [[0],[1],[2],[3,63],[4],[5],[6],[8],[9],[10],[11,63],[12],[13],[14],[15],[16,63],[17]] ?_;refine fO (α:=Int) 18 T.sl24 ?_;refine mK 7 19 ?_ ?_;refine aC 1 [66] ?_;refine cX 19 ?_;refine dJ (z:=_) 62 T.size3 F9 F9 F9 sX sW F9 fun ho5=>?_;refine aT ?_;refine fO (α:=Int) 20 T.sl24 ?_;refine bE 21 ?_;refine dJ (z:=_) 64 T.size3 F9 F9 F9 sX sW F9 fun ho6=>?_;refine fJ ?_;refine lK 7 [63] ?_;refine cC (α:=Int) 67 [(-1)] F9 T.sl24 T.el3 F9 F9 F9 F9 F9 fun b4=>?_;rotate_left;refine dJ (z:=_) 62 T.size3 F9 F9 F9 sX sW F9 fun ho5=>?_;refine cX 7 ?_;refine aC 1 [66] ?_;refine aT ?_;refine fO (α:=Int) 20 T.sl24 ?_;refine bE 21 ?_;refine dJ (z:=_) 64 T.size3 F9 F9 F9 sX sW F9 fun ho6=>?_;refine fJ ?_;refine lK 7 [63] ?_;refine cC (α:=Int) 67 [(-1)] F9 T.sl24 T.el3 F9 F9 F9 F9 F9 fun b4=>?_;rotate_left;all_goals
    refine fR 165 F9 (show _=Value.slice o ((l.till.set (l.held[(p.code[(k:Int).toNat]?.getD default).a.toNat]?.getD default).toNat (k:Int)).set v.toNat (k:Int)).length d by rw [hlt2]) ?_;have hol3:=Xg hol2 v.toNat (k:Int);refine kM (α:=Int) 65 T.sl24 T.el3 (cQ 67 F9) fun a7 c7 junk7 ho7=>?_;refine aS 10 [63] ?_;subst hk;have e1:(vI l k (p.code[(k:Int).toNat]?.getD default)).a.length=l.a.length:=aG;have e2:(vI l k (p.code[(k:Int).toNat]?.getD default)).b.length=l.b.length:=aG;have e3:(vI l k (p.code[(k:Int).toNat]?.getD default)).sets.length=l.sets.length:=aG;have e4:(vI l k (p.code[(k:Int).toNat]?.getD default)).held.length=l.held.length:=aG;refine gJ 63 (.cells #[.int .i64 p.ins,.int .i64 p.regs,.slice ac p.code.length cc,.slice ao p.outs.length co,.slice nb1 (tD p).length nc1,.slice (some ⟨x,0,none⟩) (vI l k (p.code[(k:Int).toNat]?.getD default)).a.length (wI p).a.length,.slice (some ⟨y,0,none⟩) (vI l k (p.code[(k:Int).toNat]?.getD default)).b.length (wI p).a.length,.slice (some ⟨z,0,none⟩) (vI l k (p.code[(k:Int).toNat]?.getD default)).sets.length (wI p).a.length,.slice none 0 0,.slice a7 (vI l k (p.code[(k:Int).toNat]?.getD default)).till.length c7] 143) F9 (by rw [e1,e2,e3];rfl) ?_;refine cE 8 F9 (show _=Value.slice (some ⟨b2,0,none⟩) (vI l k (p.code[(k:Int).toNat]?.getD default)).held.length R by rw [e4]) ?_;refine cM ((k+1,vI l k (p.code[(k:Int).toNat]?.getD default),(a7,c7,junk7))) ?_ ?_
    · refine ⟨hkc,?_,?_⟩
      · rw [hlk];exact (aE hn).symm
      show A4 a7 c7 (((l.till.set _ _).set _ _)++[-1]) junk7;assumption
    show p.code.length - (k+1)<p.code.length - k;omega
 have hke:k=p.code.length:=qT hk9 hkc;subst hke;have hlo:l.outs=[]:=by rw [hlk];exact Aa p _
 refine bL 22 [0,0] ?_;refine eF 69 (Row 3 l.outs []) ?_;refine qJ 63 (.cells #[.int .i64 p.ins,.int .i64 p.regs,.slice ac p.code.length cc,.slice ao p.outs.length co,.slice nb1 (tD p).length nc1,.slice (some ⟨x,0,none⟩) l.a.length (wI p).a.length,.slice (some ⟨y,0,none⟩) l.b.length (wI p).a.length,.slice (some ⟨z,0,none⟩) l.sets.length (wI p).a.length,.slice none l.outs.length 0,.slice o l.till.length d] 143) F9 (by rw [hlo];rfl) ?_;refine fX (ι:=Nat×Life×(Option Addr×Nat×List Value)) (fun (q,l2,(oo,od,oj))=>([(174,.int .i64 (q:Int)),(173,.int .i64 (↑p.outs.length:Int)),(172,.slice ao p.outs.length co),(8,.slice (some (Addr.mk b2 0 none)) (List.length (Life.held l)) R),(7,.pointer (some (Addr.mk u 0 none))),(6,.int .i64 (↑p.code.length:Int)),(3,.int .i64 0),(2,.pointer none)],[(65,o.map (·.block),Row 3 l2.till j),(69,oo.map (·.block),Row 3 l2.outs oj),(63,some u,.cells #[.int .i64 p.ins,.int .i64 p.regs,.slice ac p.code.length cc,.slice ao p.outs.length co,.slice nb1 (tD p).length nc1,.slice (some ⟨x,0,none⟩) l.a.length (wI p).a.length,.slice (some ⟨y,0,none⟩) l.b.length (wI p).a.length,.slice (some ⟨z,0,none⟩) l.sets.length (wI p).a.length,.slice oo l2.outs.length od,.slice o l2.till.length d] 143),(60,some x,Row (α:=Int) 3 (Life.a l) ([])),(61,some y,Row (α:=Int) 3 (Life.b l) ([])),(62,some z,Row (α:=Int) 3 (Life.sets l) ([])),(64,some b2,Row (α:=Int) 3 (Life.held l) ([])),(1,Option.map (fun x=>Go.Addr.block x) nb1,Row (α:=Bool) 4 (tD p) (nj1)),(0,some b1,.cells (I0 p ac cc ao co) 26)])) (fun (q,l2,(oo,od,oj))=>q≤p.outs.length∧l2=wJ p q∧A4 oo od l2.outs oj∧A4 o d l2.till j) (fun (q,l2,(oo,od,oj))=>p.outs.length - q) ((0,l,(none,0,[]))) (⟨aN _,hlk,by show A4 none 0 l.outs [];rw [hlo];exact eG,hol⟩) ⟨F9,F9,F9,F9,F9,F9,F9,F9,H2⟩ ⟨F9,F9,F9,F9,F9,F9,F9,F9,F9,H2⟩ fun ⟨q,l2,(oo,od,oj)⟩=>fun hk=>?_;obtain ⟨hq1,hl2,hoo,hot2⟩:=hk;have h2ok:=Rf hR q hq1;have h2h:=Rm p q;have h2l:=Lx p q;rw [←hl2] at h2ok h2h h2l;rw [←hlk] at h2h h2l;rw [hlo] at h2l;have h2l':l2.outs.length=q:=by rw [h2l];exact cS q
 have h2t:=h2ok.t1;rcases aK q p.outs.length with hqc | hqc
 · have hr:=Oc hR hqc;have hv2:0≤l.held[(p.outs[(q:Int).toNat]?.getD default).toNat]?.getD default∧l.held[(p.outs[(q:Int).toNat]?.getD default).toNat]?.getD default<l2.till.length:=h2ok.hb _ (by rw [h2h];exact get_mem sW);refine aH 13 [1] ?_;refine fV (α:=Int) T.sl24 ?_;refine jG 0 T.one3 ?_;refine aZ 4 [] ?_;refine dK [0,1,64,62,61,60,63,69,65] [(63,13),(65,10),(69,10),(60,10),(61,10),(62,10),(64,10),(1,10)] T.mixed [[0],[1],[2],[3],[4,63],[5],[6]] ?_;refine fO (α:=Int) 7 T.sl24 ?_;refine bE 8 ?_;refine nG 64 0 T.one3 ?_;refine cX 9 ?_;refine cC (α:=Int) 70 [(Option.getD (Go.Proofs.YtkdelpdbjfpgmaaGreatDoor.Life.held l)[Int.toNat (Option.getD p.outs[Int.toNat (↑q:Int)]? Inhabited.default)]? Inhabited.default)] F9 T.sl24 T.el3 F9 F9 F9 F9 F9 fun b3=>?_;refine cX 10 ?_;refine kM (α:=Int) 69 T.sl24 T.el3 (cQ 70 F9) fun a1 c1 junk1 ho1=>?_;refine aT ?_;refine dP [[11],[12]] ?_;refine bE 13 ?_;refine aC 1 [63] ?_;refine fJ ?_;refine cN ?_;refine dK [0,1,64,62,61,60,65,70,69,63] [(63,10),(69,10),(70,10),(65,10),(60,10),(61,10),(62,10),(64,10),(1,10),(0,10)] T.mixed [[0],[1],[2],[3,63],[4],[5]] ?_;refine fO (α:=Int) 6 T.sl24 ?_;refine eD 7 [0,64] F9 (fG 64 0 T.one3 F9 F9 sX sW F9 F9) ?_;refine dP [[8]] ?_;refine fO (α:=Int) 9 T.sl24 ?_;refine bE 10 ?_;refine dJ (z:=_) 65 T.size3 F9 F9 F9 sX sW F9 fun ho2=>?_;refine fJ ?_;refine dO 6 [] ?_;have e5:(Dq p l2 (p.outs[(q:Int).toNat]?.getD default)).till.length=l2.till.length:=aG;have eS:Dq p l2 (p.outs[(q:Int).toNat]?.getD default)={ l2 with outs:=l2.outs++[l.held[(p.outs[(q:Int).toNat]?.getD default).toNat]?.getD default],till:=l2.till.set (l.held[(p.outs[(q:Int).toNat]?.getD default).toNat]?.getD default).toNat p.code.length }:=by
    unfold Dq;rw [h2h]
   rw [eS] at e5;refine gJ 63 (.cells #[.int .i64 p.ins,.int .i64 p.regs,.slice ac p.code.length cc,.slice ao p.outs.length co,.slice nb1 (tD p).length nc1,.slice (some ⟨x,0,none⟩) l.a.length (wI p).a.length,.slice (some ⟨y,0,none⟩) l.b.length (wI p).a.length,.slice (some ⟨z,0,none⟩) l.sets.length (wI p).a.length,.slice a1 (l2.outs++[l.held[(p.outs[(q:Int).toNat]?.getD default).toNat]?.getD default]).length c1,.slice o (l2.till.set (l.held[(p.outs[(q:Int).toNat]?.getD default).toNat]?.getD default).toNat p.code.length).length d] 143) F9 (by rw [e5];rfl) ?_;refine cM ((q+1,{ l2 with outs:=l2.outs++[l.held[(p.outs[(q:Int).toNat]?.getD default).toNat]?.getD default],till:=l2.till.set (l.held[(p.outs[(q:Int).toNat]?.getD default).toNat]?.getD default).toNat p.code.length },(a1,c1,junk1))) ?_ ?_
   · refine ⟨hqc,?_,by assumption,Xg hot2 _ _⟩;show _=Dq p (wJ p q) _;rw [←hl2,eS]
   show p.outs.length - (q+1)<p.outs.length - q;omega
 have hqe:q=p.outs.length:=qT hq1 hqc;subst hqe;have hlp:l2=lifeP p:=hl2;have s1:l.a=(lifeP p).a:=by rw [hlk];exact (Bo p _).1.symm
 have s2:l.b=(lifeP p).b:=by rw [hlk];exact (Bo p _).2.1.symm
 have s3:l.sets=(lifeP p).sets:=by rw [hlk];exact (Bo p _).2.2.symm
 subst hlp;refine bG 20 [0] ?_;refine mR [63,1,60,61,62,69,65] tG (iC (.inr F9) F9 (.tmp F9) (.tmp F9) (mI 0 _) ?_);rw [s1] at hoa;rw [s2] at hob;rw [s3] at hoz;refine ⟨u,nb1,nc1,nj1,x,y,z,(wI p).a.length,oo,od,oj,o,d,j,F9,hon1,hoa,hob,hoz,hoo,hot2,?_,F9⟩;rw [s1,s2,s3];rfl
section
variable {P:Program} {B:Bs} {e:A9} {D:List Deferred} {H:Hp} {G:A3}
theorem Us {ty:TypeId} {T et:TypeId} {len i:Nat} {x y:Operand} {cs:List Value} {v:Value} (hT:P.underlying T=some (.array len et)) (h1:P.plainKey et=true) (hs:(P.info? et).map (·.size)=some 1)
 (hx:e.ev x=some (.agg cs.toArray)) (hy:e.ev y=some (.int .i64 (i:Int))) (hi:i<len) (hv:cs[i]?=some v):Qy P (.index T x y) ty e H G v:=fun a w _ _ _ _ hh=>by
 have hp:(part et cs.toArray i).run P w=.ok v w:=by
  unfold Program.plainKey at h1;cases hu:P.underlying et with
  | none=>simp [hu] at h1
  | some d=>cases d <;> simp [hu] at h1 <;> simp [part,isAgg,dE hu,hv,Result.andThen]
 have hsz:=Go.Sl.run_sizeOf (P:=P) w hs;have h2:(0:Int)≤(i:Int)∧(i:Int)<(len:Int):=sW;simp only [execOp,hh.eval hx,hh.eval hy,Instr.index,asIntOf,dG,dT,bM,dE hT];rw [aE h2];simp only [dG,hsz,bM,aF,Nat.mul_one,hp,dT]
end
theorem WU:Tryz.prog.underlying 145=some (.array 2 3):=sZ
theorem pk3:Tryz.prog.plainKey 3=true:=sZ
theorem size3:(Tryz.prog.info? 3).map (·.size)=some 1:=sZ
section
variable {P:Program} {B:Bs} {e:A9} {D:List Deferred} {H:Hp} {G:A3}
theorem QV {r:Option Nat} {c:Code} {Q:Exit→Act→World→Prop} (t t':Nat) {k:Option Nat} {o:Obj} (ht:H.get t=some (k,o)) (hn:Nat.beq t t'=false) (h:Wc r P c B ⟨e,D,(t',k,o) :: (t,none,o) :: H,G⟩ Q):Wc r P c B ⟨e,D,H,G⟩ Q:=
 fun a w hh=>h a w (retagH hh t t' ht (fun e=>by subst e;simp at hn) (.inr trivial))
end
theorem BQ (p:PV):(tD p).length=p.code.length:=by unfold tD;exact (wU p _).2
def VO (l:Life) (k:Nat) (s:Pl):Nat→Pl
 | 0=>s
 | 1=>vW l k s (l.a[((k:Nat):Int).toNat]?.getD default)
 | _=>vW l k (vW l k s (l.a[((k:Nat):Int).toNat]?.getD default)) (l.b[((k:Nat):Int).toNat]?.getD default)
theorem Ut (p:PV) {k:Nat}:∀ (j:Nat),k<j→j≤p.code.length→(tH p j).sets[((k:Nat):Int).toNat]?.getD default=(tH p (k+1)).sets[((k:Nat):Int).toNat]?.getD default
 | 0,h,_=>absurd h (Nat.not_lt_zero _)
 | j+1,h,hj=>by
   by_cases hk:k=j
   · rw [hk]
   rw [←Ut p j sW sW];show (if Bq p j=true then vI (tH p j) j (yH p j) else tH p j).sets[_]?.getD default=_;split
   · show ((tH p j).sets.set j _)[(k:Int).toNat]?.getD default=_;rw [cI,aD (by omega)]
   rfl
theorem KK {p:PV} (hR:sY p=true) {k:Nat} (hk:k<p.code.length) (hn:Bq p k=true):(lifeP p).sets[((k:Nat):Int).toNat]?.getD default=(tH p k).till.length:=by
 unfold lifeP;rw [(Bo p _).2.2,Ut p p.code.length hk (aI _)];show (if Bq p k=true then vI (tH p k) k (yH p k) else tH p k).sets[_]?.getD default=_;rw [aE hn];exact Ig (by rw [(xR hR k sW).sl];exact hk)
theorem Si {l:List Int} {f:Int→Int} {k:Nat} (h:k<l.length):(l.map f).take (k+1)=(l.map f).take k++[f (l[((k:Nat):Int).toNat]?.getD default)]:=by
 rw [nM (by rw [aP];exact h),aF,aA h,gB];rfl
theorem Rn (l:Life):∀ (n:Nat) (v:Int),(n:Int)≤v→A8 (Ab l n).at_ v=none
 | 0,v,_=>rfl
 | n+1,v,h=>by
   show A8 (Co (Ab l n).at_ n _) v=none;rw [xQ,aD (by omega),Rn l n v sW]
theorem KL {p:PV} {s:Pl} (hs:s=Ai p (lifeP p)) (h:1≤p.ins) (v:Int) (hv:(tH p 0).till.length≤v):A8 s.at_ v=none:=by
 have h1:(tH p 0).till.length=p.ins.toNat+1:=aJ;rw [h1] at hv;rw [hs];unfold Ai;split
 · show A8 (Co (Ab (lifeP p) p.ins.toNat).at_ p.ins _) v=none;rw [xQ,aD (by omega),Rn _ _ v sW]
 exact Rn _ _ v sW
section
attribute [local irreducible] lifeP tD sY least
theorem YV (G:A3) (p:PV) (ac ao:Option Addr) (cc co:Nat) (hc:Arr G ac p.code) (ho:Arr G ao p.outs) (h1:p.code.length≤1099511627776) (h2:p.outs.length≤1099511627776) (hR:sY p=true) :
 Does Tryz.prog 41 [.agg (I0 p ac cc ao co)] G [] (fun v G' Ho =>
  ∃ bc bo dc do_ j1 j2,v=.tuple #[.agg #[.int .i64 (tO p).ins,.int .i64 (tO p).regs,.slice bc (tO p).code.length dc,.slice bo (tO p).outs.length do_],.int .i64 0]∧
   A4 bc dc (tO p).code j1∧A4 bo do_ (tO p).outs j2∧Ho=[(0,bc.map (·.block),Row 91 (tO p).code j1),(1,bo.map (·.block),Row 3 (tO p).outs j2)]∧G'=G):=by
 obtain ⟨r1,r2,r3,r4,r5,r6,r7,r8⟩:=tB hR;have hlok:=QF hR;obtain ⟨k1,k2,k3,k4,k5,k6,k7,k8,k9,k10,k11⟩:=hlok;refine D0 Tryz.func41 Tryz.ntmps41 fun w=>?_;refine aH 2 [] ?_;refine eC 0 fun b1=>?_;refine aM 1 F9 T.zero26 fun b2=>?_;refine aL 6 [0] ?_;refine bS 2 F9 (c81 _ _ _ _ _ _ sX sX sW sW hR) fun v1 G1 Ho1 hle1 hp=>?_;obtain ⟨lu1,lnb1,lnc1,lnj1,lx1,ly1,lz1,ln1,loo1,lod1,loj1,lo1,ld1,lj1,rfl,hln1,hlx1,hly1,hlz1,hlo1,hlt1,rfl,rfl⟩:=hp;refine aL 19 [0] ?_;refine Wl.makeMap (κ:=Int) 9 F9 fun b3=>?_;refine aQ (bP (cs:=[_,_]) T.st140 F9 F9 F9) ?_;refine eC 10 fun b4=>?_;refine aZ 12 [0] ?_;refine QV 9 11 F9 F9 ?_;refine eF 12 (Row 4 ([]:List Bool) []) ?_;refine fX (ι:=Nat×Pl×(Option Addr×Nat×List Value)) (fun (v,s,(a,c,j))=>([(30,.int .i64 (v:Int)),(29,.int .i64 p.ins),(6,.pointer (some (Addr.mk b4 0 none))),(4,.pointer (some (Addr.mk lu1 0 none))),(3,.int .i64 0),(2,.pointer (some ⟨b2,0,none⟩)),(1,.pointer (some ⟨b1,0,none⟩))],[(10,some b4,.cells #[.map (some b3),.slice a s.free.length c] 140),(11,some b3,B0 s.at_),(12,a.map (·.block),Row 4 s.free j),(2,some lu1,.cells #[.int .i64 p.ins,.int .i64 p.regs,.slice ac p.code.length cc,.slice ao p.outs.length co,.slice lnb1 (List.length (tD p)) lnc1,.slice (some (Addr.mk lx1 0 none)) (List.length (Life.a (lifeP p))) ln1,.slice (some (Addr.mk ly1 0 none)) (List.length (Life.b (lifeP p))) ln1,.slice (some (Addr.mk lz1 0 none)) (List.length (Life.sets (lifeP p))) ln1,.slice loo1 (List.length (Life.outs (lifeP p))) lod1,.slice lo1 (List.length (Life.till (lifeP p))) ld1] 143),(3,Option.map (fun x=>Go.Addr.block x) lnb1,Row (α:=Bool) 4 (tD p) (lnj1)),(4,some lx1,Row (α:=Int) 3 (Life.a (lifeP p)) ([])),(5,some ly1,Row (α:=Int) 3 (Life.b (lifeP p)) ([])),(6,some lz1,Row (α:=Int) 3 (Life.sets (lifeP p)) ([])),(7,Option.map (fun x=>Go.Addr.block x) loo1,Row (α:=Int) 3 (Life.outs (lifeP p)) (loj1)),(8,Option.map (fun x=>Go.Addr.block x) lo1,Row (α:=Int) 3 (Life.till (lifeP p)) (lj1)),(1,some b2,.cells #[.int .i64 0,.int .i64 0,.slice none 0 0,.slice none 0 0] 26),(0,some b1,.cells (I0 p ac cc ao co) 26)])) (fun (v,s,(a,c,j))=>(v:Int)≤p.ins∧s=Ab (lifeP p) v∧A4 a c s.free j) (fun (v,s,(a,c,j))=>p.ins.toNat - v) ((0,⟨[],[]⟩,(none,0,[]))) (⟨by show (0:Int)≤_;omega,F9,eG⟩) ⟨F9,F9,F9,F9,F9,F9,F9,H2⟩ ⟨F9,F9,F9,F9,F9,F9,F9,F9,F9,F9,F9,F9,H2⟩ fun ⟨v,s,(a,c,j)⟩=>fun hk=>?_;obtain ⟨hv1,hs,hoa⟩:=hk;have hsl:s.free.length=v:=by rw [hs];exact Av _ v
 by_cases hvi:(v:Int)<p.ins
 · refine aH 25 [1,2] ?_;refine iK (α:=Int) T.sl24 ?_;refine nG 8 0 T.one3 ?_;refine bS 10 F9 (c82 _ s _ _ _ _ _ _ _ hoa sW) fun v2 G2 Ho2 hle2 hp=>?_;obtain ⟨pa2,pc2,pj2,rfl,hpo2,rfl,rfl⟩:=hp;refine aS 7 [] ?_;refine cM ((v+1,Ly s v ((lifeP p).till[(v:Int).toNat]?.getD default),(pa2,pc2,pj2))) ?_ ?_
   · exact ⟨by omega,by rw [hs];rfl,hpo2⟩
   show p.ins.toNat - (v+1)<p.ins.toNat - v;omega
 have hve:v=p.ins.toNat:=sW;refine bL 12 [0] ?_;refine pL (ι:=Pl×(Option Addr×Nat×List Value)) (fun (s0,(a0,c0,j0))=>([(6,.pointer (some (Addr.mk b4 0 none))),(4,.pointer (some (Addr.mk lu1 0 none))),(3,.int .i64 0),(2,.pointer (some ⟨b2,0,none⟩)),(1,.pointer (some ⟨b1,0,none⟩))],[(10,some b4,.cells #[.map (some b3),.slice a0 s0.free.length c0] 140),(11,some b3,B0 s0.at_),(12,a0.map (·.block),Row 4 s0.free j0),(2,some lu1,.cells #[.int .i64 p.ins,.int .i64 p.regs,.slice ac p.code.length cc,.slice ao p.outs.length co,.slice lnb1 (List.length (tD p)) lnc1,.slice (some (Addr.mk lx1 0 none)) (List.length (Life.a (lifeP p))) ln1,.slice (some (Addr.mk ly1 0 none)) (List.length (Life.b (lifeP p))) ln1,.slice (some (Addr.mk lz1 0 none)) (List.length (Life.sets (lifeP p))) ln1,.slice loo1 (List.length (Life.outs (lifeP p))) lod1,.slice lo1 (List.length (Life.till (lifeP p))) ld1] 143),(3,Option.map (fun x=>Go.Addr.block x) lnb1,Row (α:=Bool) 4 (tD p) (lnj1)),(4,some lx1,Row (α:=Int) 3 (Life.a (lifeP p)) ([])),(5,some ly1,Row (α:=Int) 3 (Life.b (lifeP p)) ([])),(6,some lz1,Row (α:=Int) 3 (Life.sets (lifeP p)) ([])),(7,Option.map (fun x=>Go.Addr.block x) loo1,Row (α:=Int) 3 (Life.outs (lifeP p)) (loj1)),(8,Option.map (fun x=>Go.Addr.block x) lo1,Row (α:=Int) 3 (Life.till (lifeP p)) (lj1)),(1,some b2,.cells #[.int .i64 0,.int .i64 0,.slice none 0 0,.slice none 0 0] 26),(0,some b1,.cells (I0 p ac cc ao co) 26)])) (fun (s0,(a0,c0,j0))=>s0=Ai p (lifeP p)∧A4 a0 c0 s0.free j0) ?_ fun ⟨s0,(a0,c0,j0)⟩=>fun (hk:s0=Ai p (lifeP p)∧A4 a0 c0 s0.free j0)=>?_
 · refine dN ?_;refine dK [0,1,8,7,6,5,4,3,2,12,11,10] [] T.mixed [[0],[1],[2],[3,2],[4],[5,0]] ?_;refine fO (α:=Int) 6 T.sl24 ?_;refine eD 7 [0,8] F9 (fG 8 0 T.one3 F9 F9 sX sW F9 F9) ?_;refine dP [[8]] ?_;refine cT ?_;refine cN ?_;refine dB (fun hc1=>?_) fun hc1=>?_;refine dK [0,1,8,7,6,5,4,3,2,12,11,10] [(12,11),(11,11),(10,11)] T.mixed [[0],[1],[2,0],[3],[4],[5],[6,2],[7],[8,0]] ?_;refine fO (α:=Int) 9 T.sl24 ?_;refine eD 10 [0,8] F9 (fG 8 0 T.one3 F9 F9 sX sW F9 F9) ?_;refine bE 11 ?_;refine bS 10 F9 (c82 _ s _ _ _ _ _ _ _ hoa sW) fun v2 G2 Ho2 hle2 hp=>?_;obtain ⟨pa2,pc2,pj2,rfl,hpo2,rfl,rfl⟩:=hp;refine fJ ?_;rotate_left;refine kN ?_;rotate_left
   · refine mU ((Ly s p.ins ((lifeP p).till[p.ins.toNat]?.getD default),(pa2,pc2,pj2))) ?_;exact ⟨by rw [hs,hve];exact (aE (by omega)).symm,hpo2⟩
   refine mU ((s,(a,c,j))) ?_;exact ⟨by rw [hs,hve];exact (aD (by omega)).symm,hoa⟩
 obtain ⟨hs0,hoa0⟩:=hk;have hl0:=Fx r1 (lifeP p);rw [←hs0] at hl0;obtain ⟨hp0,hf1,hf2⟩:=hl0;refine dN ?_;refine dK [0,1,8,7,6,5,4,3,2,12,11,10] [] T.mixed [[0],[1,0],[2],[3,0],[4],[5],[6],[7,10],[8]] ?_;refine eD 9 [] F9 (Qy.max F9 F9) ?_;refine eD 10 [] F9 (bP (cs:=[_,_,_,_]) T.st26 F9 F9 F9) ?_;refine bE 11 ?_;refine aM 13 F9 T.zero26 fun b5=>?_;refine cX 12 ?_;refine aC 1 [13] ?_;refine fJ ?_;refine lW 11 [0] ?_;refine qJ 13 (.cells #[.int .i64 p.ins,.int .i64 (tX p 0).regs,.slice none 0 0,.slice none 0 0] 26) F9 (by rw [show (tX p 0).regs=(if p.ins<(s0.free.length:Int) then (s0.free.length:Int) else p.ins) from by show max p.ins ((Ai p (lifeP p)).free.length:Int)=_;rw [←hs0];split <;> omega]) ?_;refine eF 14 (Row 91 ([]:List Sl.Instr) []) ?_;refine fX (ι:=Nat×PkS×(Option Addr×Nat×List Value)×(Option Addr×Nat×List Value)) (fun (k,x,(oa,oc,oj),(a,c,j))=>([(79,.int .i64 (k:Int)),(78,.int .i64 (↑p.code.length:Int)),(77,.slice ac p.code.length cc),(8,.pointer (some (Addr.mk b5 0 none))),(6,.pointer (some (Addr.mk b4 0 none))),(4,.pointer (some (Addr.mk lu1 0 none))),(3,.int .i64 0),(2,.pointer (some ⟨b2,0,none⟩))],[(10,some b4,.cells #[.map (some b3),.slice a x.s.free.length c] 140),(11,some b3,B0 x.s.at_),(12,a.map (·.block),Row 4 x.s.free j),(13,some b5,.cells #[.int .i64 p.ins,.int .i64 x.regs,.slice oa x.code.length oc,.slice none 0 0] 26),(14,oa.map (·.block),Row 91 x.code oj),(2,some lu1,.cells #[.int .i64 p.ins,.int .i64 p.regs,.slice ac p.code.length cc,.slice ao p.outs.length co,.slice lnb1 (List.length (tD p)) lnc1,.slice (some (Addr.mk lx1 0 none)) (List.length (Life.a (lifeP p))) ln1,.slice (some (Addr.mk ly1 0 none)) (List.length (Life.b (lifeP p))) ln1,.slice (some (Addr.mk lz1 0 none)) (List.length (Life.sets (lifeP p))) ln1,.slice loo1 (List.length (Life.outs (lifeP p))) lod1,.slice lo1 (List.length (Life.till (lifeP p))) ld1] 143),(3,Option.map (fun x=>Go.Addr.block x) lnb1,Row (α:=Bool) 4 (tD p) (lnj1)),(4,some lx1,Row (α:=Int) 3 (Life.a (lifeP p)) ([])),(5,some ly1,Row (α:=Int) 3 (Life.b (lifeP p)) ([])),(6,some lz1,Row (α:=Int) 3 (Life.sets (lifeP p)) ([])),(7,Option.map (fun x=>Go.Addr.block x) loo1,Row (α:=Int) 3 (Life.outs (lifeP p)) (loj1)),(8,Option.map (fun x=>Go.Addr.block x) lo1,Row (α:=Int) 3 (Life.till (lifeP p)) (lj1)),(1,some b2,.cells #[.int .i64 0,.int .i64 0,.slice none 0 0,.slice none 0 0] 26),(0,some b1,.cells (I0 p ac cc ao co) 26)])) (fun (k,x,(oa,oc,oj),(a,c,j))=>k≤p.code.length∧x=tX p k∧A4 oa oc x.code oj∧A4 a c x.s.free j∧(∀ v:Int,(tH p k).till.length≤v→A8 x.s.at_ v=none)) (fun (k,x,(oa,oc,oj),(a,c,j))=>p.code.length - k) ((0,⟨s0,(tX p 0).regs,[]⟩,(none,0,[]),(a0,c0,j0))) (⟨aN _,by rw [hs0];rfl,eG,hoa0,KL hs0 r1⟩) ⟨F9,F9,F9,F9,F9,F9,F9,F9,H2⟩ ⟨F9,F9,F9,F9,F9,F9,F9,F9,F9,F9,F9,F9,F9,F9,H2⟩ fun ⟨k,x,(oa,oc,oj),(a,c,j)⟩=>fun hk=>?_;obtain ⟨hkc0,hx,hoc,hof,hkeys⟩:=hk;have hxo:=GP r1 k;have hxl:=BK r1 k;rw [←hx] at hxo hxl;obtain ⟨hxl1,hxl2⟩:=hxl;rcases aK k p.code.length with hkc | hkc
 · have hm:=xO hR hkc;unfold yH at hm;have hnl:(tD p).length=p.code.length:=BQ p;have hvA:=k8 _ (get_mem (r:=(k:Int)) (l:=(lifeP p).a) sW);have hvB:=k9 _ (get_mem (r:=(k:Int)) (l:=(lifeP p).b) sW);refine aH 14 [1] ?_;refine fV (α:=Sl.Instr) T.sl23 ?_;refine lP T.agg91 ?_;refine aM 15 F9 T.zero91 fun b6=>?_;refine aL 12 [15,2] ?_;refine iK (α:=Bool) T.sl138 ?_;refine nG 3 0 T.one4 ?_;refine aZ 3 [] ?_;refine lN F9 (fun hc1=>?_) fun hc1=>?_;refine bG 8 [] ?_;rotate_left;refine aH 5 [15] ?_;refine bS 16 F9 (IN _ _) fun v2 G2 Ho2 hle2 hp=>?_;obtain ⟨ad2,cd2,junk2,rfl,hoa2,rfl,rfl⟩:=hp;refine aZ 6 [] ?_;refine dK [0,1,8,7,6,5,4,3,2,14,13,12,11,10,15,17] [(15,13)] T.mixed [[0],[1],[2],[3,10],[4],[5],[6],[7,2],[8]] ?_;refine fO (α:=Int) 9 T.sl24 ?_;refine eD 10 [0,4] F9 (fG 4 0 T.one3 F9 F9 sX sW F9 F9) ?_;refine eD 11 [11] F9 (kI 11 T.mp137 F9 F9 F9) ?_;refine dP [[12]] ?_;refine bE 13 ?_;refine aC 1 [15] ?_;refine fJ ?_;refine cN ?_;rotate_left
   · have hn:¬Bq p k=true:=by unfold Bq;simpa using hc1
     refine cM ((k+1,x,(oa,oc,oj),(a,c,j))) ?_ ?_
     · refine ⟨hkc,by rw [hx];exact (aD hn).symm,hoc,hof,fun v hv=>hkeys v ?_⟩;have e:tH p (k+1)=tH p k:=aD hn;rw [e] at hv;exact hv
     show p.code.length - (k+1)<p.code.length - k;omega
   have hn:Bq p k=true:=by unfold Bq;simpa using hc1
   refine pL (ι:=Int) (fun v=>([(4,.pointer (some ⟨lu1,0,none⟩)),(77,.slice ac p.code.length cc),(78,.int .i64 (p.code.length:Int)),(79,.int .i64 (k:Int)),(9,.int .i64 (↑k:Int)),(10,.pointer (some (Addr.mk b6 0 none))),(8,.pointer (some (Addr.mk b5 0 none))),(6,.pointer (some (Addr.mk b4 0 none))),(3,.int .i64 0),(2,.pointer (some ⟨b2,0,none⟩))],[(15,some b6,.cells #[.int .i64 (p.code[(k:Int).toNat]?.getD default).op,.int .i64 (p.code[(k:Int).toNat]?.getD default).to,.int .i64 (stand x.s ((lifeP p).a[(k:Int).toNat]?.getD default)),.int .i64 v,.int .i64 (p.code[(k:Int).toNat]?.getD default).c] 91),(17,Option.map (fun x=>Go.Addr.block x) ad2,Row (α:=Int) 3 (tM (Option.getD p.code[Int.toNat (↑k:Int)]? default)) (junk2)),(10,some b4,.cells #[Go.Value.map (some b3),.slice a (List.length (Pl.free (PkS.s x))) c] 140),(11,some b3,Go.Sl.B0 (κ:=Int) (Pl.at_ (PkS.s x))),(12,Option.map (fun x=>Go.Addr.block x) a,Row (α:=Bool) 4 (Pl.free (PkS.s x)) (j)),(13,some b5,.cells #[.int .i64 p.ins,.int .i64 (PkS.regs x),.slice oa (List.length (PkS.code x)) oc,.slice none 0 0] 26),(14,Option.map (fun x=>Go.Addr.block x) oa,Row (α:=Go.Sl.Instr) 91 (PkS.code x) (oj)),(2,some lu1,.cells #[.int .i64 p.ins,.int .i64 p.regs,.slice ac p.code.length cc,.slice ao p.outs.length co,.slice lnb1 (List.length (tD p)) lnc1,.slice (some (Addr.mk lx1 0 none)) (List.length (Life.a (lifeP p))) ln1,.slice (some (Addr.mk ly1 0 none)) (List.length (Life.b (lifeP p))) ln1,.slice (some (Addr.mk lz1 0 none)) (List.length (Life.sets (lifeP p))) ln1,.slice loo1 (List.length (Life.outs (lifeP p))) lod1,.slice lo1 (List.length (Life.till (lifeP p))) ld1] 143),(3,Option.map (fun x=>Go.Addr.block x) lnb1,Row (α:=Bool) 4 (tD p) (lnj1)),(4,some lx1,Row (α:=Int) 3 (Life.a (lifeP p)) ([])),(5,some ly1,Row (α:=Int) 3 (Life.b (lifeP p)) ([])),(6,some lz1,Row (α:=Int) 3 (Life.sets (lifeP p)) ([])),(7,Option.map (fun x=>Go.Addr.block x) loo1,Row (α:=Int) 3 (Life.outs (lifeP p)) (loj1)),(8,Option.map (fun x=>Go.Addr.block x) lo1,Row (α:=Int) 3 (Life.till (lifeP p)) (lj1)),(1,some b2,.cells #[.int .i64 0,.int .i64 0,.slice none 0 0,.slice none 0 0] 26),(0,some b1,.cells (I0 p ac cc ao co) 26)])) (fun v=>v=if 1<(tM (p.code[(k:Int).toNat]?.getD default)).length then stand x.s ((lifeP p).b[(k:Int).toNat]?.getD default) else (p.code[(k:Int).toNat]?.getD default).b) ?_ fun v=>fun (hk:v=if 1<(tM (p.code[(k:Int).toNat]?.getD default)).length then stand x.s ((lifeP p).b[(k:Int).toNat]?.getD default) else (p.code[(k:Int).toNat]?.getD default).b)=>?_
   · refine bL 5 [] ?_;refine dB (fun hc2=>?_) fun hc2=>?_;refine dK [0,1,8,7,6,5,4,3,2,14,13,12,11,10,17,15] [(15,13)] T.mixed [[0],[1],[2],[3,10],[4],[5],[6],[7,2],[8]] ?_;refine fO (α:=Int) 9 T.sl24 ?_;refine eD 10 [0,5] F9 (fG 5 0 T.one3 F9 F9 sX sW F9 F9) ?_;refine eD 11 [11] F9 (kI 11 T.mp137 F9 F9 F9) ?_;refine dP [[12]] ?_;refine bE 13 ?_;refine aC 1 [15] ?_;refine fJ ?_;rotate_left;refine kN ?_;rotate_left
     · refine mU (stand x.s ((lifeP p).b[(k:Int).toNat]?.getD default)) ?_;exact (aE (by omega)).symm
     refine mU ((p.code[(k:Int).toNat]?.getD default).b) ?_;exact (aD (by omega)).symm
   have hv9:=hk;refine bL 2 [] ?_;refine dK [0,1,8,7,6,5,4,3,2,14,13,12,11,10,17,15] [] T.mixed [[0],[1],[2],[3,2],[4]] ?_;refine fO (α:=Int) 5 T.sl24 ?_;refine eD 6 [0,4] F9 (fG 4 0 T.one3 F9 F9 sX sW F9 F9) ?_;refine dP [[7],[8],[9],[10,2],[11]] ?_;refine fO (α:=Int) 12 T.sl24 ?_;refine eD 13 [0,5] F9 (fG 5 0 T.one3 F9 F9 sX sW F9 F9) ?_;refine eD 14 [] F9 (Kq (cs:=[_,_]) T.ar145 F9 F9 F9) ?_;refine dP [[15]] ?_;refine cT ?_;refine lW 2 [] ?_;refine iA (ι:=Nat×Pl) (fun (m,s1)=>([(138,.int .i64 (m:Int)),(77,.slice ac p.code.length cc),(78,.int .i64 (p.code.length:Int)),(79,.int .i64 (k:Int)),(137,.agg #[.int .i64 (Option.getD (Life.a (lifeP p))[Int.toNat (↑k:Int)]? default),.int .i64 (Option.getD (Life.b (lifeP p))[Int.toNat (↑k:Int)]? default)]),(4,.pointer (some (Addr.mk lu1 0 none))),(9,.int .i64 (↑k:Int)),(10,.pointer (some (Addr.mk b6 0 none))),(8,.pointer (some (Addr.mk b5 0 none))),(6,.pointer (some (Addr.mk b4 0 none))),(3,.int .i64 0),(2,.pointer (some ⟨b2,0,none⟩))],[(10,some b4,.cells #[.map (some b3),.slice a s1.free.length c] 140),(11,some b3,B0 s1.at_),(12,a.map (·.block),Row 4 s1.free j),(15,some b6,.cells #[.int .i64 (Instr.op (Option.getD p.code[Int.toNat (↑k:Int)]? default)),.int .i64 (Instr.to (Option.getD p.code[Int.toNat (↑k:Int)]? default)),.int .i64 (stand (PkS.s x) (Option.getD (Life.a (lifeP p))[Int.toNat (↑k:Int)]? default)),.int .i64 v,.int .i64 (Instr.c (Option.getD p.code[Int.toNat (↑k:Int)]? default))] 91),(17,Option.map (fun x=>Go.Addr.block x) ad2,Row (α:=Int) 3 (tM (Option.getD p.code[Int.toNat (↑k:Int)]? default)) (junk2)),(13,some b5,.cells #[.int .i64 p.ins,.int .i64 (PkS.regs x),.slice oa (List.length (PkS.code x)) oc,.slice none 0 0] 26),(14,Option.map (fun x=>Go.Addr.block x) oa,Row (α:=Go.Sl.Instr) 91 (PkS.code x) (oj)),(2,some lu1,.cells #[.int .i64 p.ins,.int .i64 p.regs,.slice ac p.code.length cc,.slice ao p.outs.length co,.slice lnb1 (List.length (tD p)) lnc1,.slice (some (Addr.mk lx1 0 none)) (List.length (Life.a (lifeP p))) ln1,.slice (some (Addr.mk ly1 0 none)) (List.length (Life.b (lifeP p))) ln1,.slice (some (Addr.mk lz1 0 none)) (List.length (Life.sets (lifeP p))) ln1,.slice loo1 (List.length (Life.outs (lifeP p))) lod1,.slice lo1 (List.length (Life.till (lifeP p))) ld1] 143),(3,Option.map (fun x=>Go.Addr.block x) lnb1,Row (α:=Bool) 4 (tD p) (lnj1)),(4,some lx1,Row (α:=Int) 3 (Life.a (lifeP p)) ([])),(5,some ly1,Row (α:=Int) 3 (Life.b (lifeP p)) ([])),(6,some lz1,Row (α:=Int) 3 (Life.sets (lifeP p)) ([])),(7,Option.map (fun x=>Go.Addr.block x) loo1,Row (α:=Int) 3 (Life.outs (lifeP p)) (loj1)),(8,Option.map (fun x=>Go.Addr.block x) lo1,Row (α:=Int) 3 (Life.till (lifeP p)) (lj1)),(1,some b2,.cells #[.int .i64 0,.int .i64 0,.slice none 0 0,.slice none 0 0] 26),(0,some b1,.cells (I0 p ac cc ao co) 26)])) (fun (m,s1)=>m≤2∧s1=VO (lifeP p) k x.s m∧A4 a c s1.free j) (fun (m,s1)=>2 - m) ((0,x.s)) (⟨aN _,F9,hof⟩) fun ⟨m,s1⟩=>fun hk=>?_;obtain ⟨hm2,hs1,hof1⟩:=hk;by_cases hm0:m=0
   · subst hm0;have hs1:s1=x.s:=hs1;subst hs1;have hst:=hxo.ab ((lifeP p).a[(k:Int).toNat]?.getD default);unfold stand at hst;refine aH 13 [1] ?_;refine aQ (Us (i:=0) WU pk3 size3 F9 F9 tG F9) ?_;refine aL 10 [2] ?_;refine iK (α:=Int) T.sl24 ?_;refine nG 8 0 T.one3 ?_;refine aZ 4 [] ?_;refine dB (fun hc2=>?_) fun hc2=>?_;refine dK [0,1,8,7,6,5,4,3,2,14,13,17,15,12,11,10] [(10,11),(12,11),(15,11),(17,11),(13,11),(14,11),(2,11),(3,11),(4,11),(5,11),(6,11),(7,11),(8,11),(1,11),(0,11)] T.mixed [[0],[1],[2],[3,10],[4],[5],[6],[7,10],[8]] ?_;refine eD 9 [11] F9 (kI 11 T.mp137 F9 F9 F9) ?_;refine fO (α:=Bool) 10 T.sl138 ?_;refine bE 11 ?_;refine dJ (z:=_) 12 T.size4 F9 F9 F9 sX sW F9 fun ho1=>?_;refine fJ ?_;refine dO 6 [] ?_;rotate_left;refine bG 7 [] ?_;rotate_left
     · refine gJ 10 (.cells #[.map (some b3),.slice a (x.s.free.set ((A8 x.s.at_ ((lifeP p).a[(k:Int).toNat]?.getD default)).getD 0).toNat true).length c] 140) F9 Dt ?_;refine cM ((0+1,⟨x.s.at_,x.s.free.set ((A8 x.s.at_ ((lifeP p).a[(k:Int).toNat]?.getD default)).getD 0).toNat true⟩)) ?_ ?_
       · refine ⟨by omega,?_,by assumption⟩;exact (aE sX).symm
       exact qD 1
     refine cM ((0+1,x.s)) ?_ ?_
     · refine ⟨by omega,?_,hof1⟩;exact (aD sX).symm
     exact qD 1
   by_cases hm1:m=1
   · subst hm1;have hs1:s1=vW (lifeP p) k x.s ((lifeP p).a[(k:Int).toNat]?.getD default):=hs1;have hst:=(Aw (l:=lifeP p) (k:=k) (v:=((lifeP p).a[(k:Int).toNat]?.getD default)) hxo).ab ((lifeP p).b[(k:Int).toNat]?.getD default);rw [←hs1] at hst;unfold stand at hst;refine aH 13 [1] ?_;refine aQ (Us (i:=1) WU pk3 size3 F9 F9 tG F9) ?_;refine aL 10 [2] ?_;refine iK (α:=Int) T.sl24 ?_;refine nG 8 0 T.one3 ?_;refine aZ 4 [] ?_;refine dB (fun hc2=>?_) fun hc2=>?_;refine dK [0,1,8,7,6,5,4,3,2,14,13,17,15,12,11,10] [(10,11),(12,11),(15,11),(17,11),(13,11),(14,11),(2,11),(3,11),(4,11),(5,11),(6,11),(7,11),(8,11),(1,11),(0,11)] T.mixed [[0],[1],[2],[3,10],[4],[5],[6],[7,10],[8]] ?_;refine eD 9 [11] F9 (kI 11 T.mp137 F9 F9 F9) ?_;refine fO (α:=Bool) 10 T.sl138 ?_;refine bE 11 ?_;refine dJ (z:=_) 12 T.size4 F9 F9 F9 sX sW F9 fun ho1=>?_;refine fJ ?_;refine dO 6 [] ?_;rotate_left;refine bG 7 [] ?_;rotate_left
     · refine gJ 10 (.cells #[.map (some b3),.slice a (s1.free.set ((A8 s1.at_ ((lifeP p).b[(k:Int).toNat]?.getD default)).getD 0).toNat true).length c] 140) F9 Dt ?_;refine cM ((1+1,⟨s1.at_,s1.free.set ((A8 s1.at_ ((lifeP p).b[(k:Int).toNat]?.getD default)).getD 0).toNat true⟩)) ?_ ?_
       · refine ⟨by omega,?_,by assumption⟩;show _=vW (lifeP p) k (vW (lifeP p) k x.s ((lifeP p).a[(k:Int).toNat]?.getD default)) ((lifeP p).b[(k:Int).toNat]?.getD default);rw [←hs1];exact (aE sX).symm
       exact qD 0
     refine cM ((1+1,s1)) ?_ ?_
     · refine ⟨by omega,?_,hof1⟩;show _=vW (lifeP p) k (vW (lifeP p) k x.s ((lifeP p).a[(k:Int).toNat]?.getD default)) ((lifeP p).b[(k:Int).toNat]?.getD default);rw [←hs1];exact (aD sX).symm
     exact qD 0
   have hm3:m=2:=sW;subst hm3;have hs1:s1=vW (lifeP p) k (vW (lifeP p) k x.s ((lifeP p).a[(k:Int).toNat]?.getD default)) ((lifeP p).b[(k:Int).toNat]?.getD default):=hs1;have hs1l:s1.free.length=x.s.free.length:=by rw [hs1,wV,wV]
   have hsets:(lifeP p).sets[(k:Int).toNat]?.getD default=(tH p k).till.length:=KK hR hkc hn;have hm9:A8 s1.at_ ((lifeP p).sets[(k:Int).toNat]?.getD default)=none:=by
    rw [hs1,Da,Da,hsets];exact hkeys _ (jA _)
   have hle:=Ac s1.free;refine aH 20 [0,2] ?_;refine iK (α:=Int) T.sl24 ?_;refine nG 6 0 T.one3 ?_;refine bS 10 F9 (c84 _ s1 _ _ _ _ _ _ hof1 sW hm9) fun v3 G3 Ho3 hle3 hp=>?_;obtain ⟨pa3,pc3,pj3,rfl,hpo3,rfl,rfl⟩:=hp;refine aL 9 [15,13,15] ?_;refine cC (α:=Sl.Instr) 18 [⟨Go.Sl.Instr.op (Option.getD p.code[Int.toNat (↑k:Int)]? Inhabited.default),(↑(Go.Proofs.YtkdelpdbjfpgmaaGreatDoor.least (Go.Proofs.YtkdelpdbjfpgmaaGreatDoor.Pl.free s1)):Int),Go.Proofs.YtkdelpdbjfpgmaaGreatDoor.stand (Go.Proofs.YtkdelpdbjfpgmaaGreatDoor.PkS.s x) (Option.getD (Go.Proofs.YtkdelpdbjfpgmaaGreatDoor.Life.a (Go.Proofs.YtkdelpdbjfpgmaaGreatDoor.lifeP p))[Int.toNat (↑k:Int)]? Inhabited.default),v,Go.Sl.Instr.c (Option.getD p.code[Int.toNat (↑k:Int)]? Inhabited.default)⟩] F9 T.sl23 T.el91 F9 F9 F9 F9 F9 fun b7=>?_;refine kM (α:=Sl.Instr) 14 T.sl23 T.el91 (cQ 18 F9) fun a1 c1 junk1 ho1=>?_;refine aL 10 [13,13,15] ?_;refine aQ (Qy.max F9 F9) ?_;refine aS 9 [13] ?_;have hst9:Ia (lifeP p) x k (p.code[(k:Int).toNat]?.getD default)=⟨wY s1 ((lifeP p).sets[(k:Int).toNat]?.getD default),max x.regs ((least s1.free:Int)+1),x.code++[⟨(p.code[(k:Int).toNat]?.getD default).op,(least s1.free:Int),stand x.s ((lifeP p).a[(k:Int).toNat]?.getD default),v,(p.code[(k:Int).toNat]?.getD default).c⟩]⟩:=by
    unfold Ia;simp only;rw [←hs1,←hv9]
   refine gJ 13 (.cells #[.int .i64 p.ins,.int .i64 (max x.regs ((least s1.free:Int)+1)),.slice a1 (x.code++[(⟨(p.code[(k:Int).toNat]?.getD default).op,(least s1.free:Int),stand x.s ((lifeP p).a[(k:Int).toNat]?.getD default),v,(p.code[(k:Int).toNat]?.getD default).c⟩:Sl.Instr)]).length c1,.slice none 0 0] 26) F9 (by rw [show max x.regs ((least s1.free:Int)+1)=(if x.regs<(least s1.free:Int)+1 then (least s1.free:Int)+1 else x.regs) from So];rfl) ?_;refine cM ((k+1,⟨wY s1 ((lifeP p).sets[(k:Int).toNat]?.getD default),max x.regs ((least s1.free:Int)+1),x.code++[⟨(p.code[(k:Int).toNat]?.getD default).op,(least s1.free:Int),stand x.s ((lifeP p).a[(k:Int).toNat]?.getD default),v,(p.code[(k:Int).toNat]?.getD default).c⟩]⟩,(a1,c1,junk1),(pa3,pc3,pj3))) ?_ ?_
   · refine ⟨hkc,?_,by assumption,hpo3,fun w hw=>?_⟩
     · show _=(if Bq p k=true then Ia (lifeP p) (tX p k) k (yH p k) else tX p k);rw [aE hn,←hx];exact hst9.symm
     have e:(tH p (k+1)).till.length=(tH p k).till.length+1:=by
      show (if Bq p k=true then vI (tH p k) k (yH p k) else tH p k).till.length=_;rw [aE hn];exact Ck _ _ _
     rw [e] at hw;show A8 (Co s1.at_ ((lifeP p).sets[(k:Int).toNat]?.getD default) _) w=none;rw [xQ,aD (by rw [hsets];omega),hs1,Da,Da];exact hkeys w sW
   show p.code.length - (k+1)<p.code.length - k;omega
 have hke:k=p.code.length:=qT hkc0 hkc;subst hke;have hlo:=Rg p;refine bL 24 [0,2] ?_;refine eF 20 (Row 3 ([]:List Int) []) ?_;refine fX (ι:=Nat×List Int×(Option Addr×Nat×List Value)) (fun (q,ol,(oo,od,ok))=>([(191,.int .i64 (q:Int)),(190,.int .i64 (↑(List.length (Life.outs (lifeP p))):Int)),(189,.slice loo1 (List.length (Life.outs (lifeP p))) lod1),(8,.pointer (some (Addr.mk b5 0 none))),(6,.pointer (some (Addr.mk b4 0 none))),(3,.int .i64 0),(2,.pointer (some ⟨b2,0,none⟩))],[(13,some b5,.cells #[.int .i64 p.ins,.int .i64 x.regs,.slice oa x.code.length oc,.slice oo ol.length od] 26),(20,oo.map (·.block),Row 3 ol ok),(10,some b4,.cells #[Go.Value.map (some b3),.slice a (List.length (Pl.free (PkS.s x))) c] 140),(11,some b3,Go.Sl.B0 (κ:=Int) (Pl.at_ (PkS.s x))),(12,Option.map (fun x=>Go.Addr.block x) a,Row (α:=Bool) 4 (Pl.free (PkS.s x)) (j)),(14,Option.map (fun x=>Go.Addr.block x) oa,Row (α:=Go.Sl.Instr) 91 (PkS.code x) (oj)),(2,some lu1,.cells #[.int .i64 p.ins,.int .i64 p.regs,.slice ac p.code.length cc,.slice ao p.outs.length co,.slice lnb1 (List.length (tD p)) lnc1,.slice (some (Addr.mk lx1 0 none)) (List.length (Life.a (lifeP p))) ln1,.slice (some (Addr.mk ly1 0 none)) (List.length (Life.b (lifeP p))) ln1,.slice (some (Addr.mk lz1 0 none)) (List.length (Life.sets (lifeP p))) ln1,.slice loo1 (List.length (Life.outs (lifeP p))) lod1,.slice lo1 (List.length (Life.till (lifeP p))) ld1] 143),(3,Option.map (fun x=>Go.Addr.block x) lnb1,Row (α:=Bool) 4 (tD p) (lnj1)),(4,some lx1,Row (α:=Int) 3 (Life.a (lifeP p)) ([])),(5,some ly1,Row (α:=Int) 3 (Life.b (lifeP p)) ([])),(6,some lz1,Row (α:=Int) 3 (Life.sets (lifeP p)) ([])),(7,Option.map (fun x=>Go.Addr.block x) loo1,Row (α:=Int) 3 (Life.outs (lifeP p)) (loj1)),(8,Option.map (fun x=>Go.Addr.block x) lo1,Row (α:=Int) 3 (Life.till (lifeP p)) (lj1)),(1,some b2,.cells #[.int .i64 0,.int .i64 0,.slice none 0 0,.slice none 0 0] 26),(0,some b1,.cells (I0 p ac cc ao co) 26)])) (fun (q,ol,(oo,od,ok))=>q≤p.outs.length∧ol=((lifeP p).outs.map (stand x.s)).take q∧A4 oo od ol ok) (fun (q,ol,(oo,od,ok))=>p.outs.length - q) ((0,[],(none,0,[]))) (⟨aN _,by rw [bQ],eG⟩) ⟨F9,F9,F9,F9,F9,F9,F9,H2⟩ ⟨F9,F9,F9,F9,F9,F9,F9,F9,F9,F9,F9,F9,F9,F9,F9,H2⟩ fun ⟨q,ol,(oo,od,ok)⟩=>fun hk=>?_;obtain ⟨hq1,hol,hoo⟩:=hk;have hoq:ol.length=q:=by rw [hol,bH,aP];omega
 rcases aK q p.outs.length with hqc | hqc
 · refine aH 13 [1] ?_;refine iK (α:=Int) T.sl24 ?_;refine nG 7 0 T.one3 ?_;refine aZ 3 [] ?_;refine dK [0,1,8,7,6,5,4,3,2,14,12,11,10,20,13] [(13,11),(20,9),(12,9),(14,9),(3,9),(4,9),(5,9),(6,9),(7,9),(8,9)] T.mixed [[0],[1,13],[2],[3],[4],[5,10],[6]] ?_;refine eD 7 [11] F9 (kI 11 T.mp137 F9 F9 F9) ?_;refine bE 8 ?_;refine cC (α:=Int) 21 [(Option.getD (Go.Sl.A8 (Go.Proofs.YtkdelpdbjfpgmaaGreatDoor.Pl.at_ (Go.Proofs.YtkdelpdbjfpgmaaGreatDoor.PkS.s x)) (Option.getD (Go.Proofs.YtkdelpdbjfpgmaaGreatDoor.Life.outs (Go.Proofs.YtkdelpdbjfpgmaaGreatDoor.lifeP p))[Int.toNat (↑q:Int)]? Inhabited.default)) 0)] F9 T.sl24 T.el3 F9 F9 F9 F9 F9 fun b6=>?_;refine cX 9 ?_;refine kM (α:=Int) 20 T.sl24 T.el3 (cQ 21 F9) fun a1 c1 junk1 ho1=>?_;refine aT ?_;refine dP [[10]] ?_;refine bE 11 ?_;refine aC 1 [13] ?_;refine fJ ?_;refine dO 6 [] ?_;refine cM ((q+1,ol++[stand x.s ((lifeP p).outs[(q:Int).toNat]?.getD default)],(a1,c1,junk1))) ?_ ?_
   · exact ⟨hqc,by rw [Si sW,hol],by assumption⟩
   show p.outs.length - (q+1)<p.outs.length - q;omega
 have hqe:q=p.outs.length:=qT hq1 hqc;subst hqe;rw [fM Il] at hol;subst hol hx;refine bG 20 [0,13,1] ?_;refine Ar.retag 1 30 F9 F9 (Ar.retag 14 0 F9 F9 (Ar.retag 20 1 F9 F9 ?_));refine iC (.inr F9) (Ho:=Hp.only _ [0,1]) F9 (.agg 30 F9 F9 T.agg26) (.tmp F9) (aU _ _) ?_;exact ⟨oa,oo,oc,od,oj,ok,F9,hoc,hoo,F9,F9⟩
end
def me (ls:List (List Int)):Prop:=∀ z∈ls,z.length=(ls[0]?.getD []).length∧z.length≤20
instance (ls:List (List Int)):Decidable (me ls):=by unfold me;infer_instance
section
attribute [local irreducible] Ng pw uY p2 xT uC tJ sY me
end
theorem mf (G:A3) (a:Option Addr) (c:Nat) (xs:List Sl.Instr) (hx:Arr G a xs) (hl:xs.length≤1099511627776) :
 Does Tryz.prog 52 [.slice a xs.length c] G [] (fun v G' Ho=>∃ b d j,v=.slice b xs.length d∧A4 b d xs j∧Ho=[(0,b.map (·.block),Row 91 xs j)]∧G'=G):=by
 refine D0 Tryz.func52 Tryz.ntmps52 fun w=>?_;refine aH 9 [] ?_;refine aQ (jT T.sl23 F9 F9) ?_;refine aZ 2 [] ?_;refine dB (fun hc1=>?_) fun hc1=>?_;refine bG 7 [] ?_;rotate_left;refine aH 4 [] ?_;refine rN 0 F9 T.sl23 fun b1=>?_;refine aC 1 [] ?_;rotate_left
 · subst hc1;have hn:xs=[]:=by
    rcases hx.2 with h | ⟨b,o,h,_⟩
    · exact dV h
    cases h
   subst hn;refine Kt 0 (Row 91 ([]:List Sl.Instr) []) ?_;refine nT [0] ?_;exact ⟨none,0,[],F9,eG,F9,F9⟩
 refine oY 0 (Row 91 ([]:List Sl.Instr) []) F9 F9 ?_;refine cP (α:=Sl.Instr) 0 F9 T.sl23 T.el91 F9 F9 F9 (fP uE) (lQ sX) (by simp only [cH];omega) (by simp only [cH,maxLen];omega) fun a1 c1 junk1 ho1=>?_;refine aS 4 [] ?_;refine nT [0] ?_;exact ⟨_,_,_,F9,ho1,F9,F9⟩
theorem c94 (G:A3) (p:PV) (ac ao:Option Addr) (cc co:Nat) (hc:Arr G ac p.code) (ho:Arr G ao p.outs) (h1:p.code.length≤1099511627776) (h2:p.outs.length≤1099511627776) :
 Does Tryz.prog 94 [.agg (I0 p ac cc ao co)] G [] (fun v G' Ho=>∃ bc bo dc do_ j1 j2,v=.agg #[.int .i64 p.ins,.int .i64 p.regs,.slice bc p.code.length dc,.slice bo p.outs.length do_]∧
  A4 bc dc p.code j1∧A4 bo do_ p.outs j2∧Ho=[(0,bc.map (·.block),Row 91 p.code j1),(1,bo.map (·.block),Row 3 p.outs j2)]∧G'=G):=by
 refine D0 Tryz.func94 Tryz.ntmps94 fun w=>?_;refine aH 2 [] ?_;refine eC 0 fun b1=>?_;refine aM 1 F9 T.zero26 fun b2=>?_;refine aZ 3 [] ?_;refine dK [0,1] [(0,9),(0,7)] T.mixed [[0],[1,0],[3],[4,0]] ?_;refine bE 2 ?_;refine bS 2 F9 (mf _ _ _ _ sX sW) fun v1 G1 Ho1 hle1 hp=>?_;obtain ⟨lb1,ld1,lj1,rfl,hlb1,rfl,rfl⟩:=hp;refine aT ?_;refine dP [[6]] ?_;refine bE 5 ?_;refine bS 3 F9 (YQ _ _ _ _ sX sW) fun v2 G2 Ho2 hle2 hp=>?_;obtain ⟨lb2,ld2,lj2,rfl,hlb2,rfl,rfl⟩:=hp;refine cX 7 ?_;refine aC 1 [0] ?_;refine aT ?_;refine dP [[8]] ?_;refine bE 9 ?_;refine aC 1 [0] ?_;refine fJ ?_;refine dO 8 [0,1] ?_;refine mR [2,3,1] tG (cK (.inr F9) (Ho:=Hp.only _ [0,1]) F9 (.agg 2 F9 F9 T.agg26) (aU _ _) ?_);exact ⟨_,_,_,_,_,_,F9,hlb1,hlb2,F9,F9⟩
theorem WV (G:A3) (p:PV) (ac ao:Option Addr) (cc co:Nat) :
 Does Tryz.prog 45 [.agg (I0 p ac cc ao co)] G [] (fun v G' Ho =>
  ∃ b,v=.func (.func 93) #[] #[.pointer (some ⟨b,0,none⟩)]∧Ho=[]∧G' b=some (.cells [.int .i64 p.ins,.int .i64 p.regs,.slice ac p.code.length cc,.slice ao p.outs.length co].toArray 26)):=by
 refine D0 Tryz.func45 Tryz.ntmps45 fun w=>?_;refine aH 2 [] ?_;refine eC 0 fun b1=>?_;refine aL 5 [] ?_;refine aQ (gY F9 F9) ?_;refine aS 4 [] ?_;refine qG 0 F9 fun G' hle hb=>?_;refine dA ?_;exact ⟨_,F9,F9,hb⟩
def Me (G:A3) (f:Nat) (p:PV) (ac ao:Option Addr) (cc co:Nat) (q:PV):Prop:=
 Does Tryz.prog f [.agg (I0 p ac cc ao co)] G [] (fun v G' Ho =>
  ∃ bc bo dc do_,v=.tuple #[.agg #[.int .i64 q.ins,.int .i64 q.regs,.slice bc q.code.length dc,.slice bo q.outs.length do_],.int .i64 0]∧Arr G' bc q.code∧Arr G' bo q.outs∧Ho=[])
theorem Gf {G:A3} {f:Nat} {p:PV} {ac ao:Option Addr} {cc co:Nat} {q:PV} (h:Does Tryz.prog f [.agg (I0 p ac cc ao co)] G [] (fun v G' Ho =>
 ∃ bc bo dc do_ j1 j2,v=.tuple #[.agg #[.int .i64 q.ins,.int .i64 q.regs,.slice bc q.code.length dc,.slice bo q.outs.length do_],.int .i64 0]∧
  A4 bc dc q.code j1∧A4 bo do_ q.outs j2∧Ho=[(0,bc.map (·.block),Row 91 q.code j1),(1,bo.map (·.block),Row 3 q.outs j2)]∧G'=G)):Me G f p ac ao cc co q:=by
 refine (Sw (α:=Sl.Instr) (β:=Int) (E:=91) (E':=3) (q:=fun v a c xs b d ys=>v=.tuple #[.agg #[.int .i64 q.ins,.int .i64 q.regs,.slice a q.code.length c,.slice b q.outs.length d],.int .i64 0]∧xs=q.code∧ys=q.outs)
  (h.mono fun v G' Ho _ ⟨bc,bo,dc,do_,j1,j2,g1,g2,g3,g4,g5⟩=>⟨bc,dc,q.code,j1,bo,do_,q.outs,j2,⟨g1,F9,F9⟩,g2,g3,g4,g5⟩)).mono
  fun v G' Ho _ ⟨a,c,xs,b,d,ys,⟨g1,hx,hy⟩,h2,h3,h4⟩=>?_
 subst hx hy;exact ⟨a,b,c,d,g1,h2,h3,h4⟩
theorem eh (G:A3) (hT:TabOk G) (p:PV) (ac ao:Option Addr) (cc co:Nat) (hc:Arr G ac p.code) (ho:Arr G ao p.outs) (hR:sY p=true):Me G 47 p ac ao cc co (zD p):=by
 obtain ⟨f1,f2,f3,f4,f5,f6,f7,f8⟩:=tB hR;exact Gf (lh G hT p ac ao cc co hc ho sW sW hR)
theorem el (G:A3) (p:PV) (ac ao:Option Addr) (cc co:Nat) (hc:Arr G ac p.code) (ho:Arr G ao p.outs) (hR:sY p=true):Me G 48 p ac ao cc co (xT p):=by
 obtain ⟨f1,f2,f3,f4,f5,f6,f7,f8⟩:=tB hR;exact Gf (li G p ac ao cc co hc ho sW sW hR)
theorem eo (G:A3) (p:PV) (ac ao:Option Addr) (cc co:Nat) (hc:Arr G ac p.code) (ho:Arr G ao p.outs) (hR:sY p=true):Me G 49 p ac ao cc co (zX p):=by
 obtain ⟨f1,f2,f3,f4,f5,f6,f7,f8⟩:=tB hR;exact Gf (lx G p ac ao cc co hc ho sW sW hR)
theorem QW (p:PV) (k:Nat):vX p (k+1)=uS k (vX p k):=rfl
section
attribute [local irreducible] uD zD xT zX tO vX tF wP Ae sY vC
structure RP where
 name:ByteArray
 fn:Nat
instance:Inhabited RP:=⟨⟨ByteArray.empty,0⟩⟩
instance:A2 RP:=⟨2,fun x=>[.string x.name,.func (.func x.fn) #[] #[]],fun _=>rfl,fun _=>rfl⟩
structure PA where
 a:Option Addr
 b:Option Addr
 c:Nat
 d:Nat
 j:List Value
 k:List Value
def mg (x:NP) (y:PA):List Value:=[.string x.name,.agg #[.int .i64 x.p.ins,.int .i64 x.p.regs,.slice y.a x.p.code.length y.c,.slice y.b x.p.outs.length y.d]]
def VP (x:NP) (y:PA):Option Nat×Obj:=(y.a.map (·.block),Row 91 x.p.code y.j)
def VQ (x:NP) (y:PA):Option Nat×Obj:=(y.b.map (·.block),Row 3 x.p.outs y.k)
def Uu (x:NP) (y:PA):Prop:=A4 y.a y.c x.p.code y.j∧A4 y.b y.d x.p.outs y.k
theorem mh (G:A3) (p:PV) (ac ao:Option Addr) (cc co:Nat) (hc:Arr G ac p.code) (ho:Arr G ao p.outs) (h1:p.code.length≤1099511627776) (h2:p.outs.length≤1099511627776) :
 Does Tryz.prog 94 [.agg (I0 p ac cc ao co)] G [] (fun v G' Ho=>∃ bc bo dc do_,v=.agg #[.int .i64 p.ins,.int .i64 p.regs,.slice bc p.code.length dc,.slice bo p.outs.length do_]∧
  Arr G' bc p.code∧Arr G' bo p.outs∧Ho=[]):=by
 refine (Sw (α:=Sl.Instr) (β:=Int) (E:=91) (E':=3) (q:=fun v a c xs b d ys=>v=.agg #[.int .i64 p.ins,.int .i64 p.regs,.slice a p.code.length c,.slice b p.outs.length d]∧xs=p.code∧ys=p.outs)
  ((c94 G p ac ao cc co hc ho h1 h2).mono fun v G' Ho _ ⟨bc,bo,dc,do_,j1,j2,g1,g2,g3,g4,g5⟩=>⟨bc,dc,p.code,j1,bo,do_,p.outs,j2,⟨g1,F9,F9⟩,g2,g3,g4,g5⟩)).mono
  fun v G' Ho _ ⟨a,c,xs,b,d,ys,⟨g1,hx,hy⟩,h2,h3,h4⟩=>?_
 subst hx hy;exact ⟨a,b,c,d,g1,h2,h3,h4⟩
theorem QX (G:A3) (p:PV) (ac ao:Option Addr) (cc co:Nat) (hc:Arr G ac p.code) (ho:Arr G ao p.outs) (h1:p.code.length≤1099511627776) (h2:p.outs.length≤1099511627776) (hR:sY p=true) :
 Does Tryz.prog 56 [.agg (I0 p ac cc ao co)] G [] (fun v G' Ho=>v=.tuple #[.int .i64 (vC p).1,.int .i64 0]∧G'=G∧Ho=[]):=Ni G p ac ao cc co hc ho h1 h2 hR
def CC:List RP:=[{ name:={ data:=#[102,111,108,100] },fn:=47 },{ name:={ data:=#[115,104,97,114,101] },fn:=48 },{ name:={ data:=#[100,101,97,100] },fn:=49 }]
theorem GY:[({ name:={ data:=#[102,111,108,100] },fn:=47 }:RP),{ name:={ data:=#[115,104,97,114,101] },fn:=48 },{ name:={ data:=#[100,101,97,100] },fn:=49 }]=CC:=rfl
theorem VR:CC.length=3:=rfl
theorem QY {m k:Nat} (hm:m<3) (hk:k % 3=m):(CC[((m:Nat):Int).toNat]?.getD default).name=Xe k:=by
 rcases (show m=0∨m=1∨m=2 by omega) with rfl | rfl | rfl
 · unfold Xe;rw [aE hk];rfl
 · unfold Xe;rw [aD (by omega),aE hk];rfl
 unfold Xe;rw [aD (by omega),aD (by omega)];rfl
theorem YW {m:Nat} (hm:m<3):tZ Tryz.prog (CC[((m:Nat):Int).toNat]?.getD default).fn:=by
 rcases (show m=0∨m=1∨m=2 by omega) with rfl | rfl | rfl
 · exact T.fn47
 · exact T.fn48
 exact T.fn49
theorem QZ {G:A3} (hT:TabOk G) {m k:Nat} (hm:m<3) (hk:k % 3=m) {p:PV} {ac ao:Option Addr} {cc co:Nat} (hc:Arr G ac p.code) (ho:Arr G ao p.outs) (hR:sY p=true) :
 Me G (CC[((m:Nat):Int).toNat]?.getD default).fn p ac ao cc co (uS k p):=by
 rcases (show m=0∨m=1∨m=2 by omega) with rfl | rfl | rfl
 · unfold uS;rw [aE hk];exact eh G hT p ac ao cc co hc ho hR
 · unfold uS;rw [aD (by omega),aE hk];exact el G p ac ao cc co hc ho hR
 unfold uS;rw [aD (by omega),aD (by omega)];exact eo G p ac ao cc co hc ho hR
attribute [local irreducible] CC uS Xe
def zOk (G:A3) (p z:PV) (k:Nat) (a1 a2:Option Addr):Prop:=z=vX p k∧Arr G a1 z.code∧Arr G a2 z.outs
theorem BR (G:A3) (hT:TabOk G) (p:PV) (ac ao:Option Addr) (cc co:Nat) (b:Nat) (hc:Arr G ac p.code) (ho:Arr G ao p.outs)
 (hb:G b=some (.cells [.int .i64 p.ins,.int .i64 p.regs,.slice ac p.code.length cc,.slice ao p.outs.length co].toArray 26)) (hR:sY p=true) :
 Fp Tryz.prog 93 [.pointer (some ⟨b,0,none⟩)] G mg VP VQ Uu (tF p):=by
 intro ι J inv stop ly i0 hi0 hY;obtain ⟨r1,r2,r3,r4,r5,r6,r7,r8⟩:=tB hR;have hrow:=Dp hb;refine D0 Tryz.func93 Tryz.ntmps93 fun w=>?_;refine rZ 1000 ?_;refine aH 3 [] ?_;refine aQ (fY T.agg26 F9 sX F9) ?_;refine cF F9 (QX _ p _ _ _ _ sX sX sW sW hR) ?_;refine aL 18 [0] ?_;refine aQ (fY T.agg26 F9 sX F9) ?_;refine bS 0 F9 (mh _ p _ _ _ _ sX sX sW sW) fun v1 G1 Ho1 hle1 hp=>?_;obtain ⟨na,no,nc,nd,rfl,hnc,hno,rfl⟩:=hp;replace hc:=hc.up hle1;replace ho:=ho.up hle1;refine aM 0 F9 T.zero26 fun b1=>?_;refine aL 5 [0] ?_;refine aQ (bP (cs:=[_,_]) T.st158 F9 F9 F9) ?_;refine aQ (bP (cs:=[_,_]) T.st158 F9 F9 F9) ?_;refine aQ (bP (cs:=[_,_]) T.st158 F9 F9 F9) ?_;refine cC (α:=RP) 1 [⟨_,_⟩,⟨_,_⟩,⟨_,_⟩] F9 T.sl159 T.el158 F9 F9 F9 F9 F9 fun b2=>?_;refine aZ 10 [] ?_;refine qJ 1 (Row 158 CC []) F9 (by rw [GY]) ?_;refine iP 6 F9 (show _=Value.slice (some ⟨b2,0,none⟩) CC.length 3 by rw [←GY]) ?_;have hr3:=VR;refine Tm (ι:=Nat×A3×PV×(Option Addr×Nat×Option Addr×Nat)×ι) 1000 (fun (n,Gx,z,(a1,c1,a2,c2),s)=>([(23,.int .i64 (n:Int)),(6,.slice (some (Addr.mk b2 0 none)) (List.length CC) 3),(5,.pointer (some ⟨b1,0,none⟩)),(0,.func (Go.Fn.yield ly) #[] #[])],[(0,some b1,.cells #[.int .i64 z.ins,.int .i64 z.regs,.slice a1 z.code.length c1,.slice a2 z.outs.length c2] 26),(1,some b2,Row (α:=RP) 158 (CC) ([]))])) (fun (n,Gx,z,(a1,c1,a2,c2),s)=>J s) (fun (n,Gx,z,(a1,c1,a2,c2),s)=>Gx) (fun (n,Gx,z,(a1,c1,a2,c2),s)=>n≤wP p+1∧(n=wP p+1→wP p=15)∧G.le Gx∧zOk Gx p z (3*n) a1 a2∧inv (3*n) s) (fun (n,Gx,z,(a1,c1,a2,c2),s)=>17 - n) ((0,G1,p,(na,nc,no,nd),i0)) (⟨aN _,fun h=>absurd h sW,hle1,⟨by rw [Nat.mul_zero];unfold vX;rfl,hnc,hno⟩,hi0⟩) F9 ⟨F9,F9,F9,F9,H2⟩ ⟨F9,F9,H2⟩ uX fun ⟨n,Gx,z,(a1,c1,a2,c2),s⟩=>fun hk=>?_;obtain ⟨hn1,hn2,hn3,hz,hinv⟩:=hk;have h15:=Xf p;have hlen:Ae p=3*wP p+3:=by unfold Ae;rfl
 have hRz:sY z=true:=by rw [hz.1];exact xS hR _
 obtain ⟨z1,z2,z3,z4,z5,z6,z7,z8⟩:=tB hRz;obtain ⟨hz0,hzc,hzo⟩:=hz;rcases aK n 16 with hn16 | hn16
 · have hnl:n≤wP p:=sW;refine aH 14 [1,0] ?_;refine aM 2 F9 T.zero26 fun b3=>?_;refine aZ 12 [2] ?_;refine Tm (ι:=Nat×A3×PV×(Option Addr×Nat×Option Addr×Nat)×ι) 1000 (fun (m,Gy,y,(d1,e1,d2,e2),s)=>([(28,.int .i64 (m:Int)),(6,.slice (some ⟨b2,0,none⟩) CC.length 3),(27,.int .i64 (CC.length:Int)),(26,.slice (some (Addr.mk b2 0 none)) (List.length CC) 3),(7,.pointer (some (Addr.mk b3 0 none))),(23,.int .i64 (↑n:Int)),(5,.pointer (some ⟨b1,0,none⟩)),(0,.func (Go.Fn.yield ly) #[] #[])],[(0,some b1,.cells #[.int .i64 y.ins,.int .i64 y.regs,.slice d1 y.code.length e1,.slice d2 y.outs.length e2] 26),(2,some b3,.cells #[.int .i64 z.ins,.int .i64 z.regs,.slice a1 z.code.length c1,.slice a2 z.outs.length c2] 26),(1,some b2,Row (α:=RP) 158 (CC) ([]))])) (fun (m,Gy,y,(d1,e1,d2,e2),s)=>J s) (fun (m,Gy,y,(d1,e1,d2,e2),s)=>Gy) (fun (m,Gy,y,(d1,e1,d2,e2),s)=>m≤3∧Gx.le Gy∧zOk Gy p y (3*n+m) d1 d2∧inv (3*n+m) s) (fun (m,Gy,y,(d1,e1,d2,e2),s)=>3 - m) ((0,Gx,z,(a1,c1,a2,c2),s)) (⟨aN _,bN _,⟨hz0,hzc,hzo⟩,hinv⟩) F9 ⟨F9,F9,F9,F9,F9,F9,F9,F9,H2⟩ ⟨F9,F9,F9,H2⟩ uX fun ⟨m,Gy,y,(d1,e1,d2,e2),s⟩=>fun hk=>?_;obtain ⟨hm1,hm2,⟨hy0,hy1,hy2⟩,hinv2⟩:=hk;have hRy:sY y=true:=by rw [hy0];exact xS hR _
   obtain ⟨y1,y2,y3,y4,y5,y6,y7,y8⟩:=tB hRy;replace hzc:=hzc.up hm2;replace hzo:=hzo.up hm2;have hT2:TabOk Gy:=hT.up (aO hn3 hm2);rcases aK m 3 with hm3 | hm3
   · refine aH 13 [1] ?_;refine aQ (dC T.sl159 F9 F9 sW) ?_;refine aQ (rP (α:=RP) 1 T.agg158 F9 F9 ⟨by omega,by omega⟩) ?_;refine aM 3 F9 T.zero158 fun b4=>?_;refine aL 8 [3,3,0] ?_;obtain ⟨u,hu⟩:∃ u,u=uS (3*n+m) y:=⟨_,F9⟩
     have hP:=QZ hT2 hm3 (k:=3*n+m) sW (cc:=e1) (co:=e2) hy1 hy2 hRy;rw [←hu] at hP;refine fA (fst:=[]) (cap:=[]) 100 F9 (YW hm3) F9 F9 hP (tC H2) fun v9 G9 Ho9 hle9 hp=>?_;obtain ⟨qa,qb,qc,qd,rfl,hqA,hqB,rfl⟩:=hp;have hRu:sY u=true:=by rw [hu];exact Ie hRy _
     obtain ⟨u1,u2,u3,u4,u5,u6,u7,u8⟩:=tB hRu;refine aZ 7 [0] ?_;refine dK [1,2,3,0] [(0,5),(3,5),(2,5),(1,5)] T.mixed [[0],[1],[2,3]] ?_;refine bE 3 ?_;refine aC 1 [0] ?_;refine cX 4 ?_;refine bS 4 F9 (c94 _ _ _ _ _ _ sX sX sW sW) fun v2 G2 Ho2 hle2 hp=>?_;obtain ⟨ya2,yb2,yc2,yd2,yj2,yk2,rfl,hya2,hyb2,rfl,rfl⟩:=hp;refine cX 5 ?_;have hun:u=vX p (3*n+m+1):=by rw [hu,hy0,QW]
     have hxs:(tF p)[3*n+m]?=some ⟨(CC[(m:Int).toNat]?.getD default).name,u⟩:=by rw [QY hm3 (k:=3*n+m) sW,hun];exact Uq p sW
     refine pZ (A:=[(0,some b1,.cells #[.int .i64 u.ins,.int .i64 u.regs,.slice qa u.code.length qc,.slice qb u.outs.length qd] 26),(3,some b4,.cells (A2.enc (CC[(m:Int).toNat]?.getD default)).toArray 158),(2,some b3,.cells #[.int .i64 z.ins,.int .i64 z.regs,.slice a1 z.code.length c1,.slice a2 z.outs.length c2] 26),(1,some b2,Row 158 CC [])]) 1000 4 5 F9 F9 F9 F9 F9 F9 ⟨F9,F9,F9,F9,H2⟩ F9 F9 uX F9
      ((hY (3*n+m) ⟨(CC[((m:Nat):Int).toNat]?.getD default).name,u⟩ ⟨ya2,yb2,yc2,yd2,yj2,yk2⟩ s hxs ⟨hya2,hyb2⟩ hinv2).up (aO hn3 (aO hm2 hle9))) (fun vy Gv Hv hlv hp=>?_)
     obtain ⟨rfl,s',rfl,hp⟩:=hp;rcases hp with ⟨rfl,hinv'⟩ | ⟨rfl,hst⟩
     · refine aT ?_;refine dP [[6]] ?_;refine cT ?_;refine dO 9 [0] ?_;refine Hk ((m+1,_,u,(qa,qc,qb,qd),s')) ?_ ?_ F9 ⟨F9,F9,F9,F9,F9,F9,F9,F9,H2⟩ ⟨F9,F9,F9,H2⟩ uX
       · exact ⟨by omega,aO hm2 hle9,⟨hun,hqA,hqB⟩,hinv'⟩
       show 3 - (m+1)<3 - m;omega
     refine aT ?_;refine dP [[6]] ?_;refine cT ?_;refine dO 13 [1] ?_;refine jY ?_;refine mS (k:=1000) (.inr F9) F9 uX ⟨F9,s',F9,.inr hst⟩
   have hm:m=3:=sW;subst hm;refine aH 16 [0,2,0] ?_;refine cF F9 (c42 _ _ _ _ _ _ _ _ _ _ _ sX sX sX sX sW sW sW sW) ?_;refine aZ 2 [] ?_;refine dB (fun hc1=>?_) fun hc1=>?_;refine aH 9 [0] ?_;refine bS 3 F9 (YV _ _ _ _ _ _ sX sX sW sW sX) fun v2 G2 Ho2 hle2 hp=>?_;obtain ⟨pa2,pb2,pc2,pd2,pj2,pk2,rfl,hpa2,hpb2,rfl,rfl⟩:=hp;refine aL 9 [0,0] ?_;rotate_left;refine bG 7 [] ?_;rotate_left
   · have hzy:z=y:=hc1;have hnn:n=wP p:=by
      rcases aK n (wP p) with h9 | h9
      · exact absurd (by rw [←hz0,hzy,hy0]) (QS p h9)
      omega
     have hyl:y=vX p (Ae p):=by rw [hy0,hlen,hnn]
     have hxs:(tF p)[3*n+3]?=some ⟨Up,tO y⟩:=by rw [hyl,hnn,←hlen];exact yP p
     have hrl:=zO p;refine pZ (A:=[(0,some b1,.cells #[.int .i64 (tO y).ins,.int .i64 (tO y).regs,.slice pa2 (tO y).code.length pc2,.slice pb2 (tO y).outs.length pd2] 26)]) 1000 3 4 F9 F9 F9 F9 F9 F9 ⟨F9,H2⟩ F9 F9 uX F9
      ((hY (3*n+3) ⟨Up,tO y⟩ ⟨pa2,pb2,pc2,pd2,pj2,pk2⟩ s hxs ⟨hpa2,hpb2⟩ hinv2).up (aO hn3 hm2)) (fun vy Gv Hv hlv hp=>?_)
     obtain ⟨rfl,s',rfl,hp⟩:=hp;rw [show 3*n+3+1=(tF p).length by rw [hrl];omega] at hp;refine eT ?_;refine jY ?_;refine mS (k:=1000) (.inl F9) F9 uX ⟨F9,s',F9,hp.imp And.right And.right⟩
   have hne:¬z=y:=hc1;refine Hk ((n+1,Gy,y,(d1,e1,d2,e2),s)) ?_ ?_ F9 ⟨F9,F9,F9,F9,H2⟩ ⟨F9,F9,H2⟩ uX
   · refine ⟨by omega,fun h=>?_,aO hn3 hm2,⟨by rw [hy0];congr 1,hy1,hy2⟩,by rw [show 3*(n+1)=3*n+3 by omega];exact hinv2⟩;rcases QR p with h9 | h9
     · exact h9
     have:n=wP p:=sW;subst this;exact absurd (by rw [hz0,hy0];exact h9.symm) hne
   show 17 - (n+1)<17 - n;omega
 have hnn:n=16:=sW;have hl15:wP p=15:=hn2 sW;have hzl:z=vX p (Ae p):=by rw [hz0,hlen,hnn,hl15]
 have hxs:(tF p)[3*n]?=some ⟨Up,tO z⟩:=by rw [hzl,show 3*n=Ae p by omega];exact yP p
 have hrl:=zO p;refine aH 15 [0,0] ?_;refine bS 2 F9 (YV _ _ _ _ _ _ sX sX sW sW sX) fun v2 G2 Ho2 hle2 hp=>?_;obtain ⟨pa2,pb2,pc2,pd2,pj2,pk2,rfl,hpa2,hpb2,rfl,rfl⟩:=hp;refine aL 9 [0,0] ?_;refine pZ (A:=[(0,some b1,.cells #[.int .i64 (tO z).ins,.int .i64 (tO z).regs,.slice pa2 (tO z).code.length pc2,.slice pb2 (tO z).outs.length pd2] 26)]) 1000 2 3 F9 F9 F9 F9 F9 F9 ⟨F9,H2⟩ F9 F9 uX F9
  ((hY (3*n) ⟨Up,tO z⟩ ⟨pa2,pb2,pc2,pd2,pj2,pk2⟩ s hxs ⟨hpa2,hpb2⟩ hinv).up hn3) (fun vy Gv Hv hlv hp=>?_)
 obtain ⟨rfl,s',rfl,hp⟩:=hp;rw [show 3*n+1=(tF p).length by rw [hrl];omega] at hp;refine eT ?_;refine jY ?_;refine mS (k:=1000) (.inl F9) F9 uX ⟨F9,s',F9,hp.imp And.right And.right⟩
end
section
attribute [local irreducible] uD zD xT zX tO vX tF wP Ae sY vC CC uS Xe
def tQ (p:PV):PV:=tO (vX p (Ae p))
theorem YX (G:A3) (hT:TabOk G) (p:PV) (ac ao:Option Addr) (cc co:Nat) (hc:Arr G ac p.code) (ho:Arr G ao p.outs) (hR:sY p=true) :
 Does Tryz.prog 50 [.agg (I0 p ac cc ao co)] G [] (fun v G' Ho=>∃ q bc bo dc do_,v=.tuple #[.agg #[.int .i64 q.ins,.int .i64 q.regs,.slice bc q.code.length dc,.slice bo q.outs.length do_],.int .i64 0]∧q=tQ p∧Arr G' bc q.code∧Arr G' bo q.outs∧Ho=[]):=by
 obtain ⟨r1,r2,r3,r4,r5,r6,r7,r8⟩:=tB hR;refine jS Tryz.func50 F9 Tryz.ntmps50 F9 fun w=>?_;refine aH 2 [] ?_;refine eC 0 fun b1=>?_;refine aM 1 F9 T.zero26 fun b2=>?_;refine aL 7 [0] ?_;refine cF F9 (QX _ p _ _ _ _ sX sX sW sW hR) ?_;refine aL 18 [0] ?_;refine aM 2 F9 T.zero26 fun b3=>?_;refine aL 6 [0] ?_;refine bS 3 F9 (WV _ p _ _ _ _) fun v1 G1 Ho1 hle1 hp=>?_;obtain ⟨bi1,rfl,rfl,hbi1⟩:=hp;replace hc:=hc.up hle1;replace ho:=ho.up hle1;refine aZ 3 [] ?_;refine eF 5 (Row 91 ([]:List Sl.Instr) []) (eF 6 (Row 3 ([]:List Int) []) ?_);have hT1:TabOk G1:=hT.up hle1;refine jD (ι:=PV×PA) 900 901 902 903 (fun (q,y)=>[(2,some b3,.cells #[.int .i64 q.ins,.int .i64 q.regs,.slice y.a q.code.length y.c,.slice y.b q.outs.length y.d] 26),(5,y.a.map (·.block),Row 91 q.code y.j),(6,y.b.map (·.block),Row 3 q.outs y.k),(1,some b2,.cells #[.int .i64 0,.int .i64 0,.slice none 0 0,.slice none 0 0] 26),(0,some b1,.cells (I0 p ac cc ao co) 26)]) (fun k (q,y)=>A4 y.a y.c q.code y.j∧A4 y.b y.d q.outs y.k∧(∀ x,0<k→(tF p)[k - 1]?=some x→q=x.p)) (fun c (q,y)=>False) ((⟨0,0,[],[]⟩,⟨none,none,0,0,[],[]⟩)) F9 T.fn93 (fun _ _=>rfl) F9 (BR _ hT1 p _ _ _ _ _ hc ho hbi1 hR) (⟨eG,eG,fun x h=>absurd h sW⟩) (oO ⟨F9,F9,F9,F9,F9,H2⟩) ⟨F9,fun _=>rfl⟩ F9 (fun k xk yk ⟨q,y⟩ l dd qq w0 hx hgd hi=>?_) (fun ⟨q,y⟩ dd hi=>?_) fun ⟨q,y⟩ dd c hi=>?_
 · refine aH 1 [] ?_;refine aM 904 F9 T.zero26 fun b4=>?_;refine aS 2 [904] ?_;refine lL 900 F9 ?_;refine bG 6 [904,2] ?_;refine Ar.retag 902 5 F9 F9 (Ar.retag 903 6 F9 F9 ?_);refine eY none (.inl ⟨F9,F9⟩) 900 F9 ⟨F9,((xk.p,yk),none),F9,.inl ⟨F9,F9,?_⟩⟩ (oO ⟨F9,F9,F9,F9,F9,F9,F9,H2⟩);refine ⟨hgd.1,hgd.2,fun x _ hx'=>?_⟩;rw [jU,hx] at hx';cases hx';rfl
 · obtain ⟨hoc,hoo,hl⟩:=hi;have hq:q=tQ p:=by
    have h9:=zO p;exact hl _ sW (by rw [h9,jU];exact yP p)
   refine dO 10 [2,1] ?_;refine gQ (.inr F9) 901 F9 ?_;refine jM (.inr F9) ?_;refine dD 5 F9 hoc (fun G8 hle8 hA8=>dD 6 F9 hoo (fun G9 hle9 hA9=>?_));refine iC (.inr F9) (Ho:=[]) F9 (.agg 1 F9 F9 T.agg26) (.tmp F9) H2 ?_;exact ⟨_,_,_,_,_,F9,hq,hA8.up hle9,hA9,F9⟩
 exact hi.elim
end
structure E5 where
 b:Nat
 o:Nat
instance:Inhabited E5:=⟨⟨0,0⟩⟩
instance:A2 E5:=⟨1,fun x=>[.pointer (some ⟨x.b,x.o,none⟩)],fun _=>rfl,fun _=>rfl⟩
section
attribute [local irreducible] tL sY uG evP madeP tQ idx
theorem mi (G:A3) (k1 k2:Int) (a:Option Addr) (c:Nat) (l:List R2) (ha:Arr G a l) (hl:l.length≤1048576) (hlc:l.length≤c) (hW:¬tL k1 k2 l=0) :
 Does Tryz.prog 34 [.int .i64 k1,.int .i64 k2,.slice a l.length c] G [] (fun v G' Ho=>v=.tuple #[.agg #[.int .i64 0,.int .i64 0,.slice none 0 0,.int .i64 0,.int .i64 0,.slice none 0 0,.slice none 0 0,.int .i64 0,.int .i64 0,.slice none 0 0,.slice none 0 0,.int .i64 0,.int .i64 0,.slice none 0 0,.slice none 0 0],.int .i64 (tL k1 k2 l)]∧Ho=[]):=by
 refine D0 Tryz.func34 Tryz.ntmps34 fun w=>?_;refine aH 2 [] ?_;refine aM 0 F9 T.zero28 fun b1=>?_;refine aL 8 [] ?_;refine bS 1 F9 (fd _ _ _ _ _ _ sX sW sW) fun v1 G1 Ho1 hle1 hp=>?_;obtain ⟨pv1,rfl,rfl⟩:=hp;replace ha:=ha.up hle1;refine aL 17 [1] ?_;refine aQ (bP (cs:=[_,_,_,_,_,_,_,_,_,_,_,_,_,_,_]) T.st28 F9 F9 F9) ?_;refine aS 7 [0] ?_;refine iC (.inr F9) (Ho:=[]) F9 (.agg 0 F9 F9 T.agg28) (.tmp F9) H2 ?_;exact ⟨F9,F9⟩
theorem ep (G:A3) (hT:TabOk G) (n1 n2:Nat) (a:Option Addr) (c:Nat) (l:List R2) (ha:Arr G a l) (hl:l.length≤1048576) (hlc:l.length≤c) (hW:tL (n1:Int) (n2:Int) l=0) :
 Does Tryz.prog 34 [.int .i64 (n1:Int),.int .i64 (n2:Int),.slice a l.length c] G [] (fun v G' Ho=>∃ (pa xc xo yc yo zc zo:Option Addr) (pd xcc xoc ycc yoc zcc zoc:Nat) (pj zj zk:List Value),v=.tuple #[.agg #[.int .i64 (n1:Int),.int .i64 (n2:Int),.slice pa l.length pd,.int .i64 (evP n1 l).ins,.int .i64 (evP n1 l).regs,.slice xc (evP n1 l).code.length xcc,.slice xo (evP n1 l).outs.length xoc,.int .i64 (evP n2 l).ins,.int .i64 (evP n2 l).regs,.slice yc (evP n2 l).code.length ycc,.slice yo (evP n2 l).outs.length yoc,.int .i64 (madeP l (idx l.length)).ins,.int .i64 (madeP l (idx l.length)).regs,.slice zc (madeP l (idx l.length)).code.length zcc,.slice zo (madeP l (idx l.length)).outs.length zoc],.int .i64 0]∧
  A4 pa pd l pj∧Arr G' xc (evP n1 l).code∧Arr G' xo (evP n1 l).outs∧Arr G' yc (evP n2 l).code∧Arr G' yo (evP n2 l).outs∧A4 zc zcc (madeP l (idx l.length)).code zj∧A4 zo zoc (madeP l (idx l.length)).outs zk∧Ho=[(1,pa.map (·.block),Row 52 l pj),(3,zc.map (·.block),Row 91 (madeP l (idx l.length)).code zj),(4,zo.map (·.block),Row 3 (madeP l (idx l.length)).outs zk)]):=by
 obtain ⟨hP1,hP2,hL,hRL⟩:=vH hW;have hn1:1≤n1∧n1≤8:=by have:=hP1.1;have:=hP1.2;omega
 have hn2:1≤n2∧n2≤8:=by have:=hP2.1;have:=hP2.2;omega
 refine D0 Tryz.func34 Tryz.ntmps34 fun w=>?_;refine aH 2 [] ?_;refine aM 0 F9 T.zero28 fun b1=>?_;refine aL 8 [] ?_;refine bS 1 F9 (fd _ _ _ _ _ _ sX sW sW) fun v1 G1 Ho1 hle1 hp=>?_;obtain ⟨pv1,rfl,rfl⟩:=hp;replace ha:=ha.up hle1;refine aL 22 [0] ?_;refine bS 1 F9 (c33 _ _ _ _ sX sW) fun v2 G2 Ho2 hle2 hp=>?_;obtain ⟨s2,d2,j2,rfl,ho2,rfl,rfl⟩:=hp;refine aQ (bP (cs:=[_,_,_,_,_,_,_,_,_,_,_,_,_,_,_]) T.st28 F9 F9 F9) ?_;refine aM 2 F9 T.zero28 fun b2=>?_;refine aL 7 [2] ?_;refine bS 3 F9 (fg _ (hT.up Xt) _ _ _ _ sX sW hRL sW sW) fun v3 G3 Ho3 hle3 hp=>?_;obtain ⟨ca3,oa3,cc3,oc3,rfl,hcA3,hoA3,rfl⟩:=hp;replace ha:=ha.up hle3;refine aC 4 [] ?_;refine iM 2 T.size26 F9 F9 F9 F9 F9 F9 ?_;refine aL 17 [0] ?_;refine bS 3 F9 (fg _ (hT.up Xt) _ _ _ _ sX sW hRL sW sW) fun v4 G4 Ho4 hle4 hp=>?_;obtain ⟨ca4,oa4,cc4,oc4,rfl,hcA4,hoA4,rfl⟩:=hp;replace hcA3:=hcA3.up hle4;replace hoA3:=hoA3.up hle4;replace ha:=ha.up hle4;refine aC 4 [] ?_;refine iM 2 T.size26 F9 F9 F9 F9 F9 F9 ?_;refine aL 16 [0] ?_;refine bS 3 F9 (dj _ _ _ _ sX sW hRL) fun v5 G5 Ho5 hle5 hp=>?_;obtain ⟨za5,zb5,zc5,zd5,zj5,zk5,rfl,hza5,hzb5,rfl⟩:=hp;refine aC 4 [] ?_;refine iM 2 T.size26 F9 F9 F9 F9 F9 F9 ?_;refine aS 21 [0,2,0] ?_;refine iC (.inr F9) (Ho:=[(1,s2.map (·.block),Row 52 l j2),(3,za5.map (·.block),Row 91 (madeP l (idx l.length)).code zj5),(4,zb5.map (·.block),Row 3 (madeP l (idx l.length)).outs zk5)]) F9 (.agg 0 F9 F9 T.agg28) (.tmp F9) ⟨F9,F9,F9,H2⟩ ?_;exact ⟨s2,ca3,oa3,ca4,oa4,za5,zb5,d2,cc3,oc3,cc4,oc4,zc5,zd5,j2,zj5,zk5,F9,ho2,hcA3.up sX,hoA3.up sX,hcA4.up sX,hoA4.up sX,hza5,hzb5,F9⟩
end
section
attribute [local irreducible] uD zD xT zX tO vX tF wP Ae sY vC CC uS Xe
theorem mj (G:A3) (hT:TabOk G) (p:PV) (ac ao:Option Addr) (cc co:Nat) (hc:Arr G ac p.code) (ho:Arr G ao p.outs) (hR:sY p=true) :
 Does Tryz.prog 50 [.agg (I0 p ac cc ao co)] G [] (fun v G' Ho=>∃ q bc bo dc do_ jo,v=.tuple #[.agg #[.int .i64 q.ins,.int .i64 q.regs,.slice bc q.code.length dc,.slice bo q.outs.length do_],.int .i64 0]∧q=tQ p∧Arr G' bc q.code∧A4 bo do_ q.outs jo∧Ho=[(6,bo.map (·.block),Row 3 q.outs jo)]):=by
 obtain ⟨r1,r2,r3,r4,r5,r6,r7,r8⟩:=tB hR;refine jS Tryz.func50 F9 Tryz.ntmps50 F9 fun w=>?_;refine aH 2 [] ?_;refine eC 0 fun b1=>?_;refine aM 1 F9 T.zero26 fun b2=>?_;refine aL 7 [0] ?_;refine cF F9 (QX _ p _ _ _ _ sX sX sW sW hR) ?_;refine aL 18 [0] ?_;refine aM 2 F9 T.zero26 fun b3=>?_;refine aL 6 [0] ?_;refine bS 3 F9 (WV _ p _ _ _ _) fun v1 G1 Ho1 hle1 hp=>?_;obtain ⟨bi1,rfl,rfl,hbi1⟩:=hp;replace hc:=hc.up hle1;replace ho:=ho.up hle1;refine aZ 3 [] ?_;refine eF 5 (Row 91 ([]:List Sl.Instr) []) (eF 6 (Row 3 ([]:List Int) []) ?_);have hT1:TabOk G1:=hT.up hle1;refine jD (ι:=PV×PA) 900 901 902 903 (fun (q,y)=>[(2,some b3,.cells #[.int .i64 q.ins,.int .i64 q.regs,.slice y.a q.code.length y.c,.slice y.b q.outs.length y.d] 26),(5,y.a.map (·.block),Row 91 q.code y.j),(6,y.b.map (·.block),Row 3 q.outs y.k),(1,some b2,.cells #[.int .i64 0,.int .i64 0,.slice none 0 0,.slice none 0 0] 26),(0,some b1,.cells (I0 p ac cc ao co) 26)]) (fun k (q,y)=>A4 y.a y.c q.code y.j∧A4 y.b y.d q.outs y.k∧(∀ x,0<k→(tF p)[k - 1]?=some x→q=x.p)) (fun c (q,y)=>False) ((⟨0,0,[],[]⟩,⟨none,none,0,0,[],[]⟩)) F9 T.fn93 (fun _ _=>rfl) F9 (BR _ hT1 p _ _ _ _ _ hc ho hbi1 hR) (⟨eG,eG,fun x h=>absurd h sW⟩) (oO ⟨F9,F9,F9,F9,F9,H2⟩) ⟨F9,fun _=>rfl⟩ F9 (fun k xk yk ⟨q,y⟩ l dd qq w0 hx hgd hi=>?_) (fun ⟨q,y⟩ dd hi=>?_) fun ⟨q,y⟩ dd c hi=>?_
 · refine aH 1 [] ?_;refine aM 904 F9 T.zero26 fun b4=>?_;refine aS 2 [904] ?_;refine lL 900 F9 ?_;refine bG 6 [904,2] ?_;refine Ar.retag 902 5 F9 F9 (Ar.retag 903 6 F9 F9 ?_);refine eY none (.inl ⟨F9,F9⟩) 900 F9 ⟨F9,((xk.p,yk),none),F9,.inl ⟨F9,F9,?_⟩⟩ (oO ⟨F9,F9,F9,F9,F9,F9,F9,H2⟩);refine ⟨hgd.1,hgd.2,fun x _ hx'=>?_⟩;rw [jU,hx] at hx';cases hx';rfl
 · obtain ⟨hoc,hoo,hl⟩:=hi;have hq:q=tQ p:=by
    have h9:=zO p;exact hl _ sW (by rw [h9,jU];exact yP p)
   refine dO 10 [2,1] ?_;refine gQ (.inr F9) 901 F9 ?_;refine jM (.inr F9) ?_;refine dD 5 F9 hoc fun G8 hle8 hA8=>?_;refine iC (.inr F9) (Ho:=[(6,y.b.map (·.block),Row 3 q.outs y.k)]) F9 (.agg 1 F9 F9 T.agg26) (.tmp F9) ⟨F9,H2⟩ ?_;exact ⟨_,_,_,_,_,_,F9,hq,hA8,hoo,F9⟩
 exact hi.elim
end
theorem WW (G:A3) (b:Nat):Does Tryz.prog 67 [.pointer (some ⟨b,0,none⟩)] G [] (fun v G' Ho=>∃ s,v=.slice s ([⟨b,3⟩,⟨b,7⟩,⟨b,11⟩]:List E5).length 3∧Arr G' s ([⟨b,3⟩,⟨b,7⟩,⟨b,11⟩]:List E5)∧Ho=[]):=by
 refine D0 Tryz.func67 Tryz.ntmps67 fun w=>?_;refine bL 6 [] ?_;refine dK [] [] T.mixed [[0],[1],[2],[3],[4],[5],[6],[7],[8]] ?_;refine bE 9 ?_;refine cC (α:=E5) 0 [⟨_,_⟩,⟨_,_⟩,⟨_,_⟩] F9 T.sl86 T.el85 F9 F9 F9 F9 F9 fun b1=>?_;refine aT ?_;refine dP [[10]] ?_;refine cT ?_;refine dO 2 [] ?_;refine dD (α:=E5) 0 F9 (fP Dv) fun G2 hle2 hA2=>?_;refine dA ?_;exact ⟨_,F9,hA2,F9⟩
section
attribute [local irreducible] tL sY uG evP madeP tQ idx
theorem wZ {k:Nat} {l:List R2} (hR:uG l) (hk:1≤k∧k≤8):sY (evP k l)=true:=Ql (Cd hR hk)
theorem Bp {l:List R2} (hR:uG l):sY (madeP l (idx l.length))=true:=Hs hR (Cy l.length)
theorem ml (G:A3) (hT:TabOk G) (n1 n2:Nat) (a:Option Addr) (c:Nat) (l:List R2) (ha:Arr G a l) (hl:l.length≤1048576) (hlc:l.length≤c) (hW:tL (n1:Int) (n2:Int) l=0) :
 Does Tryz.prog 20 [.int .i64 (n1:Int),.int .i64 (n2:Int),.slice a l.length c] G [] (fun v G' Ho=>∃ (pa xc xo yc yo zc zo:Option Addr) (pd xcc xoc ycc yoc zcc zoc:Nat) (pj zk:List Value),v=.tuple #[.agg #[.int .i64 (n1:Int),.int .i64 (n2:Int),.slice pa l.length pd,.int .i64 (tQ (evP n1 l)).ins,.int .i64 (tQ (evP n1 l)).regs,.slice xc (tQ (evP n1 l)).code.length xcc,.slice xo (tQ (evP n1 l)).outs.length xoc,.int .i64 (tQ (evP n2 l)).ins,.int .i64 (tQ (evP n2 l)).regs,.slice yc (tQ (evP n2 l)).code.length ycc,.slice yo (tQ (evP n2 l)).outs.length yoc,.int .i64 (tQ (madeP l (idx l.length))).ins,.int .i64 (tQ (madeP l (idx l.length))).regs,.slice zc (tQ (madeP l (idx l.length))).code.length zcc,.slice zo (tQ (madeP l (idx l.length))).outs.length zoc],.int .i64 0]∧
  A4 pa pd l pj∧Arr G' xc (tQ (evP n1 l)).code∧Arr G' xo (tQ (evP n1 l)).outs∧Arr G' yc (tQ (evP n2 l)).code∧Arr G' yo (tQ (evP n2 l)).outs∧Arr G' zc (tQ (madeP l (idx l.length))).code∧A4 zo zoc (tQ (madeP l (idx l.length))).outs zk∧Ho=[(2,pa.map (·.block),Row 52 l pj),(7,zo.map (·.block),Row 3 (tQ (madeP l (idx l.length))).outs zk)]):=by
 obtain ⟨hP1,hP2,hL,hRL⟩:=vH hW;have hn1:1≤n1∧n1≤8:=by have:=hP1.1;have:=hP1.2;omega
 have hn2:1≤n2∧n2≤8:=by have:=hP2.1;have:=hP2.2;omega
 have hRx:=wZ hRL hn1;have hRy:=wZ hRL hn2;have hRz:=Bp hRL;refine D0 Tryz.func20 Tryz.ntmps20 fun w=>?_;refine aH 2 [] ?_;refine aM 0 F9 T.zero28 fun b1=>?_;refine aL 8 [] ?_;refine bS 1 F9 (ep _ hT n1 n2 _ _ _ sX sW sW hW) fun v1 G1 Ho1 hle1 hp=>?_;obtain ⟨pa1,xc1,xo1,yc1,yo1,zc1,zo1,pd1,xcc1,xoc1,ycc1,yoc1,zcc1,zoc1,pj1,zj1,zk1,rfl,hpo1,hxc1,hxo1,hyc1,hyo1,hzc1,hzo1,rfl⟩:=hp;replace ha:=ha.up hle1;refine aC 3 [] ?_;refine aM 6 F9 T.zero28 fun b2=>?_;refine aL 17 [6,0] ?_;refine bS 7 F9 (WW _ _) fun v2 G2 Ho2 hle2 hp=>?_;obtain ⟨ps2,rfl,hps2,rfl⟩:=hp;replace hxc1:=hxc1.up hle2;replace hxo1:=hxo1.up hle2;replace hyc1:=hyc1.up hle2;replace hyo1:=hyo1.up hle2;replace ha:=ha.up hle2;refine aZ 5 [] ?_;refine qL 4 F9 hzc1 (fun G3 hle3 hzcA=>qL 5 F9 hzo1 (fun G4 hle4 hzoA=>?_));replace hps2:=(hps2.up hle3).up hle4;replace hxc1:=(hxc1.up hle3).up hle4;replace hxo1:=(hxo1.up hle3).up hle4;replace hyc1:=(hyc1.up hle3).up hle4;replace hyo1:=(hyo1.up hle3).up hle4;replace hzcA:=hzcA.up hle4;refine eF 7 (Row 3 ([]:List Int) []) ?_;refine kE (ι:=Nat×A3×PH×PH×PH×(Option Addr×Nat×List Int×List Value)) (fun (k,Gx,u,v,q,(ro,rd,os,rj))=>([(27,.int .i64 (k:Int)),(26,.int .i64 ((3:Nat):Int)),(8,.pointer (some ⟨b2,0,none⟩)),(6,.pointer (some ⟨b1,0,none⟩)),(25,.slice ps2 (List.length [E5.mk b2 3,E5.mk b2 7,E5.mk b2 11]) 3)],[(0,some b1,.cells #[.int .i64 0,.int .i64 0,.slice none 0 0,.int .i64 0,.int .i64 0,.slice none 0 0,.slice none 0 0,.int .i64 0,.int .i64 0,.slice none 0 0,.slice none 0 0,.int .i64 0,.int .i64 0,.slice none 0 0,.slice none 0 0] 28),(2,pa1.map (·.block),Row 52 l pj1),(6,some b2,.cells #[.int .i64 (n1:Int),.int .i64 (n2:Int),.slice pa1 l.length pd1,.int .i64 u.ins,.int .i64 u.regs,.slice u.ac u.cn u.cc,.slice u.ao u.on u.oc,.int .i64 v.ins,.int .i64 v.regs,.slice v.ac v.cn v.cc,.slice v.ao v.on v.oc,.int .i64 q.ins,.int .i64 q.regs,.slice q.ac q.cn q.cc,.slice q.ao q.on q.oc] 28),(7,ro.map (·.block),Row 3 os rj)])) (fun (k,Gx,u,v,q,(ro,rd,os,rj))=>Gx) (fun (k,Gx,u,v,q,(ro,rd,os,rj))=>k≤3∧G4.le Gx∧D6 Gx (if 0<k then (tQ (evP n1 l)) else (evP n1 l)) u∧D6 Gx (if 1<k then (tQ (evP n2 l)) else (evP n2 l)) v∧(k<3→D6 Gx (madeP l (idx l.length)) q)∧A4 ro rd os rj∧(k=3→os=(tQ (madeP l (idx l.length))).outs∧q=⟨(tQ (madeP l (idx l.length))).ins,(tQ (madeP l (idx l.length))).regs,q.ac,(tQ (madeP l (idx l.length))).code.length,q.cc,ro,os.length,rd⟩∧Arr Gx q.ac (tQ (madeP l (idx l.length))).code)) (fun (k,Gx,u,v,q,(ro,rd,os,rj))=>3 - k) ((0,G4,⟨(evP n1 l).ins,(evP n1 l).regs,xc1,(evP n1 l).code.length,xcc1,xo1,(evP n1 l).outs.length,xoc1⟩,⟨(evP n2 l).ins,(evP n2 l).regs,yc1,(evP n2 l).code.length,ycc1,yo1,(evP n2 l).outs.length,yoc1⟩,⟨(madeP l (idx l.length)).ins,(madeP l (idx l.length)).regs,zc1,(madeP l (idx l.length)).code.length,zcc1,zo1,(madeP l (idx l.length)).outs.length,zoc1⟩,(none,0,[],[]))) (⟨aN _,bN _,⟨F9,F9,F9,F9,hxc1,hxo1⟩,⟨F9,F9,F9,F9,hyc1,hyo1⟩,fun _=>⟨F9,F9,F9,F9,hzcA,hzoA⟩,eG,fun h=>absurd h sW⟩) F9 ⟨F9,F9,F9,F9,F9,H2⟩ ⟨F9,F9,F9,F9,H2⟩ fun ⟨k,Gx,u,v,q,(ro,rd,os,rj)⟩=>fun hk=>?_;obtain ⟨hk3,hgx,hu,hv,hq,hro,hq3⟩:=hk;replace hps2:=hps2.up hgx;have hk4:k=0∨k=1∨k=2∨k=3:=sW;rcases hk4 with rfl | rfl | rfl | rfl
 · have hu0:D6 Gx (evP n1 l) u:=hu;obtain ⟨ei,er,eac,ecn,ecc,eao,eon,eoc⟩:=u;obtain ⟨e1,e2,e3,e4,hec,heo⟩:=hu0;dsimp only at e1 e2 e3 e4 hec heo;subst e1 e2 e3 e4;refine bL 6 [] ?_;refine rB F9 (show ((0:Nat):Int)<((3:Nat):Int) by decide) ?_;refine aH 6 [] ?_;refine aQ (iQ (α:=E5) T.sl86 F9 F9 hps2 (show 0≤((0:Nat):Int)∧((0:Nat):Int)<((3:Nat):Int) by decide)) ?_;refine aQ (bV T.one85 F9 (gI hps2 (show 0≤((0:Nat):Int)∧((0:Nat):Int)<((3:Nat):Int) by decide) 0 F9 F9)) ?_;refine fR 30 F9 (show _=Value.pointer (some ⟨b2,3,none⟩) from F9) ?_;refine aL 7 [] ?_;refine aQ (eL 6 T.agg26 F9 F9 F9 F9) ?_;refine bS 8 F9 (YX _ (hT.up Xt) (evP n1 l) _ _ _ _ sX sX hRx) fun v5 G5 Ho5 hle5 hp=>?_;obtain ⟨lq5,la5,lb5,lc5,ld5,rfl,hlq5,hla5,hlb5,rfl⟩:=hp;replace hps2:=hps2.up hle5;replace hec:=hec.up hle5;replace heo:=heo.up hle5;refine aC 3 [] ?_;refine aM 8 F9 T.zero26 fun b3=>?_;refine aL 18 [8,0,8] ?_;refine iM 6 T.size26 F9 F9 F9 F9 F9 F9 ?_;refine aS 7 [] ?_;replace hle5:Gx.le G5:=hle5;subst hlq5;refine cE 27 F9 (show _=Value.int .i64 ((1:Nat):Int) from F9) ?_;refine cM ((1,G5,⟨(tQ (evP n1 l)).ins,(tQ (evP n1 l)).regs,la5,(tQ (evP n1 l)).code.length,lc5,lb5,(tQ (evP n1 l)).outs.length,ld5⟩,v,q,(ro,rd,os,rj))) ?_ ?_
   · exact ⟨by omega,aO hgx hle5,⟨F9,F9,F9,F9,hla5,hlb5⟩,hv.up hle5,fun _=>(hq tG).up hle5,hro,fun h=>absurd h sW⟩
   show 3 - 1<3 - 0;omega
 · have hv1:D6 Gx (evP n2 l) v:=hv;obtain ⟨ei,er,eac,ecn,ecc,eao,eon,eoc⟩:=v;obtain ⟨e1,e2,e3,e4,hec,heo⟩:=hv1;dsimp only at e1 e2 e3 e4 hec heo;subst e1 e2 e3 e4;refine bL 6 [] ?_;refine rB F9 (show ((1:Nat):Int)<((3:Nat):Int) by decide) ?_;refine aH 6 [] ?_;refine aQ (iQ (α:=E5) T.sl86 F9 F9 hps2 (show 0≤((1:Nat):Int)∧((1:Nat):Int)<((3:Nat):Int) by decide)) ?_;refine aQ (bV T.one85 F9 (gI hps2 (show 0≤((1:Nat):Int)∧((1:Nat):Int)<((3:Nat):Int) by decide) 0 F9 F9)) ?_;refine fR 30 F9 (show _=Value.pointer (some ⟨b2,7,none⟩) from F9) ?_;refine aL 7 [] ?_;refine aQ (eL 6 T.agg26 F9 F9 F9 F9) ?_;refine bS 8 F9 (YX _ (hT.up Xt) (evP n2 l) _ _ _ _ sX sX hRy) fun v5 G5 Ho5 hle5 hp=>?_;obtain ⟨lq5,la5,lb5,lc5,ld5,rfl,hlq5,hla5,hlb5,rfl⟩:=hp;replace hps2:=hps2.up hle5;replace hec:=hec.up hle5;replace heo:=heo.up hle5;refine aC 3 [] ?_;refine aM 8 F9 T.zero26 fun b3=>?_;refine aL 18 [8,0,8] ?_;refine iM 6 T.size26 F9 F9 F9 F9 F9 F9 ?_;refine aS 7 [] ?_;replace hle5:Gx.le G5:=hle5;subst hlq5;refine cE 27 F9 (show _=Value.int .i64 ((2:Nat):Int) from F9) ?_;refine cM ((2,G5,u,⟨(tQ (evP n2 l)).ins,(tQ (evP n2 l)).regs,la5,(tQ (evP n2 l)).code.length,lc5,lb5,(tQ (evP n2 l)).outs.length,ld5⟩,q,(ro,rd,os,rj))) ?_ ?_
   · exact ⟨by omega,aO hgx hle5,hu.up hle5,⟨F9,F9,F9,F9,hla5,hlb5⟩,fun _=>(hq tG).up hle5,hro,fun h=>absurd h sW⟩
   show 3 - 2<3 - 1;omega
 · have hq2:D6 Gx (madeP l (idx l.length)) q:=hq tG;obtain ⟨ei,er,eac,ecn,ecc,eao,eon,eoc⟩:=q;obtain ⟨e1,e2,e3,e4,hec,heo⟩:=hq2;dsimp only at e1 e2 e3 e4 hec heo;subst e1 e2 e3 e4;refine bL 6 [] ?_;refine rB F9 (show ((2:Nat):Int)<((3:Nat):Int) by decide) ?_;refine aH 6 [] ?_;refine aQ (iQ (α:=E5) T.sl86 F9 F9 hps2 (show 0≤((2:Nat):Int)∧((2:Nat):Int)<((3:Nat):Int) by decide)) ?_;refine aQ (bV T.one85 F9 (gI hps2 (show 0≤((2:Nat):Int)∧((2:Nat):Int)<((3:Nat):Int) by decide) 0 F9 F9)) ?_;refine fR 30 F9 (show _=Value.pointer (some ⟨b2,11,none⟩) from F9) ?_;refine aL 7 [] ?_;refine aQ (eL 6 T.agg26 F9 F9 F9 F9) ?_;refine bS 8 F9 (mj _ (hT.up Xt) (madeP l (idx l.length)) _ _ _ _ sX sX hRz) fun v5 G5 Ho5 hle5 hp=>?_;obtain ⟨lq5,la5,lb5,lc5,ld5,lj5,rfl,hlq5,hla5,hlb5,rfl⟩:=hp;replace hps2:=hps2.up hle5;replace hec:=hec.up hle5;replace heo:=heo.up hle5;refine aC 3 [] ?_;refine aM 15 F9 T.zero26 fun b3=>?_;refine aL 18 [15,0,15] ?_;refine iM 6 T.size26 F9 F9 F9 F9 F9 F9 ?_;refine aS 7 [] ?_;replace hle5:Gx.le G5:=hle5;subst hlq5;refine cE 27 F9 (show _=Value.int .i64 ((3:Nat):Int) from F9) ?_;refine Ar.retag 14 7 F9 F9 ?_;refine cM ((3,G5,u,v,⟨(tQ (madeP l (idx l.length))).ins,(tQ (madeP l (idx l.length))).regs,la5,(tQ (madeP l (idx l.length))).code.length,lc5,lb5,(tQ (madeP l (idx l.length))).outs.length,ld5⟩,(lb5,ld5,(tQ (madeP l (idx l.length))).outs,lj5))) ?_ ?_
   · exact ⟨by omega,aO hgx hle5,hu.up hle5,hv.up hle5,fun h=>absurd h sW,hlb5,fun _=>⟨F9,F9,hla5⟩⟩
   show 3 - 3<3 - 2;omega
 have hu3:D6 Gx (tQ (evP n1 l)) u:=hu;have hv3:D6 Gx (tQ (evP n2 l)) v:=hv;obtain ⟨ui,ur,uac,ucn,ucc,uao,uon,uoc⟩:=u;obtain ⟨e1,e2,e3,e4,huc,huo⟩:=hu3;dsimp only at e1 e2 e3 e4 huc huo;subst e1 e2 e3 e4;obtain ⟨vi,vr,vac,vcn,vcc,vao,von,voc⟩:=v;obtain ⟨e1,e2,e3,e4,hvc,hvo⟩:=hv3;dsimp only at e1 e2 e3 e4 hvc hvo;subst e1 e2 e3 e4;obtain ⟨ho3,hq4,hac⟩:=hq3 F9;obtain ⟨qi,qr,qac,qcn,qcc,qao,qon,qoc⟩:=q;rw [PH.mk.injEq] at hq4;obtain ⟨rfl,rfl,-,rfl,-,rfl,rfl,rfl⟩:=hq4;subst ho3;refine bG 20 [0,6,0] ?_;refine iC (.inr F9) (Ho:=[(2,pa1.map (·.block),Row 52 l pj1),(7,qao.map (·.block),Row 3 (tQ (madeP l (idx l.length))).outs rj)]) F9 (.agg 0 F9 F9 T.agg28) (.tmp F9) ⟨F9,F9,H2⟩ ?_;exact ⟨pa1,uac,uao,vac,vao,qac,qao,pd1,ucc,uoc,vcc,voc,qcc,qoc,pj1,rj,F9,hpo1,huc,huo,hvc,hvo,hac,hro,F9⟩
end
def nd (i:Sl.Instr):Prop:=¬(i.op=6∨i.op=8)
theorem RA {l:List Sl.Instr} (h:∀ i∈l,nd i) (k:Nat):nd (l[k]?.getD default):=by
 rcases aK k l.length with hk | hk
 · rw [aA hk];exact h _ (bZ hk)
 rw [cA hk];show ¬((0:Int)=6∨(0:Int)=8);decide
theorem BS {i:Sl.Instr} (h:nd i):nd (uF i):=by
 unfold nd at h;unfold uF
 repeat' split
 all_goals unfold nd
 all_goals simp only [not_or] at h ⊢
 all_goals first | exact h | (constructor <;> decide) | omega
theorem YY {f c s d:Int} (h1:¬(f=6∨f=8)) (h2:¬(s=6∨s=8)):¬((vS f c s d).1=6∨(vS f c s d).1=8):=by
 unfold vS
 repeat' split
 all_goals (try simp only)
 all_goals omega
theorem VS {a b:Sl.Instr} (ha:nd a) (hb:nd b) (h:(uV a b).2=true):nd (uV a b).1:=by
 unfold uV at h ⊢;split at h
 · cases h
 rename_i h0;rw [aD h0];split at h
 · rename_i h1;rw [aE h1];exact BS (YY ha hb)
 cases h
theorem GZ {p:PV} (h:xV p):xV (zD p):=fun i hi =>
 Rc (q:=nd) (fun a b ha hb h=>VS ha hb h) (fun i h=>BS h) p.code h i (sR.1 hi)
theorem HA {p:PV} (h:xV p):xV (xT p):=by
 have aux:∀ k,∀ i∈(uC p k).2,nd i:=by
  intro k;induction k with
  | zero=>intro i hi;cases hi
  | succ k ih =>
    intro i hi;have hk:=RA h (k:Int).toNat;unfold uC tR at hi;simp only at hi;split at hi
    · exact ih i hi
    rcases gW.1 hi with hi | hi
    · exact ih i hi
    rw [eM.1 hi];split
    · show ¬((1:Int)=6∨(1:Int)=8);decide
    unfold askedP
    repeat' split
    all_goals exact hk
 exact aux _
theorem HB {p:PV} (h:xV p):xV (zX p):=by
 have aux:∀ k,∀ i∈wE p k,nd i:=by
  intro k;induction k with
  | zero=>intro i hi;cases hi
  | succ k ih =>
    intro i hi;unfold wE at hi;split at hi
    · rcases gW.1 hi with hi | hi
      · exact ih i hi
      rw [eM.1 hi];exact RA h _
    exact ih i hi
 exact aux _
theorem BT {p:PV} (h:xV p):xV (tO p):=by
 have aux:∀ k,∀ i∈(tX p k).code,nd i:=by
  intro k;induction k with
  | zero=>intro i hi;cases hi
  | succ k ih =>
    intro i hi;unfold tX at hi;split at hi
    · unfold Ia at hi;simp only at hi;rcases gW.1 hi with hi | hi
      · exact ih i hi
      rw [eM.1 hi];exact RA h (k:Int).toNat
    exact ih i hi
 exact aux _
theorem Xh {p:PV} (h:xV p):∀ k,xV (vX p k)
 | 0=>h
 | k+1=>by
   show xV (uS k (vX p k));unfold uS;split
   · exact GZ (Xh h k)
   split
   · exact HA (Xh h k)
   exact HB (Xh h k)
theorem HD {p:PV} (h:xV p):xV (tQ p):=BT (Xh h _)
theorem zB {p:PV} (hR:sY p=true):sY (tQ p)=true∧(tQ p).ins=p.ins∧(tQ p).outs.length=p.outs.length∧(tQ p).code.length≤p.code.length∧
 ∀ (gs os:List (List Int)) (N:Nat),(gs.length:Int)=p.ins→Flat N gs→tJ p gs=some os→tJ (tQ p) gs=some os:=by
 have h:=Dr hR (yP p);unfold tQ;generalize tO (vX p (Ae p))=q at h ⊢;exact h
theorem Ro (k:Nat):Flat k (vV k):=fun r hr=>by
 unfold vV at hr;obtain ⟨i,hi,rfl⟩:=dY.1 hr;exact Au k i
theorem Uv (l:List R2):Flat l.length (xK l):=fun r hr=>by
 unfold xK at hr;obtain ⟨q,hq,rfl⟩:=dY.1 hr;exact Jh _ _ _
theorem Uw {p:PV} {k:Nat} {l:List R2} (hR:sY p=true) (h:vK p k l):vK (tQ p) k l:=by
 obtain ⟨h1,h2,h3,h4⟩:=h;obtain ⟨g1,g2,g3,g4,g5⟩:=zB hR;rw [aF] at h4;refine ⟨by rw [g2,h1],by rw [g3,h2],HD h3,?_⟩;rw [aF];exact g5 _ _ k (by rw [yF,h1]) (Ro k) h4
theorem BU {p:PV} {l:List R2} (h:uP p l):uP (tQ p) l:=by
 obtain ⟨h0,h1,h2,h3⟩:=h;obtain ⟨g1,g2,g3,g4,g5⟩:=zB h0;exact ⟨g1,by rw [g2,h1],by rw [g3,h2],g5 _ _ l.length (by rw [Dh,h1]) (Uv l) h3⟩
theorem RB {n1 n2:Nat} {l:List R2} (hW:tL (n1:Int) (n2:Int) l=0):tW n1 n2 l (evP n1 l) (evP n2 l) (madeP l (idx l.length))=(0,0):=by
 obtain ⟨hP1,hP2,hL,hRL⟩:=vH hW;have hn1:1≤n1∧n1≤8:=by have:=hP1.1;have:=hP1.2;omega
 have hn2:1≤n2∧n2≤8:=by have:=hP2.1;have:=hP2.2;omega
 exact Jm hW (wZ hRL hn1) (Fu (Cd hRL hn1)) (wZ hRL hn2) (Fu (Cd hRL hn2)) (Bp hRL) (Mv hRL (Cy l.length))
theorem Sj {n1 n2:Nat} {l:List R2} (hW:tL (n1:Int) (n2:Int) l=0):tW n1 n2 l (tQ (evP n1 l)) (tQ (evP n2 l)) (tQ (madeP l (idx l.length)))=(0,0):=by
 obtain ⟨hP1,hP2,hL,hRL⟩:=vH hW;have hn1:1≤n1∧n1≤8:=by have:=hP1.1;have:=hP1.2;omega
 have hn2:1≤n2∧n2≤8:=by have:=hP2.1;have:=hP2.2;omega
 exact Jm hW (zB (wZ hRL hn1)).1 (Uw (wZ hRL hn1) (Fu (Cd hRL hn1))) (zB (wZ hRL hn2)).1 (Uw (wZ hRL hn2) (Fu (Cd hRL hn2))) (zB (Bp hRL)).1 (BU (Mv hRL (Cy l.length)))
theorem mm (G:A3) (a b:Option Addr) (c d:Nat) (l:List R2) (hx:Arr G a l) (hy:Arr G b l) (hl:l.length≤1048576) :
 Does Tryz.prog 22 [.slice a l.length c,.slice b l.length d] G [] (fun v G' Ho=>v=.bool (decide (1=1))∧G'=G∧Ho=[]):=by
 refine D0 Tryz.func22 Tryz.ntmps22 fun w=>?_;refine bL 27 [0] ?_;refine iA (ι:=Nat) (fun i=>([(13,.int .i64 (i:Int)),(12,Go.Value.int Go.IntKind.i64 (↑(List.length l):Int)),(0,Go.Value.slice a (List.length l) c),(1,Go.Value.slice b (List.length l) d)],[])) (fun i=>i≤l.length) (fun i=>l.length - i) (0) (aN _) fun i=>fun (hk:i≤l.length)=>?_;refine bL 6 [] ?_;refine dB (fun hc1=>?_) fun hc1=>?_;refine bL 11 [] ?_;refine dK [] [] T.mixed [[0],[1]] ?_;refine mT (α:=R2) 2 T.sl22 ?_;refine rT 3 T.agg52 ?_;refine dP [[4],[5]] ?_;refine mT (α:=R2) 6 T.sl22 ?_;refine rT 7 T.agg52 ?_;refine eD 8 [] F9 (Vg [_,_] [_,_] T.ai52 F9 F9 F9 F9) ?_;refine iF sZ H2 wF ?_;refine cN ?_;refine dB (fun hc2=>?_) fun hc2=>?_;refine bG 11 [] ?_;refine dA ?_;rotate_left;refine bG 7 [] ?_;rotate_left;refine bG 11 [] ?_;refine dA ?_;rotate_left
 · exact absurd F9 hc2
 · refine cM (i+1) ?_ ?_
   · show i+1≤l.length;omega
   show l.length - (i+1)<l.length - i;omega
 exact ⟨F9,F9,F9⟩
theorem mn (G:A3) (k1 k2:Int) (pl:List R2) (pa:Option Addr) (pc:Nat) (x y z:PV) (xac xao yac yao zac zao:Option Addr) (xcc xoc ycc yoc zcc zoc:Nat) (hpa:Arr G pa pl) (hk1:1≤k1∧k1≤8) (hk2:1≤k2∧k2≤8) (hpl:pl.length≤15) (hin:∀ i:Nat,i<pl.length→near (pl[i]?.getD default).a (pl[i]?.getD default).b)
 (hxc:Arr G xac x.code) (hxo:Arr G xao x.outs) (hRx:sY x=true) (hyc:Arr G yac y.code) (hyo:Arr G yao y.outs) (hRy:sY y=true) (hzc:Arr G zac z.code) (hzo:Arr G zao z.outs) (hRz:sY z=true) :
 Does Tryz.prog 36 [.agg #[.int .i64 k1,.int .i64 k2,.slice pa pl.length pc,.int .i64 x.ins,.int .i64 x.regs,.slice xac x.code.length xcc,.slice xao x.outs.length xoc,.int .i64 y.ins,.int .i64 y.regs,.slice yac y.code.length ycc,.slice yao y.outs.length yoc,.int .i64 z.ins,.int .i64 z.regs,.slice zac z.code.length zcc,.slice zao z.outs.length zoc]] G [] (fun v G' Ho=>v=.int .i64 0∧G'=G∧Ho=[]):=by
 obtain ⟨x1,x2,x3,x4,x5,x6,x7,x8⟩:=tB hRx;obtain ⟨y1,y2,y3,y4,y5,y6,y7,y8⟩:=tB hRy;obtain ⟨z1,z2,z3,z4,z5,z6,z7,z8⟩:=tB hRz;refine D0 Tryz.func36 Tryz.ntmps36 fun w=>?_;refine aH 2 [] ?_;refine eC 0 fun b1=>?_;refine aL 10 [0] ?_;refine nF 12 ?_;refine aC 8 [0] ?_;refine nF 17 ?_;refine aC 8 [0] ?_;refine nF 22 ?_;refine aC 8 [0] ?_;refine nF 27 ?_;refine aZ 24 [0,0,0] ?_;refine iA (ι:=Nat) (fun i=>([(36,.int .i64 (i:Int)),(1,.pointer (some ⟨b1,0,none⟩)),(35,Go.Value.int Go.IntKind.i64 (↑(List.length pl):Int)),(34,Go.Value.slice pa (List.length pl) pc)],[(0,some b1,.cells #[.int .i64 k1,.int .i64 k2,.slice pa pl.length pc,.int .i64 x.ins,.int .i64 x.regs,.slice xac x.code.length xcc,.slice xao x.outs.length xoc,.int .i64 y.ins,.int .i64 y.regs,.slice yac y.code.length ycc,.slice yao y.outs.length yoc,.int .i64 z.ins,.int .i64 z.regs,.slice zac z.code.length zcc,.slice zao z.outs.length zoc] 28)])) (fun i=>i≤pl.length) (fun i=>pl.length - i) (0) (aN _) fun i=>fun (hk:i≤pl.length)=>?_;refine bL 6 [] ?_;refine dB (fun hc1=>?_) fun hc1=>?_;refine aH 6 [] ?_;refine fV (α:=R2) T.sl22 ?_;refine lP T.agg52 ?_;refine aM 1 F9 T.zero52 fun b2=>?_;refine aL 6 [1,1] ?_;refine cF F9 Ij ?_;refine aQ (fS F9) ?_;refine aZ 2 [] ?_;refine dB (fun hc2=>?_) fun hc2=>?_;refine bG 11 [] ?_;refine dA ?_;rotate_left;refine bG 7 [] ?_;rotate_left;refine aH 8 [] ?_;refine cF F9 (jy _ _) ?_;refine aZ 4 [] ?_;rotate_left
 · exfalso;exact absurd (hin i sW) sX
 · refine cE 36 F9 (show _=Value.int .i64 ((i+1:Nat):Int) from F9) ?_;refine cM (i+1) ?_ ?_
   · show i+1≤pl.length;omega
   show pl.length - (i+1)<pl.length - i;omega
 refine iA (ι:=Nat) (fun k=>([(45,.int .i64 (k:Int)),(44,.agg #[.pointer (some ⟨b1,3,none⟩),.pointer (some ⟨b1,7,none⟩),.pointer (some ⟨b1,11,none⟩)])],[(0,some b1,.cells #[.int .i64 k1,.int .i64 k2,.slice pa pl.length pc,.int .i64 x.ins,.int .i64 x.regs,.slice xac x.code.length xcc,.slice xao x.outs.length xoc,.int .i64 y.ins,.int .i64 y.regs,.slice yac y.code.length ycc,.slice yao y.outs.length yoc,.int .i64 z.ins,.int .i64 z.regs,.slice zac z.code.length zcc,.slice zao z.outs.length zoc] 28)])) (fun k=>k≤3) (fun k=>3 - k) (0) (aN _) fun k=>fun (hk:k≤3)=>?_;have hk4:k=0∨k=1∨k=2∨k=3:=sW;rcases hk4 with rfl | rfl | rfl | rfl
 · skip;refine aH 13 [1] ?_;refine aQ (Ez.Qy.indexV (n:=3) (E:=85) sZ sZ sZ F9 F9 tG F9) ?_;refine aL 7 [] ?_;refine aQ (eL 0 T.agg26 F9 F9 F9 F9) ?_;refine cF F9 (Ni _ x _ _ _ _ sX sX sW sW hRx) ?_;refine aS 21 [0] ?_;refine cE 45 F9 (show _=Value.int .i64 ((1:Nat):Int) from F9) ?_;refine cM (1) ?_ ?_
   · show 1≤3;omega
   show 3 - 1<3 - 0;omega
 · skip;refine aH 13 [1] ?_;refine aQ (Ez.Qy.indexV (n:=3) (E:=85) sZ sZ sZ F9 F9 tG F9) ?_;refine aL 7 [] ?_;refine aQ (eL 0 T.agg26 F9 F9 F9 F9) ?_;refine cF F9 (Ni _ y _ _ _ _ sX sX sW sW hRy) ?_;refine aS 21 [0] ?_;refine cE 45 F9 (show _=Value.int .i64 ((2:Nat):Int) from F9) ?_;refine cM (2) ?_ ?_
   · show 2≤3;omega
   show 3 - 2<3 - 1;omega
 · skip;refine aH 13 [1] ?_;refine aQ (Ez.Qy.indexV (n:=3) (E:=85) sZ sZ sZ F9 F9 tG F9) ?_;refine aL 7 [] ?_;refine aQ (eL 0 T.agg26 F9 F9 F9 F9) ?_;refine cF F9 (Ni _ z _ _ _ _ sX sX sW sW hRz) ?_;refine aS 21 [0] ?_;refine cE 45 F9 (show _=Value.int .i64 ((3:Nat):Int) from F9) ?_;refine cM (3) ?_ ?_
   · show 3≤3;omega
   show 3 - 3<3 - 2;omega
 refine bG 18 [0] ?_;refine dA ?_;exact ⟨F9,F9,F9⟩
structure UH where
 k1:Int
 k2:Int
 pa:Option Addr
 pn:Nat
 pc:Nat
 x:PH
 y:PH
 z:PH
instance:Inhabited UH:=⟨⟨0,0,none,0,0,default,default,default⟩⟩
instance:A2 UH:=⟨15,fun u=>[.int .i64 u.k1,.int .i64 u.k2,.slice u.pa u.pn u.pc,.int .i64 u.x.ins,.int .i64 u.x.regs,.slice u.x.ac u.x.cn u.x.cc,.slice u.x.ao u.x.on u.x.oc,.int .i64 u.y.ins,.int .i64 u.y.regs,.slice u.y.ac u.y.cn u.y.cc,.slice u.y.ao u.y.on u.y.oc,.int .i64 u.z.ins,.int .i64 u.z.regs,.slice u.z.ac u.z.cn u.z.cc,.slice u.z.ao u.z.on u.z.oc],fun _=>rfl,fun _=>rfl⟩
section
attribute [local irreducible] tL sY uG evP madeP tQ idx tW
theorem mo (G:A3) (hT:TabOk G) (n1 n2:Nat) (a:Option Addr) (c:Nat) (l:List R2) (ha:Arr G a l) (hl:l.length≤1048576) (hlc:l.length≤c) (hW:tL (n1:Int) (n2:Int) l=0) :
 Does Tryz.prog 20 [.int .i64 (n1:Int),.int .i64 (n2:Int),.slice a l.length c] G [] (fun v G' Ho=>∃ (X Y Z:PV) (pa xc xo yc yo zc zo:Option Addr) (pd xcc xoc ycc yoc zcc zoc:Nat) (pj zk:List Value),v=.tuple #[.agg #[.int .i64 (n1:Int),.int .i64 (n2:Int),.slice pa l.length pd,.int .i64 X.ins,.int .i64 X.regs,.slice xc X.code.length xcc,.slice xo X.outs.length xoc,.int .i64 Y.ins,.int .i64 Y.regs,.slice yc Y.code.length ycc,.slice yo Y.outs.length yoc,.int .i64 Z.ins,.int .i64 Z.regs,.slice zc Z.code.length zcc,.slice zo Z.outs.length zoc],.int .i64 0]∧tW n1 n2 l X Y Z=(0,0)∧(sY X=true∧sY Y=true∧sY Z=true)∧
  A4 pa pd l pj∧Arr G' xc X.code∧Arr G' xo X.outs∧Arr G' yc Y.code∧Arr G' yo Y.outs∧Arr G' zc Z.code∧A4 zo zoc Z.outs zk∧Ho=[(2,pa.map (·.block),Row 52 l pj),(7,zo.map (·.block),Row 3 Z.outs zk)]):=
 (ml G hT n1 n2 a c l ha hl hlc hW).mono fun v G' Ho _ ⟨pa,xc,xo,yc,yo,zc,zo,pd,xcc,xoc,ycc,yoc,zcc,zoc,pj,zk,e,h⟩=>by
  obtain ⟨hP1,hP2,hL,hRL⟩:=vH hW;have hn1:1≤n1∧n1≤8:=by have:=hP1.1;have:=hP1.2;omega
  have hn2:1≤n2∧n2≤8:=by have:=hP2.1;have:=hP2.2;omega
  exact ⟨_,_,_,pa,xc,xo,yc,yo,zc,zo,pd,xcc,xoc,ycc,yoc,zcc,zoc,pj,zk,e,Sj hW,⟨(zB (wZ hRL hn1)).1,(zB (wZ hRL hn2)).1,(zB (Bp hRL)).1⟩,h⟩
end
theorem KM {k1 k2:Int} {l:List R2} (h:¬tL k1 k2 l=0):tL k1 k2 l=70∨tL k1 k2 l=71:=by
 unfold tL at h ⊢
 repeat' split
 all_goals first | exact .inl F9 | exact .inr F9 | skip
 all_goals (rename_i h1 h2 h3 h4;rw [aD h1,aD h2,aD h3,aD h4] at h;exact absurd F9 h)
end Go.Proofs.YtkdelpdbjfpgmaaGreatDoor
