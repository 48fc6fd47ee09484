/- uJ of the proof (part 4): what the rows' text needs of the texts that lead to it. -/
import Derived.Test.YtfdcckcadfhpeaaGreatDoorMMc
set_option linter.unusedVariables false
set_option linter.unusedSimpArgs false
set_option linter.unusedSectionVars false
set_option maxHeartbeats 4000000
set_option maxRecDepth 100000
namespace Go.Proofs.YtfdcckcadfhpeaaGreatDoor
open Go Go.Sl
theorem RZ {α:Type} [A0 α] (E:I9) (xs:List α) (j:List Value) (n:Nat):Row E xs j=Row E (xs.take n) (uD (xs.drop n)++j):=by
 unfold Row;rw [←bA,←xM,eZ]
theorem SA {α:Type} [A0 α] {a:J0 Addr} {c:Nat} {xs:List α} {j:List Value} (h:A3 a c xs j) (n:Nat):A3 a c (xs.take n) (uD (xs.drop n)++j):=by
 rcases h with ⟨h1,rfl,rfl,h4⟩ | ⟨b,h1,h2,h3,h4⟩
 · exact .inl ⟨h1,by simp,by simp [uD],h4⟩
 refine .inr ⟨b,h1,?_,?_,h4⟩
 · rw [aD,uA,←kR,←fC,←aD,eZ];exact h2
 rw [bM];omega
theorem NG {l:List A6} (hd:A8 l) (h0:l≠[]) (h:pw (l.length - 1)≤sY l):H3 l:=by
 refine .inr fun hz=>?_;have hl:0<l.length:=rC.2 h0;have e:=wK l (l.length - 1);have hz':dg l (l.length - 1)=0:=by unfold dg;rw [aG];exact hz
 rw [rK hl,vY (aH _),hz',cA,dV] at e;have h1:=yQ (hd.take (l.length - 1));rw [bM,fW sU] at h1;omega
theorem Ai {l m:List A6} (hl:A8 l) (hm:A8 m) (tm:H3 m) (h:sY m≤sY l):m.length≤l.length:=by
 rcases aN l.length m.length with h1 | h1
 · have:=Ca hl hm tm h1;omega
 exact h1
theorem SB {l:List A6} {i:Nat} (h:i<l.length) (d:A6):(l.set i d).take (i+1)=l.take i++[d]:=by
 rw [dA,List.take_set_of_le (aH _),pX h];rfl
theorem XO {r s:List A6} {i:Nat} (h:s.drop i=r.drop i):dg s i=dg r i:=by
 have e:s[i]?=r[i]?:=by
  have:=congrArg (·[0]?) h;simpa [iR] using this
 unfold dg;rw [aG,e]
theorem Ve {r s:List A6} {i:Nat} (h:s.drop i=r.drop i) (d:A6):(s.set i d).drop (i+1)=r.drop (i+1):=by
 rw [List.drop_set_of_lt sU,←List.drop_drop,←List.drop_drop,h]
theorem HK {r s:List A6} {i:Nat} {c c0:Int} (hi:i<s.length) (hd:s.drop i=r.drop i) (hv:sY (s.take i)+pw i*c=2*sY (r.take i)+c0) :
 sY ((s.set i ⟨(c+2*dg s i) % 65536⟩).take (i+1))+pw (i+1)*((c+2*dg s i) / 65536)=2*sY (r.take (i+1))+c0:=by
 rw [SB hi,Bp,bM,fW (Nat.le_of_lt hi),wK,zN,←XO hd];have h:=JH (pw i) (c+2*dg s i);rw [eV,sB] at h;show sY (s.take i)+pw i*((c+2*dg s i) % 65536)+65536*pw i*((c+2*dg s i) / 65536)=_;omega
theorem SC (x:Int) (e:Nat):x / p2 e=2*(x / p2 (e+1))+x / p2 e % 2:=by
 rw [Ep,dH 2 (p2 e),←Int.ediv_ediv_of_nonneg (fN (xN e))];omega
theorem SD {q:List A6} (hd:A8 q) {e:Nat} {Q:Int} (he:e / 16<q.length) (h:sY q=p2 (e+1)*Q):dg q (e / 16) % p2 (e % 16+1)=0:=by
 have e0:=Gs q (m:=e / 16+1) sU;rw [wK,zN] at e0;have h1:=yQ (hd.take (e / 16));have h0:=uM (hd.take (e / 16));rw [bM,fW sU] at h1;have ek:p2 (e+1)=pw (e / 16)*p2 (e % 16+1):=by rw [CN,←Er,←kR,mB]
 obtain ⟨r,hr⟩:∃ r,16=e % 16+1+r:=⟨15 - e % 16,by omega⟩
 have e4:p2 16=p2 (e % 16+1)*p2 r:=(congrArg p2 hr).trans (by rw [Er]);rw [CO] at e4;have e2:sY (q.take (e / 16))+pw (e / 16)*(dg q (e / 16)+p2 (e % 16+1)*(p2 r*sY (q.drop (e / 16+1))))=pw (e / 16)*(p2 (e % 16+1)*Q):=by
  rw [←bT (pw (e / 16)) (p2 (e % 16+1)) Q,←ek,←h,e0,eV,←bT (p2 (e % 16+1)) (p2 r),←e4,←bT (pw (e / 16)) 65536,dH (pw (e / 16)) 65536];omega
 have e3:dg q (e / 16)+p2 (e % 16+1)*(p2 r*sY (q.drop (e / 16+1)))=p2 (e % 16+1)*Q:=by
  have h2:=congrArg (fun z=>z / pw (e / 16)) e2;rw [Int.add_mul_ediv_left _ _ (sA (yU _)),qA h0 h1,mW,pF _ (sA (yU _))] at h2;exact h2
 have e5:dg q (e / 16)=p2 (e % 16+1)*(Q - p2 r*sY (q.drop (e / 16+1))):=by rw [oZ];omega
 rw [e5];exact Int.mul_emod_right _ _
theorem SE {q:List A6} {e:Nat} {Q:Int} (he:e / 16<q.length) (h:sY q=p2 (e+1)*Q):sY (q.set (e / 16) ⟨dg q (e / 16)+p2 (e % 16)⟩)=p2 e*(2*Q+1):=by
 have ek:p2 e=pw (e / 16)*p2 (e % 16):=by rw [CN,←Er,mB]
 rw [Jz q (e / 16) _ he,h,Ep,eV,iE];show 2*p2 e*Q+pw (e / 16)*(dg q (e / 16)+p2 (e % 16) - dg q (e / 16))=_;rw [show dg q (e / 16)+p2 (e % 16) - dg q (e / 16)=p2 (e % 16) by omega,←ek,sB (p2 e) 2 Q,bT 2 (p2 e) Q]
theorem SF {q:List A6} (hd:A8 q) {e:Nat} (he:e / 16<q.length) (hz:dg q (e / 16) % p2 (e % 16+1)=0):0≤dg q (e / 16)+p2 (e % 16)∧dg q (e / 16)+p2 (e % 16)<65536:=by
 have h1:=Db hd he;have h2:=xN (e % 16);obtain ⟨r,hr⟩:∃ r,16=e % 16+1+r:=⟨15 - e % 16,by omega⟩
 have e4:p2 16=p2 (e % 16+1)*p2 r:=(congrArg p2 hr).trans (by rw [Er]);rw [CO] at e4;obtain ⟨y,hy⟩:∃ y,dg q (e / 16)=p2 (e % 16+1)*y:=⟨_,(Int.mul_ediv_cancel' (Int.dvd_of_emod_eq_zero hz)).symm⟩
 have hlt:y<p2 r:=by
  rw [hy,e4] at h1;exact Int.lt_of_mul_lt_mul_left h1.2 (fN (xN _))
 have h3:=fE (show y+1≤p2 r by omega) (fN (xN (e % 16+1)));rw [eV,iE,←e4,←hy,Ep] at h3;omega
theorem JR (n:Nat):p2 n=((2 ^ n:Nat):Int):=rfl
theorem JS {e:Nat}:IntKind.u32.wrap (1*2 ^ min ((e:Int) % 16).toNat IntKind.u32.bits)=p2 (e % 16):=by
 have e1:min ((e:Int) % 16).toNat IntKind.u32.bits=e % 16:=by
  rw [show IntKind.u32.bits=32 from rfl];omega
 have e2:(2:Int) ^ (e % 16)=p2 (e % 16):=by rw [JR,Int.natCast_pow];rfl
 have h1:p2 (e % 16)≤p2 16:=JP sU;rw [CO] at h1;have h2:=xN (e % 16);rw [e1,e2,eN,mV _ sU]
theorem dj {q:List A6} {e:Nat} (h:0≤dg q (e / 16)∧dg q (e / 16)<65536) (hz:dg q (e / 16) % p2 (e % 16+1)=0) :
 bits BinOp.or IntKind.u32 (q[((e:Int) / 16).toNat]?.getD default).v (IntKind.u32.wrap (1*2 ^ min ((e:Int) % 16).toNat IntKind.u32.bits))=dg q (e / 16)+p2 (e % 16):=by
 have e1:(q[((e:Int) / 16).toNat]?.getD default).v=dg q (e / 16):=by
  unfold dg;rw [show ((e:Int) / 16).toNat=((e / 16:Nat):Int).toNat by omega]
 rw [JS,e1,JR (e % 16)];exact HB _ _ h sU hz
section
attribute [local irreducible] sY pw vG p2
theorem jq (G:A2) (a b:J0 Addr) (ca cb:Nat) (la lb:List A6) (ha:Arr G a la) (hb:Arr G b lb) (da:A8 la) (db:A8 lb) (tb:H3 lb) (h1:la.length≤536870912) (h2:lb.length≤536870912) (hl1:lb.length≠1) (hB:0<sY lb) :
 Does Tryz.prog 279 [.slice a la.length ca,.slice b lb.length cb] G [] (fun v G' Ho=>RY G' la lb v∧Ho=[]):=by
 refine D0 Tryz.func279 Tryz.ntmps279 fun w=>?_;refine dK 50 (Row 215 ([]:List A6) []) ?_;refine aK 21 [0] ?_;refine gM (α:=A6) 51 U T.sl123 T.el215 U U sU sU fun b1=>?_;refine aS 12 [] ?_;refine cU 52 U (rq _ _ _ _ sV sV sV) fun v1 G1 Ho1 hle1 hp=>?_;obtain ⟨nb1,rfl,hnv1,hnl1,rfl,rfl⟩:=hp;refine bG 5 [] ?_;obtain ⟨N,hN⟩:∃ N,N=la.length:=⟨_,U⟩
 have hM:(la.length:Int).toNat=N:=sU;rw [hM];have hown:∀ r:List A6,r.length=N→A3 (some ⟨b1,0,none⟩) N r []:=fun r hr=>.inr ⟨b1,U,by rw [hr];rfl,by omega,by simp only [maxLen];omega⟩;refine kY 9 U (show _=Value.slice (some ⟨b1,0,none⟩) (List.replicate N (default:A6)).length N by rw [aM]) ?_;have hstart:sY la / p2 nb1=0:=qA (uM da) hnv1;refine fY (ι:=Nat×Int×List A6×List A6×(J0 Addr×Nat×List Value)) (fun (k,Q,q,r,(o,d,j))=>([(11,.int .i64 ((k:Int) - 1)),(9,.slice (some ⟨b1,0,none⟩) q.length N),(10,.slice o r.length d),(5,.slice none 0 0),(4,.slice none 0 0),(0,.slice a (List.length la) ca),(1,.slice b (List.length lb) cb)],[(51,some b1,Row 215 q []),(50,o.map (·.block),Row 215 r j)])) (fun (k,Q,q,r,(o,d,j))=>k≤nb1∧q.length=N∧A8 q∧A8 r∧H3 r∧sY q=p2 k*Q∧sY la / p2 k=Q*sY lb+sY r∧sY r<sY lb∧r.length≤lb.length∧A3 o d r j) (fun (k,Q,q,r,(o,d,j))=>k) ((nb1,0,List.replicate N (default:A6),[],(none,0,[]))) (⟨aH _,aM,rM N,qT,H3.nil,by rw [cA];exact Bz N,by rw [hstart,eR,uX];rfl,by rw [uX];exact hB,aP _,dN⟩) ⟨U,U,U,U,U,U,U,I3⟩ ⟨U,U,I3⟩ fun ⟨k,Q,q,r,(o,d,j)⟩=>fun hk=>?_;obtain ⟨hk1,hqN,hdq,hdr,htr,hvq,hva,hrB,hrl,hob⟩:=hk;have hoq:=hown q hqN;rcases fQ k with rfl | hpos
 · rw [Kc,Int.ediv_one] at hva;rw [Kc,eN] at hvq;have hcap:=hoq.le;have hcap2:=hob.le;refine aK 16 [0] ?_;refine iF 51 U hoq (fun G8 hle8 hA=>iF 50 U hob (fun G9 hle9 hA2=>?_));replace hA:=hA.up hle9;refine cU 52 U (zO _ _ _ _ _ sV PQ PS) fun v2 G2 Ho2 hle2 hp=>?_;obtain ⟨tn2,rfl,htr2,rfl,rfl⟩:=hp;refine aZ (sK T.fld190_1 U U) ?_;refine aY 6 [] ?_;refine jJ ?_;refine ⟨⟨B7 (some ⟨b1,0,none⟩) N 0 1,o,N,d,q.take tn2,r,?_,Pn hA _,hA2,hdq.take _,htr2.top,hdr,htr,?_,hrB,?_,hcap2,?_⟩,U⟩
   · rw [htr2.len];rfl
   · rw [htr2.val,hvq];exact hva
   · rw [htr2.len];exact bP htr2.1 hcap
   rw [htr2.len,←hN,←hqN];exact htr2.1
 obtain ⟨e,rfl⟩:∃ e,k=e+1:=⟨k - 1,by omega⟩
 have he16:e<16*la.length:=sU;refine kY 11 U (show _=Value.int .i64 (e:Int) by congr 1;omega) ?_;have hbit:0≤sY la / p2 e % 2∧sY la / p2 e % 2≤1:=sU;have hhb:=SC (sY la) e;generalize hc:sY la / p2 e % 2=c0 at *;refine aK 16 [1] ?_;refine cZ U (rr _ _ _ _ _ sV sV sV sV) ?_;refine bG 10 [] ?_;refine kY 12 U (show _=Value.int .u32 c0 by rw [hc]) ?_;refine gZ (ι:=Nat×Int×List A6) (fun (i,c,s)=>([(13,.int .i64 (i:Int)),(12,.int .u32 c),(10,.slice o s.length d),(0,.slice a la.length ca),(1,.slice b lb.length cb),(11,.int .i64 (↑e:Int)),(9,.slice (some (Addr.mk b1 0 none)) (List.length q) N),(5,.slice none 0 0),(4,.slice none 0 0)],[(50,o.map (·.block),Row 215 s j),(51,some b1,Row (α:=Go.Sl.A6) 215 (q) ([]))])) (fun (i,c,s)=>i≤r.length∧s.length=r.length∧A8 s∧0≤c∧c≤1∧sY (s.take i)+pw i*c=2*sY (r.take i)+c0∧s.drop i=r.drop i∧A3 o d s j) (fun (i,c,s)=>r.length - i) ((0,c0,r)) (⟨aP _,U,hdr,hbit.1,hbit.2,by rw [dP,uX,Ju,eN];omega,U,hob⟩) fun ⟨i,c,s⟩=>fun hk=>?_;obtain ⟨hi1,hsl,hds,hcc0,hcc1,hvs,hdrop,hos⟩:=hk;rcases aN i r.length with hil | hil
 · have hsi:0≤(s[(i:Int).toNat]?.getD default).v∧(s[(i:Int).toNat]?.getD default).v<65536:=Db hds sU;refine aK 19 [1] ?_;refine gY (α:=A6) T.sl123 ?_;refine jS 50 0 T.one215 ?_;refine aZ (MO U U xL) ?_;refine aZ (mN U U sU) ?_;refine aS 8 [] ?_;refine aZ (kU U U sU) ?_;refine gY (α:=A6) T.sl123 ?_;refine dJ (z:=_) 50 T.size215 U U U sV sU U fun ho1=>?_;refine aS 4 [] ?_;refine aZ (pI U U sU) ?_;refine aY 9 [] ?_;refine iV 50 (Row 215 (s.set i ⟨(c+2*(s[(i:Int).toNat]?.getD default).v) % 65536⟩) j) U (by rw [aG]) ?_;refine dW 10 U (show _=Value.slice o (s.set i ⟨(c+2*(s[(i:Int).toNat]?.getD default).v) % 65536⟩).length d by rw [aI]) ?_;refine cO ((i+1,(c+2*(s[(i:Int).toNat]?.getD default).v) / 65536,s.set i ⟨(c+2*(s[(i:Int).toNat]?.getD default).v) % 65536⟩)) ?_ ?_
   · refine ⟨by omega,by rw [aI];exact hsl,Du hds _ sU,by omega,by omega,HK sU hdrop hvs,Ve hdrop _,?_⟩;rw [aG] at ho1;exact ho1
   show r.length - (i+1)<r.length - i;omega
 have hii:i=r.length:=sU;subst hii;rw [vY sU,vY (aH _)] at hvs;refine bJ 15 [0] ?_;refine rR (ι:=List A6×(J0 Addr×Nat×List Value)) (fun (s1,(o1,d1,j1))=>([(10,.slice o1 s1.length d1),(0,.slice a la.length ca),(1,.slice b lb.length cb),(11,.int .i64 (↑e:Int)),(9,.slice (some (Addr.mk b1 0 none)) (List.length q) N),(5,.slice none 0 0),(4,.slice none 0 0)],[(50,o1.map (·.block),Row 215 s1 j1),(51,some b1,Row (α:=Go.Sl.A6) 215 (q) ([]))])) (fun (s1,(o1,d1,j1))=>A8 s1∧H3 s1∧sY s1=2*sY r+c0∧s1.length≤r.length+1∧A3 o1 d1 s1 j1) ?_ fun ⟨s1,(o1,d1,j1)⟩=>fun (hk:A8 s1∧H3 s1∧sY s1=2*sY r+c0∧s1.length≤r.length+1∧A3 o1 d1 s1 j1)=>?_
 · by_cases hcy:0<c
   · have hcE:c=1:=sU;subst hcE;rw [iE,←hsl] at hvs;refine aK 10 [1] ?_;refine eH (α:=A6) 52 [⟨1⟩] U T.sl123 T.el215 U U U U U fun b2=>?_;refine iP (α:=A6) 50 T.sl123 T.el215 (eP 52 U) fun a1 c1 junk1 ho1=>?_;refine aY 2 [] ?_;refine Oa ((s++[⟨1⟩],(a1,c1,junk1))) ?_;refine ⟨hds.append (pM tI),?_,by rw [Bp,iE];exact hvs,by rw [aD,hsl];exact aH _,ho1⟩;refine .inr ?_;rw [aD,gF,iQ,cS (aH _),iX];decide
   have hcE:c=0:=sU;subst hcE;rw [cA,dV] at hvs;refine bE 8 [0] ?_;refine Oa ((s,(o,d,j))) ?_;refine ⟨hds,?_,hvs,by omega,hos⟩;by_cases hr0:r=[]
   · left;rw [hr0] at hsl;exact dT hsl
   refine NG hds (fun e0=>hr0 (dT (by rw [←hsl,e0];rfl))) ?_;have:=Ze hdr htr hr0;have h0:=uM hdr;rw [hsl,hvs];omega
 clear hvs hos hds hsl hdrop hcc0 hcc1;obtain ⟨hd1,ht1,hv1,hsl1,ho1⟩:=hk;have heq:e / 16<q.length:=sU;have hdz:=SD hdq heq hvq;have hroom:=SF hdq heq hdz;have hdgq:=Db hdq heq;refine aK 4 [] ?_;refine jM 60 U T.fn216 U (fun Gx hGx hgx=>RM Gx _ _ _ _ s1 lb (gK hgx 50 U ho1) (hb.up hGx) hd1 db ht1 tb sU sU) fun v5 Gx5 G5 Ho5 hlx5 hp=>?_;obtain ⟨rfl,rfl,rfl⟩:=hp;by_cases hge:sY lb≤sY s1
 · have hcmp:0≤vG (sY s1) (sY lb):=by
    rcases Int.lt_or_eq_of_le hge with h | h
    · rw [Jy h];decide
    rw [Zh h.symm];decide
   have hll:=Ai hd1 db tb hge;refine aS 8 [1] ?_;refine jM 50 U T.fn278 U (fun Gx hGx hgx=>cz Gx _ _ _ _ s1 lb (gK hgx 50 U ho1) (hb.up hGx) hd1 db sU hll hge) fun v7 Gx7 G7 Ho7 hlx7 hp=>?_;obtain ⟨mo,mc,mr,mj,rfl,hmo,rfl,rfl,hmd,hmv,hml⟩:=hp;have hmc:=hmo.le;skip;refine jM 70 U T.fn168 U (fun Gx hGx hgx=>zO Gx _ _ _ mr (gK hgx 50 U hmo) sU hmc) fun v8 Gx8 G8 Ho8 hlx8 hp=>?_;obtain ⟨tn,rfl,htm,rfl,rfl⟩:=hp;refine aZ (sK T.fld190_1 U U) ?_;refine bG 3 [] ?_;refine dL [51,50] [(50,13),(51,13)] T.mixed [[0],[1]] ?_;refine fH 2 [] U (rU U U sU) ?_;refine eO [[3],[4]] ?_;refine fH 5 [] U (rU U U sU) ?_;refine iA (α:=A6) 6 T.sl123 ?_;refine Gm.lo 7 51 0 T.one215 ?_;refine eO [[8]] ?_;refine fH 9 [] U (kU U U sU) ?_;refine fH 10 [] U (Qy.shl U U sU) ?_;refine fH 11 [] U (PX U U) ?_;refine iA (α:=A6) 12 T.sl123 ?_;refine dB 13 ?_;refine dJ (z:=_) 51 T.size215 U U U sV sU U fun ho2=>?_;refine fB ?_;refine fI 7 [] ?_;refine iV 51 (Row 215 (q.set (e / 16) ⟨dg q (e / 16)+p2 (e % 16)⟩) []) U ?_ ?_
   · show Row 215 (q.set ((e:Int) / 16).toNat ⟨bits BinOp.or IntKind.u32 (q[((e:Int) / 16).toNat]?.getD default).v (IntKind.u32.wrap (1*2 ^ min ((e:Int) % 16).toNat IntKind.u32.bits))⟩) []=_;rw [dj hdgq hdz,show ((e:Int) / 16).toNat=e / 16 by omega]
   refine iV 50 (Row 215 (mr.take tn) (uD (mr.drop tn)++mj)) U (RZ 215 mr mj tn) ?_;refine dW 10 U (show _=Value.slice mo (mr.take tn).length mc by rw [Va hmo,htm.len];rfl) ?_;refine dW 9 U (show _=Value.slice (some ⟨b1,0,none⟩) (q.set (e / 16) ⟨dg q (e / 16)+p2 (e % 16)⟩).length N by rw [aI]) ?_;refine cO ((e,2*Q+1,q.set (e / 16) ⟨dg q (e / 16)+p2 (e % 16)⟩,mr.take tn,(mo,mc,uD (mr.drop tn)++mj))) ?_ ?_
   · have hvm:=htm.val;have hlt:sY (mr.take tn)<sY lb:=by rw [hvm,hmv];omega
     refine ⟨by omega,by rw [aI];exact hqN,Du hdq _ hroom,hmd.take _,htm.top,SE heq hvq,?_,hlt,Ai db (hmd.take _) htm.top (fN hlt),SA hmo tn⟩;rw [hhb,hva,hvm,hmv,hv1,pA,eN,eV,←bT];omega
   show e<e+1;omega
 have hcmp:¬0≤vG (sY s1) (sY lb):=by rw [Jx sU];decide
 have hll:s1.length≤lb.length:=Ai db hd1 ht1 sU;refine aY 12 [0] ?_;refine cO ((e,2*Q,q,s1,(o1,d1,j1))) ?_ ?_
 · refine ⟨by omega,hqN,hdq,hd1,ht1,?_,?_,by omega,hll,ho1⟩
   · rw [hvq,Ep,sB (p2 e) 2 Q,bT]
   rw [hhb,hva,eV,←bT,hv1];omega
 show e<e+1;omega
end
section
variable {B:Bs} {e:B0} {D:List Deferred} {H:Hp} {G:A2}
theorem retagH {a:Act} {w:I8} (hh:A5 B ⟨e,D,H,G⟩ a w) (t t':Nat) {k:J0 Nat} {o:Obj} (ht:H.get t=some (k,o)) (hn:t≠t') (hk:H.get t'=none∨True):A5 B ⟨e,D,(t',k,o) :: (t,none,o) :: H,G⟩ a w:=by
 have key:∀ i b o',Hp.get ((t',k,o) :: (t,none,o) :: H) i=some (some b,o')→(i=t'∧H.get t=some (some b,o'))∨(i≠t'∧i≠t∧H.get i=some (some b,o')):=fun i b o' hx=>by
  rw [bF] at hx;split at hx
  · rename_i hi;left;refine ⟨hi.symm,?_⟩;rw [ht];exact hx
  rename_i hi;rw [bF] at hx;split at hx
  · simp at hx
  rename_i hi2;exact .inr ⟨fun h=>hi h.symm,fun h=>hi2 h.symm,hx⟩
 refine ⟨hh.size,hh.defers,hh.env,⟨?_,?_,hh.mem.imm,?_⟩,hh.upd,?_,hh.le,hh.new⟩
 · intro i b o' hx;rcases key i b o' hx with ⟨_,h⟩ | ⟨_,_,h⟩
   · exact hh.mem.own _ b o' h
   exact hh.mem.own _ b o' h
 · intro i i' b o1 o2 hx hy;rcases key i b o1 hx with ⟨h1,h2⟩ | ⟨h1,h1',h2⟩ <;> rcases key i' b o2 hy with ⟨h3,h4⟩ | ⟨h3,h3',h4⟩
   · rw [h1,h3]
   · exact absurd (hh.mem.one _ _ b _ _ h2 h4).symm h3'
   · exact absurd (hh.mem.one _ _ b _ _ h2 h4) h1'
   exact hh.mem.one _ _ b _ _ h2 h4
 · intro i b o' hx;rcases key i b o' hx with ⟨_,h⟩ | ⟨_,_,h⟩
   · exact hh.mem.off _ b o' h
   exact hh.mem.off _ b o' h
 intro i b o' hx;rcases key i b o' hx with ⟨_,h⟩ | ⟨_,_,h⟩
 · exact hh.mine _ b o' h
 exact hh.mine _ b o' h
theorem Ar.retag {x:Exit} {Q:Exit→Act→I8→Prop} (t t':Nat) {k:J0 Nat} {o:Obj} (ht:H.get t=some (k,o)) (hn:Nat.beq t t'=false) (h:Ar Q x B ⟨e,D,(t',k,o) :: (t,none,o) :: H,G⟩):Ar Q x B ⟨e,D,H,G⟩:=
 fun a w hh=>h a w (retagH hh t t' ht (fun e=>by subst e;simp at hn) (.inr trivial))
end
def dk (G:A2) (la lb:List A6) (v:Value):Prop:=∃ (qa ra:J0 Addr) (qc rc:Nat) (lq lr:List A6),v=.tuple #[.slice qa lq.length qc,.slice ra lr.length rc]∧Arr G qa lq∧Arr G ra lr∧A8 lq∧A8 lr∧
 sY la=sY lq*sY lb+sY lr∧sY lr<sY lb∧lq.length≤qc∧lr.length≤rc∧lq.length≤la.length∧lr.length≤lb.length
theorem rt (G:A2) (a b:J0 Addr) (ca cb:Nat) (la lb:List A6) (ha:Arr G a la) (hb:Arr G b lb) (da:A8 la) (db:A8 lb) (tb:H3 lb) (h1:la.length≤536870912) (h2:lb.length≤536870912) (hB:0<sY lb) :
 Does Tryz.prog 279 [.slice a la.length ca,.slice b lb.length cb] G [] (fun v G' Ho=>dk G' la lb v∧Ho=[]):=by
 have key:Does Tryz.prog 279 [.slice a la.length ca,.slice b lb.length cb] G [] (fun v G' Ho=>RY G' la lb v∧Ho=[]):=by
  by_cases h:lb.length=1
  · exact jn G a b ca cb la lb ha hb da db tb h1 h
  exact jq G a b ca cb la lb ha hb da db tb h1 h2 h hB
 refine key.mono fun v G' Ho _ ⟨⟨qa,ra,qc,rc,lq,lr,q1,q2,q3,q4,q5,q6,q7,q8,q9,q10,q11,q12⟩,q13⟩=>?_;exact ⟨⟨qa,ra,qc,rc,lq,lr,q1,q2,q3,q4,q6,q8,q9,q10,q11,q12,Ai db q6 q7 (fN q9)⟩,q13⟩
theorem C3.len {G:A2} {x:IV} {z:Int} (h:C3 G x z) {m:Nat} (hz:(z.natAbs:Int)<pw m):x.n≤m:=by
 obtain ⟨l,h1,_,_,h4⟩:=h;rw [←h1];exact h4.len hz
abbrev lT:=@C3.len
theorem XP (G:A2) (x y:IV) (zx zy:Int) (hx:C3 G x zx) (hy:C3 G y zy) (h1:x.n≤1073741824) (h2:y.n≤1073741824) :
 Does Tryz.prog 281 [.agg (A0.enc x).toArray,.agg (A0.enc y).toArray] G [] (fun v G' Ho=>∃ r:IV,v=.agg (A0.enc r).toArray∧C3 G' r (zx - zy)∧Ho=[]):=by
 obtain ⟨n1,a,k1,ca⟩:=x;obtain ⟨n2,b,k2,cb⟩:=y;obtain ⟨la,hl,hlc,hA,hI⟩:=hx;obtain ⟨lb,hl',hlc',hA',hI'⟩:=hy;simp only at hl hlc hA hI hl' hlc' hA' hI' h1 h2;subst hl hl';exact qz G n1 n2 a b ca cb la lb zx zy hA hA' hI hI' h1 h2 hlc'
theorem SG (z:Int):((Ox z).natAbs:Int)<pw 1:=by have:=RH z;have:pw 1=65536:=tI;omega
theorem SH {l:List A6} {n:Nat} (h:B8 l n) (hd:A8 l) (hn:0<n):0<sY l:=by
 have h1:=h.len;have:=Pm (hd.take n) h.top (fun e=>by rw [e] at h1;simp at h1;omega);rwa [h.val] at this
theorem NH {l:List A6} (h:B8 l 0):sY l=0:=by
 have:=h.val;rw [dP,uX] at this;exact this.symm
theorem SI {n1:Bool} {lr1:List A6} {tm:Nat} {q x y:Int} (hx:x=q*y+(if n1=true then -sY lr1 else sY lr1)) (hy:y≠0) (hl:sY lr1<y.natAbs) (h:(n1 && decide (0<tm))=true) (ht:B8 lr1 tm) (hd:A8 lr1) :
 q - Ox y=x / y∧(if n1=true then -sY lr1 else sY lr1)+(y.natAbs:Int)=x % y:=by
 rw [aF,aO] at h;have hp:=SH ht hd h.2;have e:=h.1;subst e;rw [aE rfl] at hx ⊢;exact JG hy (XJ hx) sU sU
theorem NI {n1:Bool} {lr1:List A6} {tm:Nat} {q x y:Int} (hx:x=q*y+(if n1=true then -sY lr1 else sY lr1)) (hy:y≠0) (hl:sY lr1<y.natAbs) (h:(n1 && decide (0<tm))=false) (ht:B8 lr1 tm) (hd:A8 lr1) :
 q=x / y∧(if n1=true then -sY lr1 else sY lr1)=x % y:=by
 have hn:=uM hd;refine JG hy hx ?_ ?_
 · cases n1 with
   | false=>rw [aC (by decide)];exact hn
   | true =>
     have h0:tm=0:=by
      rw [nK,fA] at h;omega
     subst h0;rw [aE rfl,NH ht];omega
 split <;> omega
section
attribute [local irreducible] sY pw vG p2
theorem ru (G:A2) (n1 n2:Bool) (a b:J0 Addr) (ca cb:Nat) (la lb:List A6) (x y:Int) (ha:Arr G a la) (hb:Arr G b lb) (hx:C0 n1 la x) (hy:C0 n2 lb y) (h1:la.length≤536870912) (h2:lb.length≤536870912) (hcb:lb.length≤cb) (hy0:y≠0) :
 Does Tryz.prog 268 [.agg #[.bool n1,.slice a la.length ca],.agg #[.bool n2,.slice b lb.length cb]] G [] (fun v G' Ho=>∃ q r:IV,v=.tuple #[.agg (A0.enc q).toArray,.agg (A0.enc r).toArray]∧C3 G' q (x / y)∧C3 G' r (x % y)∧Ho=[]):=by
 have da:=hx.digs;have db:=hy.digs;have tb:=hy.top;have va:=hx.abs;have vb:=hy.abs;have hB:0<sY lb:=sU;refine D0 Tryz.func268 Tryz.ntmps268 fun w=>?_;refine aK 2 [] ?_;refine eG 0 fun b1=>?_;refine eG 1 fun b2=>?_;refine aV 2 U T.zero190 fun b3=>?_;refine aV 3 U T.zero190 fun b4=>?_;refine aS 8 [0,1] ?_;refine cU 4 U (rt _ _ _ _ _ _ _ sV sV sV sV sV sV sV sV) fun v1 G1 Ho1 hle1 hp=>?_;obtain ⟨⟨qa1,ra1,qc1,rc1,lq1,lr1,rfl,hqa1,hra1,dq1,dr1,hvq1,hlt1,hqc1,hrc1,hql1,hrl1⟩,rfl⟩:=hp;replace ha:=ha.up hle1;replace hb:=hb.up hle1;refine bG 7 [] ?_;refine rR (ι:=Nat×Nat×Nat×Nat) (fun (tn,tm,p,q)=>([(8,.pointer (some ⟨p,0,none⟩)),(9,.pointer (some ⟨q,0,none⟩)),(5,.pointer (some (Addr.mk b4 0 none))),(4,.pointer (some (Addr.mk b3 0 none))),(3,.pointer (some ⟨b2,0,none⟩))],[(60,some p,.cells #[.bool (decide (n1≠n2) && decide (0<tn)),.slice (B7 qa1 qc1 0 1) tn qc1] 190),(61,some q,.cells #[.bool (n1 && decide (0<tm)),.slice (B7 ra1 rc1 0 1) tm rc1] 190),(3,some b4,.cells #[.bool Bool.false,.slice none 0 0] 190),(2,some b3,.cells #[.bool Bool.false,.slice none 0 0] 190),(1,some b2,.cells #[.bool n2,.slice b (List.length lb) cb] 190),(0,some b1,.cells #[.bool n1,.slice a (List.length la) ca] 190)])) (fun (tn,tm,p,q)=>B8 lq1 tn∧B8 lr1 tm) ?_ fun ⟨tn,tm,p,q⟩=>fun (hk:B8 lq1 tn∧B8 lr1 tm)=>?_
 · refine dL [0,1,2,3] [] T.mixed [[0],[1,0],[2],[3,1]] ?_;refine fH 4 [] U (Yr T.u4 U U) ?_;refine eO [[5],[7],[8,0],[9]] ?_;refine Gm.o3 6 11 12 ?_ ?_ ?_;refine cU 4 U (zO _ _ _ _ _ sV sU sV) fun v2 G2 Ho2 hle2 hp=>?_;obtain ⟨tn2,rfl,htr2,rfl,rfl⟩:=hp;refine bW ?_;refine Gm.o3 10 11 12 ?_ ?_ ?_;refine cU 4 U (zO _ _ _ _ _ sV sU sV) fun v3 G3 Ho3 hle3 hp=>?_;obtain ⟨tn3,rfl,htr3,rfl,rfl⟩:=hp;refine bW ?_;refine oO 11 12 ?_ ?_;refine aV 4 U T.zero190 fun b5=>?_;refine cY 12 ?_;refine aV 5 U T.zero190 fun b6=>?_;refine cY 13 ?_;refine aB 1 [4] ?_;refine cY 14 ?_;refine aB 1 [5] ?_;refine fB ?_;rotate_left;refine aV 4 U T.zero190 fun b5=>?_;refine cY 11 ?_;refine aV 5 U T.zero190 fun b6=>?_;refine cY 13 ?_;refine aB 1 [5] ?_;refine cY 14 ?_;refine aB 1 [4] ?_;refine fB ?_;rotate_left;refine aV 4 U T.zero190 fun b5=>?_;refine bW ?_;refine oO 10 12 ?_ ?_;refine cU 5 U (zO _ _ _ _ _ sV sU sV) fun v3 G3 Ho3 hle3 hp=>?_;obtain ⟨tn3,rfl,htr3,rfl,rfl⟩:=hp;refine cY 12 ?_;refine aV 5 U T.zero190 fun b6=>?_;refine cY 13 ?_;refine aB 1 [4] ?_;refine cY 14 ?_;refine aB 1 [5] ?_;refine fB ?_;rotate_left;refine aV 5 U T.zero190 fun b6=>?_;refine cY 10 ?_;refine cU 6 U (zO _ _ _ _ _ sV sU sV) fun v3 G3 Ho3 hle3 hp=>?_;obtain ⟨tn3,rfl,htr3,rfl,rfl⟩:=hp;refine cY 13 ?_;refine aB 1 [4] ?_;refine cY 14 ?_;refine aB 1 [5] ?_;refine fB ?_;rotate_left;refine aV 4 U T.zero190 fun b5=>?_;refine bW ?_;refine oO 10 11 ?_ ?_;refine cU 5 U (zO _ _ _ _ _ sV sU sV) fun v3 G3 Ho3 hle3 hp=>?_;obtain ⟨tn3,rfl,htr3,rfl,rfl⟩:=hp;refine cY 11 ?_;refine aV 5 U T.zero190 fun b6=>?_;refine cY 13 ?_;refine aB 1 [5] ?_;refine cY 14 ?_;refine aB 1 [4] ?_;refine fB ?_;rotate_left;refine aV 5 U T.zero190 fun b6=>?_;refine cY 10 ?_;refine cU 6 U (zO _ _ _ _ _ sV sU sV) fun v3 G3 Ho3 hle3 hp=>?_;obtain ⟨tn3,rfl,htr3,rfl,rfl⟩:=hp;refine cY 13 ?_;refine aB 1 [5] ?_;refine cY 14 ?_;refine aB 1 [4] ?_;refine fB ?_;rotate_left;refine aV 4 U T.zero190 fun b5=>?_;refine bW ?_;refine oO 6 12 ?_ ?_;refine cU 5 U (zO _ _ _ _ _ sV sU sV) fun v2 G2 Ho2 hle2 hp=>?_;obtain ⟨tn2,rfl,htr2,rfl,rfl⟩:=hp;refine bW ?_;refine oO 10 12 ?_ ?_;refine cU 5 U (zO _ _ _ _ _ sV sU sV) fun v3 G3 Ho3 hle3 hp=>?_;obtain ⟨tn3,rfl,htr3,rfl,rfl⟩:=hp;refine cY 12 ?_;refine aV 5 U T.zero190 fun b6=>?_;refine cY 13 ?_;refine aB 1 [4] ?_;refine cY 14 ?_;refine aB 1 [5] ?_;refine fB ?_;rotate_left;refine aV 5 U T.zero190 fun b6=>?_;refine cY 10 ?_;refine cU 6 U (zO _ _ _ _ _ sV sU sV) fun v3 G3 Ho3 hle3 hp=>?_;obtain ⟨tn3,rfl,htr3,rfl,rfl⟩:=hp;refine cY 13 ?_;refine aB 1 [4] ?_;refine cY 14 ?_;refine aB 1 [5] ?_;refine fB ?_;rotate_left;refine aV 5 U T.zero190 fun b6=>?_;refine cY 6 ?_;refine cU 6 U (zO _ _ _ _ _ sV sU sV) fun v2 G2 Ho2 hle2 hp=>?_;obtain ⟨tn2,rfl,htr2,rfl,rfl⟩:=hp;refine cY 10 ?_;refine cU 6 U (zO _ _ _ _ _ sV sU sV) fun v3 G3 Ho3 hle3 hp=>?_;obtain ⟨tn3,rfl,htr3,rfl,rfl⟩:=hp;refine cY 13 ?_;refine aB 1 [4] ?_;refine cY 14 ?_;refine aB 1 [5] ?_;refine fB ?_;rotate_left;refine aV 4 U T.zero190 fun b5=>?_;refine bW ?_;refine oO 6 11 ?_ ?_;refine cU 5 U (zO _ _ _ _ _ sV sU sV) fun v2 G2 Ho2 hle2 hp=>?_;obtain ⟨tn2,rfl,htr2,rfl,rfl⟩:=hp;refine bW ?_;refine oO 10 11 ?_ ?_;refine cU 5 U (zO _ _ _ _ _ sV sU sV) fun v3 G3 Ho3 hle3 hp=>?_;obtain ⟨tn3,rfl,htr3,rfl,rfl⟩:=hp;refine cY 11 ?_;refine aV 5 U T.zero190 fun b6=>?_;refine cY 13 ?_;refine aB 1 [5] ?_;refine cY 14 ?_;refine aB 1 [4] ?_;refine fB ?_;rotate_left;refine aV 5 U T.zero190 fun b6=>?_;refine cY 10 ?_;refine cU 6 U (zO _ _ _ _ _ sV sU sV) fun v3 G3 Ho3 hle3 hp=>?_;obtain ⟨tn3,rfl,htr3,rfl,rfl⟩:=hp;refine cY 13 ?_;refine aB 1 [5] ?_;refine cY 14 ?_;refine aB 1 [4] ?_;refine fB ?_;rotate_left;refine aV 5 U T.zero190 fun b6=>?_;refine cY 6 ?_;refine cU 6 U (zO _ _ _ _ _ sV sU sV) fun v2 G2 Ho2 hle2 hp=>?_;obtain ⟨tn2,rfl,htr2,rfl,rfl⟩:=hp;refine cY 10 ?_;refine cU 6 U (zO _ _ _ _ _ sV sU sV) fun v3 G3 Ho3 hle3 hp=>?_;obtain ⟨tn3,rfl,htr3,rfl,rfl⟩:=hp;refine cY 13 ?_;refine aB 1 [5] ?_;refine cY 14 ?_;refine aB 1 [4] ?_;refine fB ?_;rotate_left;all_goals first | (refine Ar.retag 4 60 U U (Ar.retag 5 61 U U (pC (tn2,tn3,b5,b6) ⟨htr2,htr3⟩ U ?_ ?_)) <;> (repeat (first | exact I3 | refine ⟨U,?_⟩));done) | (refine Ar.retag 5 60 U U (Ar.retag 4 61 U U (pC (tn2,tn3,b6,b5) ⟨htr2,htr3⟩ U ?_ ?_)) <;> (repeat (first | exact I3 | refine ⟨U,?_⟩));done)
 obtain ⟨htq,htm⟩:=hk;have hlt:=yQ db;have hxy:=RK hx.val hy.val hvq1;have hQ0:=htq.num dq1 hqa1 hqc1 (decide (n1≠n2));have hR0:=htm.num dr1 hra1 hrc1 n1;refine bJ 7 [61] ?_;refine mE U (fun hc1=>?_) fun hc1=>?_;refine dG ?_;refine dL [0,1,2,3,61,60] [(61,4)] T.mixed [[0,61],[1,1]] ?_;refine dB 2 ?_;refine cU 62 U (qx _ _ _ _ _ _ sV sV sU sV) fun v2 G2 Ho2 hle2 hp=>?_;obtain ⟨nr2,rfl,hnr2,rfl,rfl⟩:=hp;refine cY 3 ?_;refine cU 62 U (JK _ ⟨(n1 && decide (0<tm)),B7 ra1 rc1 0 1,tm,rc1⟩ nr2 _ _ hR0 hnr2 (bP htm.1 sU) (bP (lT hnr2 (m:=lb.length) sU) sU)) fun v3 G3 Ho3 hle3 hp=>?_;obtain ⟨rs3,rfl,hrs3,rfl⟩:=hp;replace hqa1:=hqa1.up hle3;replace hra1:=hra1.up hle3;replace ha:=ha.up hle3;replace hb:=hb.up hle3;replace hQ0:=hQ0.up hle3;replace hR0:=hR0.up hle3;replace hnr2:=hnr2.up hle3;refine cY 4 ?_;refine aB 1 [61] ?_;refine fB ?_;refine cH ?_;refine dL [0,1,2,3,60,61] [(60,5)] T.mixed [[0,60],[1,1]] ?_;refine dB 2 ?_;refine cZ U (df _ _ _ _ _ y sV sU) ?_;refine cY 3 ?_;refine cU 62 U (HE _ _ (XH y)) fun v4 G4 Ho4 hle4 hp=>?_;obtain ⟨ro4,rfl,hro4,rfl⟩:=hp;replace hrs3:=hrs3.up hle4;replace hqa1:=hqa1.up hle4;replace hra1:=hra1.up hle4;replace ha:=ha.up hle4;replace hb:=hb.up hle4;replace hQ0:=hQ0.up hle4;replace hR0:=hR0.up hle4;replace hnr2:=hnr2.up hle4;refine cY 4 ?_;refine cU 62 U (XP _ ⟨(decide (n1≠n2) && decide (0<tn)),B7 qa1 qc1 0 1,tn,qc1⟩ ro4 _ _ hQ0 hro4 (bP htq.1 sU) (bP (lT hro4 (m:=1) (SG y)) sU)) fun v5 G5 Ho5 hle5 hp=>?_;obtain ⟨rd5,rfl,hrd5,rfl⟩:=hp;replace hro4:=hro4.up hle5;replace hrs3:=hrs3.up hle5;replace hqa1:=hqa1.up hle5;replace hra1:=hra1.up hle5;replace ha:=ha.up hle5;replace hb:=hb.up hle5;replace hQ0:=hQ0.up hle5;replace hR0:=hR0.up hle5;replace hnr2:=hnr2.up hle5;refine cY 5 ?_;refine aB 1 [60] ?_;refine fB ?_;refine oS 2 [] ?_;refine dL [0,1,2,3,61,60] [(3,3),(2,2)] T.mixed [[0,60],[1,61]] ?_;refine dB 2 ?_;refine aB 1 [2] ?_;refine cY 3 ?_;refine aB 1 [3] ?_;refine fB ?_;refine fI 2 [] ?_;rotate_left;refine bJ 3 [] ?_;refine dL [0,1,2,3,61,60] [(3,3),(2,2)] T.mixed [[0,60],[1,61]] ?_;refine dB 2 ?_;refine aB 1 [2] ?_;refine cY 3 ?_;refine aB 1 [3] ?_;refine fB ?_;refine fI 2 [] ?_;rotate_left
 · refine gD (.inr U) (Ho:=[]) U (.agg 2 U U T.agg190) (.agg 3 U U T.agg190) I3 ?_;have he:=SI hxy hy0 sU hc1 htm dr1;refine ⟨rd5,rs3,U,?_,?_,U⟩
   · rw [←he.1];exact hrd5
   rw [←he.2];exact hrs3
 refine gD (.inr U) (Ho:=[]) U (.agg 2 U U T.agg190) (.agg 3 U U T.agg190) I3 ?_;have he:=NI hxy hy0 sU hc1 htm dr1;refine ⟨⟨(decide (n1≠n2) && decide (0<tn)),B7 qa1 qc1 0 1,tn,qc1⟩,⟨(n1 && decide (0<tm)),B7 ra1 rc1 0 1,tm,rc1⟩,U,?_,?_,U⟩
 · rw [←he.1];exact hQ0
 rw [←he.2];exact hR0
end
theorem HL (G:A2) (x y:IV) (zx zy:Int) (hx:C3 G x zx) (hy:C3 G y zy) (h1:x.n≤536870912) (h2:y.n≤536870912) (hy0:zy≠0) :
 Does Tryz.prog 268 [.agg (A0.enc x).toArray,.agg (A0.enc y).toArray] G [] (fun v G' Ho=>∃ q r:IV,v=.tuple #[.agg (A0.enc q).toArray,.agg (A0.enc r).toArray]∧C3 G' q (zx / zy)∧C3 G' r (zx % zy)∧Ho=[]):=by
 obtain ⟨n1,a,k1,ca⟩:=x;obtain ⟨n2,b,k2,cb⟩:=y;obtain ⟨la,hl,hlc,hA,hI⟩:=hx;obtain ⟨lb,hl',hlc',hA',hI'⟩:=hy;simp only at hl hlc hA hI hl' hlc' hA' hI' h1 h2;subst hl hl';exact ru G n1 n2 a b ca cb la lb zx zy hA hA' hI hI' h1 h2 hlc' hy0
theorem Io (G:A2) (n:Int) (hn:-9223372036854775808≤n∧n≤9223372036854775807) :
 Does Tryz.prog 120 [.int .i64 n] G [] (fun v G' Ho=>∃ r:IV,v=.agg (A0.enc r).toArray∧C3 G' r n∧Ho=[]):=HE G n hn
theorem C3.zero_iff {G:A2} {x:IV} {z:Int} (h:C3 G x z):x.n=0↔z=0:=by
 obtain ⟨l,h1,_,_,h4⟩:=h;rw [←h1];exact h4.zero_iff
theorem SJ (n:Nat):sY ((List.replicate (n / 16+1) (default:A6)).set (n / 16) ⟨p2 (n % 16)⟩)=p2 n:=by
 rw [Jz _ _ _ Ql];have h0:dg (List.replicate (n / 16+1) (default:A6)) (n / 16)=0:=by
  unfold dg;rw [aG,dZ];split <;> rfl
 rw [h0,show (default:A6)=⟨0⟩ from rfl,Bz,CN,mW,oE,←Er,show 16*(n / 16)+n % 16=n by omega]
section
attribute [local irreducible] sY pw vG p2
theorem CT (G:A2) (x y:IV) (zx zy:Int) (hx:C3 G x zx) (hy:C3 G y zy) (h1:x.n≤536870912) (h2:y.n≤536870912) (hy0:zy≠0) :
 Does Tryz.prog 246 [.agg (A0.enc x).toArray,.agg (A0.enc y).toArray] G [] (fun v G' Ho=>∃ q:IV,v=.tuple #[.agg (A0.enc q).toArray,.bool (decide (zx % zy=0))]∧C3 G' q (if zx % zy=0 then zx / zy else 0)∧Ho=[]):=by
 refine D0 Tryz.func246 Tryz.ntmps246 fun w=>?_;refine aK 2 [] ?_;refine eG 0 fun b1=>?_;refine eG 1 fun b2=>?_;refine aV 2 U T.zero190 fun b3=>?_;refine aS 7 [0,1] ?_;refine cU 3 U (HL _ _ _ _ _ hx hy h1 h2 hy0) fun v1 G1 Ho1 hle1 hp=>?_;obtain ⟨q1,r1,rfl,hq1,hr1,rfl⟩:=hp;replace hx:=hx.up hle1;replace hy:=hy.up hle1;refine aB 3 [] ?_;refine aV 3 U T.zero190 fun b4=>?_;refine aV 4 U T.zero190 fun b5=>?_;refine bG 13 [3,4,4] ?_;refine cF (fun hc1=>?_) fun hc1=>?_;refine aK 2 [] ?_;refine aZ (cQ (cs:=[_,_]) T.st190 U U U) ?_;refine aY 6 [2] ?_;rotate_left;refine bE 10 [3,2] ?_;rotate_left
 · refine gD (.inr U) (Ho:=[]) U (.agg 2 U U T.agg190) (.tmp U) I3 ?_;have h0:¬zx % zy=0:=fun e=>by have:=(C3.zero_iff hr1).2 e;omega
   refine ⟨⟨false,none,0,0⟩,by rw [bN h0];rfl,?_,U⟩;rw [aC h0];exact C3.zero _
 refine gD (.inr U) (Ho:=[]) U (.agg 2 U U T.agg190) (.tmp U) I3 ?_;have h0:zx % zy=0:=(C3.zero_iff hr1).1 sU;refine ⟨q1,by rw [cL h0],?_,U⟩;rw [aE h0];exact hq1
theorem rx (G:A2) (n:Nat) (hn:n≤16777216) :
 Does Tryz.prog 245 [.int .i64 (n:Int)] G [] (fun v G' Ho=>∃ r:IV,v=.agg (A0.enc r).toArray∧C3 G' r (p2 n)∧Ho=[]):=by
 refine D0 Tryz.func245 Tryz.ntmps245 fun w=>?_;refine aK 2 [] ?_;refine aV 0 U T.zero190 fun b1=>?_;refine aS 5 [] ?_;refine aZ (rU U U sU) ?_;refine aB 1 [] ?_;refine gM (α:=A6) 1 U T.sl123 T.el215 U U sU sU fun b2=>?_;refine bG 3 [] ?_;obtain ⟨N,hN⟩:∃ N,N=n / 16+1:=⟨_,U⟩
 have hM:((n:Int) / 16+1).toNat=N:=sU;rw [hM];have hown:∀ r:List A6,r.length=N→A3 (some ⟨b2,0,none⟩) N r []:=fun r hr=>.inr ⟨b2,U,by rw [hr];rfl,by omega,by simp only [maxLen];omega⟩;have hrl:(List.replicate N (default:A6)).length=N:=aM;have hor:=hown _ hrl;refine kY 3 U (show _=Value.slice (some ⟨b2,0,none⟩) (List.replicate N (default:A6)).length N by rw [aM]) ?_;refine aK 4 [] ?_;refine aZ (rU U U sU) ?_;refine aB 1 [] ?_;refine aZ (kU U U sU) ?_;refine aZ (Qy.shl U U sU) ?_;refine gY (α:=A6) T.sl123 ?_;refine dJ (z:=_) 1 T.size215 U U U sV sU U fun ho1=>?_;refine aS 5 [] ?_;have e3:(List.replicate N (default:A6)).set ((n:Int) / 16).toNat ⟨1*2 ^ min ((n:Int) % 16).toNat IntKind.u32.bits % 2 ^ IntKind.u32.bits⟩=(List.replicate (n / 16+1) (default:A6)).set (n / 16) ⟨p2 (n % 16)⟩:=by
  have h1:1*2 ^ min ((n:Int) % 16).toNat IntKind.u32.bits % 2 ^ IntKind.u32.bits=p2 (n % 16):=JS;rw [h1,hN,show ((n:Int) / 16).toNat=n / 16 by omega]
 rw [e3] at ho1 ⊢;obtain ⟨r,hr⟩:∃ r,r=(List.replicate (n / 16+1) (default:A6)).set (n / 16) ⟨p2 (n % 16)⟩:=⟨_,U⟩
 rw [←hr] at ho1 ⊢;have hrN:r.length=N:=by rw [hr,aI,aM,hN]
 have hv:sY r=p2 n:=by rw [hr];exact SJ n
 have hd:A8 r:=by rw [hr];exact Du (rM _) _ ⟨fN (xN _),by have:=JP (show n % 16≤15 by omega);rw [show p2 15=32768 by unfold p2;decide] at this;omega⟩
 have hcap:=ho1.le;refine iF 1 U ho1 fun G9 hle9 hA=>?_;refine iK 15 U (show _=Value.slice (some ⟨b2,0,none⟩) r.length N by rw [hrN,aM]) ?_;refine cU 2 U (zO _ _ _ _ _ sV sU xL) fun v1 G1 Ho1 hle1 hp=>?_;obtain ⟨tn1,rfl,htr1,rfl,rfl⟩:=hp;refine aY 4 [0] ?_;refine cW (.inr U) (Ho:=Hp.only _ []) U (.agg 0 U U T.agg190) (bH _ _) ?_;refine ⟨⟨false && decide (0<tn1),B7 (some ⟨b2,0,none⟩) N 0 1,tn1,N⟩,U,?_,U⟩;have e:=htr1.num hd hA hcap false;rw [aC (by decide),hv] at e;exact e
end
theorem Mg {x y:Int} {k m:Nat} (hx:(x.natAbs:Int)<pw k) (hy:(y.natAbs:Int)<pw m):((x*y).natAbs:Int)<pw (k+m):=by
 rw [fM,HC,kN];have h1:=fE (fN hy) (show (0:Int)≤x.natAbs by omega);exact Int.lt_of_le_of_lt h1 (Int.mul_lt_mul_of_pos_right hx (yU m))
def Oy (x:Int) (xs:List Int) (y:Int) (ys:List Int):List Int:=List.zipWith (fun a b=>x*a+y*b) xs ys
theorem CU {x y:Int} {xs ys:List Int} (h:xs.length=ys.length):(Oy x xs y ys).length=xs.length:=by
 unfold Oy;rw [jG,h,pU]
theorem NJ {x y:Int} {xs ys:List Int} (h:xs.length=ys.length) {i:Nat} (hi:i<xs.length) :
 (Oy x xs y ys).take (i+1)=(Oy x xs y ys).take i++[x*(xs[((i:Nat):Int).toNat]?.getD 0)+y*(ys[((i:Nat):Int).toNat]?.getD 0)]:=by
 have h1:i<(Oy x xs y ys).length:=by rw [CU h];exact hi
 rw [gH h1,aG,aA hi,aA (by omega:i<ys.length)];have h2:(Oy x xs y ys)[i]=x*xs[i]+y*ys[i]:=List.getElem_zipWith;rw [h2];rfl
theorem SK {xs ys:List Int} (h:xs.length=ys.length) (he:∀ i:Nat,i<xs.length→xs[i]?.getD 0=ys[i]?.getD 0):xs=ys:=by
 refine gS h fun i h1 h2=>?_;have:=he i h1;rw [aA h1,aA h2] at this;exact this
theorem Ip {x y:Int}:vG x y=0↔x=y:=by
 unfold vG;split
 · omega
 split <;> omega
theorem Zl:(((1:Int)).natAbs:Int)<pw 1:=tI
theorem JT:(((-1:Int)).natAbs:Int)<pw 1:=tI
theorem XQ (k:Nat):(((0:Int)).natAbs:Int)<pw k:=yU k
section
attribute [local irreducible] sY pw vG p2
theorem ry (G:A2) (a b:J0 Addr) (ca cb:Nat) (la lb:List IV) (xs ys:List Int) (ha:Arr G a la) (hb:Arr G b lb) (hx:C4 G la xs) (hy:C4 G lb ys) (m:Nat) (hm:m≤1073741824) (bx:Go.Sl.Below m xs) (by':Go.Sl.Below m ys) (h1:la.length≤1099511627776) (h2:lb.length≤1099511627776) :
 Does Tryz.prog 121 [.slice a la.length ca,.slice b lb.length cb] G [] (fun v G' Ho=>v=.bool (decide (xs=ys))∧G'=G∧Ho=[]):=by
 have hxl:=hx.1;have hyl:=hy.1;refine D0 Tryz.func121 Tryz.ntmps121 fun w=>?_;by_cases hl:la.length=lb.length
 · refine bJ 25 [0] ?_;refine gZ (ι:=Nat) (fun i=>([(5,.int .i64 (i:Int)),(0,.slice a (List.length la) ca),(1,.slice b (List.length lb) cb)],[])) (fun i=>i≤la.length∧∀ j:Nat,j<i→xs[j]?.getD 0=ys[j]?.getD 0) (fun i=>la.length - i) (0) (⟨aP _,fun j hj=>by omega⟩) fun i=>fun hk=>?_;obtain ⟨hi,he⟩:=hk;rcases aN i la.length with hia | hia
   · have hxi:=hx.at (m:=(i:Int)) sU;have hyi:=hy.at (m:=(i:Int)) sU;have hxn:=lT hxi (bx.at _);have hyn:=lT hyi (by'.at _);refine bJ 15 [1] ?_;refine dL [] [] T.mixed [[0],[1]] ?_;refine kE (α:=IV) 2 T.sl191 ?_;refine oP 3 T.agg190 ?_;refine eO [[4],[5]] ?_;refine kE (α:=IV) 6 T.sl191 ?_;refine oP 7 T.agg190 ?_;refine dB 8 ?_;refine cZ U (JL _ _ _ _ _ sV sV sU sU) ?_;refine bW ?_;refine eO [[9]] ?_;refine eU ?_;refine cH ?_;refine cF (fun hc1=>?_) fun hc1=>?_;refine bE 11 [] ?_;rotate_left;refine bE 8 [] ?_;rotate_left
     · refine cG ?_;have hne:¬xs=ys:=fun e=>by subst e;exact hc1 (Ip.2 U)
       exact ⟨by rw [bN hne],U,U⟩
     have hc2:=Ip.1 (sD.1 hc1);rw [aG] at hc2;refine cO (i+1) ?_ ?_
     · refine ⟨by omega,fun j hj=>?_⟩;by_cases hji:j=i
       · subst hji;exact hc2
       exact he j sU
     show la.length - (i+1)<la.length - i;omega
   refine bE 21 [0] ?_;refine cG ?_;have hee:xs=ys:=SK sU (fun j hj=>he j sU);exact ⟨by rw [cL hee],U,U⟩
 refine bE 23 [1] ?_;refine cG ?_;have hne:¬xs=ys:=fun e=>by subst e;omega
 exact ⟨by rw [bN hne],U,U⟩
def F7 (G:A2) (v:Value) (zs:List Int):Prop:=∃ (o:J0 Addr) (c:Nat) (l:List IV),v=.slice o l.length c∧Arr G o l∧C4 G l zs∧l.length≤c
theorem dl (G:A2) (x y:IV) (zx zy:Int) (a b:J0 Addr) (ca cb:Nat) (la lb:List IV) (xs ys:List Int) (hx:C3 G x zx) (hy:C3 G y zy) (ha:Arr G a la) (hb:Arr G b lb) (hxs:C4 G la xs) (hys:C4 G lb ys) (hl:la.length=lb.length) (k m:Nat) (hk:k+m≤134217728)
 (bx:(zx.natAbs:Int)<pw k) (by':(zy.natAbs:Int)<pw k) (bxs:Go.Sl.Below m xs) (bys:Go.Sl.Below m ys) (h1:la.length≤1048576) :
 Does Tryz.prog 244 [.agg (A0.enc x).toArray,.slice a la.length ca,.agg (A0.enc y).toArray,.slice b lb.length cb] G [] (fun v G' Ho=>F7 G' v (Oy zx xs zy ys)∧Ho=[]):=by
 have hxl:=hxs.1;have hyl:=hys.1;obtain ⟨K,hK⟩:∃ K,K=k+m:=⟨_,U⟩
 have hK9:K≤1073741824:=sU;refine D0 Tryz.func244 Tryz.ntmps244 fun w=>?_;refine dK 9 (Row 190 ([]:List IV) []) ?_;refine aK 2 [] ?_;refine eG 10 fun b1=>?_;refine eG 11 fun b2=>?_;refine bG 15 [] ?_;refine nN (ι:=Nat×A2×List IV×(J0 Addr×Nat×List Value)) (fun (i,Gx,r,(o,d,j))=>([(10,.int .i64 (i:Int)),(9,.slice o r.length d),(8,.slice none 0 0),(6,.pointer (some ⟨b2,0,none⟩)),(4,.pointer (some ⟨b1,0,none⟩)),(1,.slice a (List.length la) ca),(3,.slice b (List.length lb) cb)],[(9,o.map (·.block),Row 190 r j),(11,some b2,.cells (List.toArray (A0.enc y)) 190),(10,some b1,.cells (List.toArray (A0.enc x)) 190)])) (fun (i,Gx,r,(o,d,j))=>Gx) (fun (i,Gx,r,(o,d,j))=>i≤la.length∧G.le Gx∧r.length=i∧C4 Gx r ((Oy zx xs zy ys).take i)∧A3 o d r j) (fun (i,Gx,r,(o,d,j))=>la.length - i) ((0,G,[],(none,0,[]))) (⟨aP _,cX _,U,by rw [dP];exact C4.nil _,dN⟩) U ⟨U,U,U,U,U,U,U,I3⟩ ⟨U,U,U,I3⟩ fun ⟨i,Gx,r,(o,d,j)⟩=>fun hk=>?_;obtain ⟨hi,hgx,hri,hrs,hob⟩:=hk;replace hx:=hx.up hgx;replace hy:=hy.up hgx;replace ha:=ha.up hgx;replace hb:=hb.up hgx;replace hxs:=hxs.up hgx;replace hys:=hys.up hgx;rcases aN i la.length with hia | hia
 · have hxi:=hxs.at (m:=(i:Int)) sU;have hyi:=hys.at (m:=(i:Int)) sU;have hxn:=lT hxi (bxs.at _);have hyn:=lT hyi (bys.at _);have hxn0:=lT hx bx;have hyn0:=lT hy by';have hp1:=Mg bx (bxs.at (m:=m) ((i:Int).toNat));have hp2:=Mg by' (bys.at (m:=m) ((i:Int).toNat));rw [←hK] at hp1 hp2;refine bJ 14 [1] ?_;refine dL [10,11,9] [(9,15)] T.mixed [[0],[1,10],[2],[3]] ?_;refine kE (α:=IV) 4 T.sl191 ?_;refine oP 5 T.agg190 ?_;refine eO [[7,11],[8],[9]] ?_;refine kE (α:=IV) 10 T.sl191 ?_;refine oP 11 T.agg190 ?_;refine dB 6 ?_;refine cU 12 U (JN _ _ _ _ _ sV sV sU sU) fun v1 G1 Ho1 hle1 hp=>?_;obtain ⟨pm1,rfl,hpm1,rfl⟩:=hp;replace hrs:=hrs.up hle1;replace hx:=hx.up hle1;replace hy:=hy.up hle1;replace ha:=ha.up hle1;replace hb:=hb.up hle1;replace hxs:=hxs.up hle1;replace hys:=hys.up hle1;replace hxi:=hxi.up hle1;replace hyi:=hyi.up hle1;refine cY 12 ?_;refine cU 12 U (JN _ _ _ _ _ sV sV sU sU) fun v2 G2 Ho2 hle2 hp=>?_;obtain ⟨pm2,rfl,hpm2,rfl⟩:=hp;replace hpm1:=hpm1.up hle2;replace hrs:=hrs.up hle2;replace hx:=hx.up hle2;replace hy:=hy.up hle2;replace ha:=ha.up hle2;replace hb:=hb.up hle2;replace hxs:=hxs.up hle2;replace hys:=hys.up hle2;replace hxi:=hxi.up hle2;replace hyi:=hyi.up hle2;refine cY 13 ?_;refine cU 12 U (JK _ _ _ _ _ sV sV (bP (lT (m:=K) sV sV) hK9) (bP (lT (m:=K) sV sV) hK9)) fun v3 G3 Ho3 hle3 hp=>?_;obtain ⟨ps3,rfl,hps3,rfl⟩:=hp;replace hpm2:=hpm2.up hle3;replace hpm1:=hpm1.up hle3;replace hrs:=hrs.up hle3;replace hx:=hx.up hle3;replace hy:=hy.up hle3;replace ha:=ha.up hle3;replace hb:=hb.up hle3;replace hxs:=hxs.up hle3;replace hys:=hys.up hle3;replace hxi:=hxi.up hle3;replace hyi:=hyi.up hle3;refine cY 14 ?_;refine eH (α:=IV) 12 [(ps3)] U T.sl191 T.el190 U U U U U fun b3=>?_;refine cY 15 ?_;refine iP (α:=IV) 9 T.sl191 T.el190 (eP 12 U) fun a1 c1 junk1 ho1=>?_;refine bW ?_;refine eO [[16]] ?_;refine eU ?_;refine fI 7 [] ?_;refine cO ((i+1,G3,r++[ps3],(a1,c1,junk1))) ?_ ?_
   · exact ⟨by omega,bL hgx (bL hle1 (bL hle2 hle3)),by rw [aD];show r.length+1=i+1;omega,by rw [NJ sU sU];exact hrs.snoc hps3,ho1⟩
   show la.length - (i+1)<la.length - i;omega
 refine bE 22 [0] ?_;have hcap:=hob.le;rw [dU (by rw [CU sU];omega)] at hrs;refine fO 9 U hob fun G9 hle9 hA=>?_;refine cG ?_;exact ⟨⟨o,d,r,U,hA,hrs.up hle9,hcap⟩,U⟩
theorem HM (G:A2) (n:Nat):C4 G (List.replicate n (default:IV)) (List.replicate n 0):=by
 refine ⟨by rw [aM,aM],fun i hi=>?_⟩;rw [aM] at hi;rw [dZ,dZ,aE hi,aE hi];exact C3.zero G
theorem jr (G:A2) (n:Nat) (hn:n≤1048576) :
 Does Tryz.prog 119 [.int .i64 (n:Int)] G [] (fun v G' Ho=>F7 G' v (List.replicate n 0)∧Ho=[]):=by
 refine D0 Tryz.func119 Tryz.ntmps119 fun w=>?_;refine aK 8 [] ?_;refine gM (α:=IV) 0 U T.sl191 T.el190 U U sU sU fun b1=>?_;refine aY 4 [] ?_;have hr:∀ N:Nat,(N:Int).toNat=N:=fun N=>aG N;rw [hr n];have hl:(List.replicate n (default:IV)).length=n:=aM;have hob:A3 (some ⟨b1,0,none⟩) n (List.replicate n (default:IV)) []:=.inr ⟨b1,U,by rw [hl];rfl,by omega,by simp only [maxLen];omega⟩;refine fO 0 U hob fun G9 hle9 hA=>?_;refine cG ?_;exact ⟨⟨_,n,_,by rw [hl],hA,HM _ n,by rw [hl];exact aH _⟩,U⟩
theorem HN (z:Int) (xs:List Int):Oy z xs 0 xs=xs.map (fun a=>z*a):=by
 unfold Oy;induction xs with
 | nil=>rfl
 | cons a l ih=>rw [List.zipWith_cons_cons,ih,dY,eR,dV]
theorem CW (c:Int) (xs ys:List Int):Oy 1 xs c ys=List.zipWith (fun a b=>a+c*b) xs ys:=by
 unfold Oy;congr 1;funext a b;rw [eN]
theorem rz (G:A2) (x:IV) (z:Int) (a:J0 Addr) (ca:Nat) (la:List IV) (xs:List Int) (hx:C3 G x z) (ha:Arr G a la) (hxs:C4 G la xs) (k m:Nat) (hk:k+m≤134217728)
 (bx:(z.natAbs:Int)<pw k) (bxs:Go.Sl.Below m xs) (h1:la.length≤1048576) :
 Does Tryz.prog 210 [.slice a la.length ca,.agg (A0.enc x).toArray] G [] (fun v G' Ho=>F7 G' v (xs.map (fun a=>z*a))∧Ho=[]):=by
 refine D0 Tryz.func210 Tryz.ntmps210 fun w=>?_;refine aK 2 [] ?_;refine eG 0 fun b1=>?_;refine aS 7 [0] ?_;refine aZ (cQ (cs:=[_,_]) T.st190 U U U) ?_;refine aB 1 [] ?_;refine cU 1 U (dl _ x ⟨false,none,0,0⟩ z 0 _ _ _ _ _ _ xs xs hx (C3.zero _) ha ha hxs hxs U k m hk bx (XQ k) bxs bxs h1) fun v1 G1 Ho1 hle1 hp=>?_;obtain ⟨⟨ro1,rc1,rl1,rfl,hrA1,hrs1,hrl1⟩,rfl⟩:=hp;replace hx:=hx.up hle1;replace ha:=ha.up hle1;replace hxs:=hxs.up hle1;refine aY 4 [] ?_;refine cG ?_;exact ⟨⟨ro1,rc1,rl1,U,hrA1,by rw [←HN];exact hrs1,hrl1⟩,U⟩
theorem sd (G:A2) (a b:J0 Addr) (ca cb:Nat) (la lb:List IV) (xs ys:List Int) (ha:Arr G a la) (hb:Arr G b lb) (hxs:C4 G la xs) (hys:C4 G lb ys) (hl:la.length=lb.length) (m:Nat) (hm:1+m≤134217728)
 (bxs:Go.Sl.Below m xs) (bys:Go.Sl.Below m ys) (h1:la.length≤1048576) :
 Does Tryz.prog 211 [.slice a la.length ca,.slice b lb.length cb] G [] (fun v G' Ho=>F7 G' v (List.zipWith (fun a b=>a+1*b) xs ys)∧Ho=[]):=by
 refine D0 Tryz.func211 Tryz.ntmps211 fun w=>?_;refine aK 7 [] ?_;refine cU 0 U (Io _ _ ⟨by decide,by decide⟩) fun v1 G1 Ho1 hle1 hp=>?_;obtain ⟨ri1,rfl,hri1,rfl⟩:=hp;replace ha:=ha.up hle1;replace hb:=hb.up hle1;replace hxs:=hxs.up hle1;replace hys:=hys.up hle1;refine aB 1 [] ?_;refine cU 0 U (Io _ _ ⟨by decide,by decide⟩) fun v2 G2 Ho2 hle2 hp=>?_;obtain ⟨ri2,rfl,hri2,rfl⟩:=hp;replace hri1:=hri1.up hle2;replace ha:=ha.up hle2;replace hb:=hb.up hle2;replace hxs:=hxs.up hle2;replace hys:=hys.up hle2;refine aB 1 [] ?_;refine cU 0 U (dl _ _ _ 1 1 _ _ _ _ la lb xs ys hri1 hri2 ha hb hxs hys hl 1 m hm Zl Zl bxs bys h1) fun v3 G3 Ho3 hle3 hp=>?_;obtain ⟨⟨ro3,rc3,rl3,rfl,hrA3,hrs3,hrl3⟩,rfl⟩:=hp;replace hri2:=hri2.up hle3;replace hri1:=hri1.up hle3;replace ha:=ha.up hle3;replace hb:=hb.up hle3;replace hxs:=hxs.up hle3;replace hys:=hys.up hle3;refine aY 4 [] ?_;refine cG ?_;exact ⟨⟨ro3,rc3,rl3,U,hrA3,by rw [←CW];exact hrs3,hrl3⟩,U⟩
theorem se (G:A2) (a b:J0 Addr) (ca cb:Nat) (la lb:List IV) (xs ys:List Int) (ha:Arr G a la) (hb:Arr G b lb) (hxs:C4 G la xs) (hys:C4 G lb ys) (hl:la.length=lb.length) (m:Nat) (hm:1+m≤134217728)
 (bxs:Go.Sl.Below m xs) (bys:Go.Sl.Below m ys) (h1:la.length≤1048576) :
 Does Tryz.prog 212 [.slice a la.length ca,.slice b lb.length cb] G [] (fun v G' Ho=>F7 G' v (List.zipWith (fun a b=>a+(-1)*b) xs ys)∧Ho=[]):=by
 refine D0 Tryz.func212 Tryz.ntmps212 fun w=>?_;refine aK 7 [] ?_;refine cU 0 U (Io _ _ ⟨by decide,by decide⟩) fun v1 G1 Ho1 hle1 hp=>?_;obtain ⟨ri1,rfl,hri1,rfl⟩:=hp;replace ha:=ha.up hle1;replace hb:=hb.up hle1;replace hxs:=hxs.up hle1;replace hys:=hys.up hle1;refine aB 1 [] ?_;refine cU 0 U (Io _ _ ⟨by decide,by decide⟩) fun v2 G2 Ho2 hle2 hp=>?_;obtain ⟨ri2,rfl,hri2,rfl⟩:=hp;replace hri1:=hri1.up hle2;replace ha:=ha.up hle2;replace hb:=hb.up hle2;replace hxs:=hxs.up hle2;replace hys:=hys.up hle2;refine aB 1 [] ?_;refine cU 0 U (dl _ _ _ 1 (-1) _ _ _ _ la lb xs ys hri1 hri2 ha hb hxs hys hl 1 m hm Zl JT bxs bys h1) fun v3 G3 Ho3 hle3 hp=>?_;obtain ⟨⟨ro3,rc3,rl3,rfl,hrA3,hrs3,hrl3⟩,rfl⟩:=hp;replace hri2:=hri2.up hle3;replace hri1:=hri1.up hle3;replace ha:=ha.up hle3;replace hb:=hb.up hle3;replace hxs:=hxs.up hle3;replace hys:=hys.up hle3;refine aY 4 [] ?_;refine cG ?_;exact ⟨⟨ro3,rc3,rl3,U,hrA3,by rw [←CW];exact hrs3,hrl3⟩,U⟩
theorem CX {y:Int} {xs:List Int} {i:Nat} (hi:i<xs.length) :
 (xs.map (· / y)).take (i+1)=(xs.map (· / y)).take i++[xs[((i:Nat):Int).toNat]?.getD 0 / y]:=by
 have h1:i<(xs.map (· / y)).length:=by rw [aT];exact hi
 rw [gH h1,aG,aA hi,gE];rfl
theorem sf (G:A2) (y:IV) (zy:Int) (a:J0 Addr) (ca:Nat) (la:List IV) (xs:List Int) (hy:C3 G y zy) (ha:Arr G a la) (hxs:C4 G la xs) (m:Nat) (hm:m≤134217728) (hyn0:y.n≤134217728)
 (bxs:Go.Sl.Below m xs) (hy0:zy≠0) (h1:la.length≤1048576) :
 Does Tryz.prog 214 [.slice a la.length ca,.agg (A0.enc y).toArray] G [] (fun v G' Ho=>∃ rv,v=.tuple #[rv,.bool (decide (yG zy xs))]∧(yG zy xs→F7 G' rv (xs.map (· / zy)))∧Ho=[]):=by
 have hxl:=hxs.1;refine D0 Tryz.func214 Tryz.ntmps214 fun w=>?_;refine dK 9 (Row 190 ([]:List IV) []) ?_;refine aK 2 [] ?_;refine eG 10 fun b1=>?_;refine bG 16 [] ?_;refine nN (ι:=Nat×A2×List IV×(J0 Addr×Nat×List Value)) (fun (i,Gx,r,(o,d,j))=>([(7,.int .i64 (i:Int)),(6,.slice o r.length d),(3,.pointer (some ⟨b1,0,none⟩)),(0,.slice a (List.length la) ca)],[(9,o.map (·.block),Row 190 r j),(10,some b1,.cells (List.toArray (A0.enc y)) 190)])) (fun (i,Gx,r,(o,d,j))=>Gx) (fun (i,Gx,r,(o,d,j))=>i≤la.length∧G.le Gx∧r.length=i∧C4 Gx r ((xs.map (· / zy)).take i)∧A3 o d r j∧∀ q:Nat,q<i→xs[q]?.getD 0 % zy=0) (fun (i,Gx,r,(o,d,j))=>la.length - i) ((0,G,[],(none,0,[]))) (⟨aP _,cX _,U,by rw [dP];exact C4.nil _,dN,fun q hq=>by omega⟩) U ⟨U,U,U,U,I3⟩ ⟨U,U,I3⟩ fun ⟨i,Gx,r,(o,d,j)⟩=>fun hk=>?_;obtain ⟨hi,hgx,hri,hrs,hob,hq⟩:=hk;replace hy:=hy.up hgx;replace ha:=ha.up hgx;replace hxs:=hxs.up hgx;rcases aN i la.length with hia | hia
 · have hxi:=hxs.at (m:=(i:Int)) sU;have hxn:=lT hxi (bxs.at _);refine bJ 15 [1] ?_;refine dL [10,9] [] T.mixed [[0],[1]] ?_;refine kE (α:=IV) 2 T.sl191 ?_;refine oP 3 T.agg190 ?_;refine eO [[4,10]] ?_;refine oO 5 9 ?_ ?_;refine cU 11 U (CT _ _ _ _ zy sV sV sU sU hy0) fun v1 G1 Ho1 hle1 hp=>?_;obtain ⟨qo1,rfl,hqo1,rfl⟩:=hp;replace hrs:=hrs.up hle1;replace hy:=hy.up hle1;replace ha:=ha.up hle1;replace hxs:=hxs.up hle1;replace hxi:=hxi.up hle1;refine bW ?_;refine eO [[6],[7],[8]] ?_;refine dB 9 ?_;refine aV 11 U T.zero190 fun b2=>?_;refine cY 10 ?_;refine aB 1 [11] ?_;refine bW ?_;refine eO [[11]] ?_;refine eU ?_;refine oR 5 [] ?_;refine aZ (eJ U) ?_;refine bG 2 [] ?_;refine cF (fun hc1=>?_) fun hc1=>?_;refine bE 13 [] ?_;rotate_left;refine aK 5 [11] ?_;refine eH (α:=IV) 12 [(qo1)] U T.sl191 T.el190 U U U U U fun b3=>?_;refine iP (α:=IV) 9 T.sl191 T.el190 (eP 12 U) fun a1 c1 junk1 ho1=>?_;refine aY 9 [] ?_;rotate_left;refine aV 11 U T.zero190 fun b2=>?_;refine cY 5 ?_;refine cU 12 U (CT _ _ _ _ zy sV sV sU sU hy0) fun v1 G1 Ho1 hle1 hp=>?_;obtain ⟨qo1,rfl,hqo1,rfl⟩:=hp;replace hrs:=hrs.up hle1;replace hy:=hy.up hle1;replace ha:=ha.up hle1;replace hxs:=hxs.up hle1;replace hxi:=hxi.up hle1;refine bW ?_;refine eO [[6],[7],[8]] ?_;refine dB 10 ?_;refine aB 1 [11] ?_;refine bW ?_;refine eO [[11]] ?_;refine eU ?_;refine oR 5 [] ?_;refine aZ (eJ U) ?_;refine bG 2 [] ?_;refine cF (fun hc1=>?_) fun hc1=>?_;refine bE 13 [] ?_;rotate_left;refine aK 5 [11] ?_;refine eH (α:=IV) 12 [(qo1)] U T.sl191 T.el190 U U U U U fun b3=>?_;refine iP (α:=IV) 9 T.sl191 T.el190 (eP 12 U) fun a1 c1 junk1 ho1=>?_;refine aY 9 [] ?_;rotate_left
   · refine jJ ?_;have hn:¬yG zy xs:=fun h=>hc1 (h _ sU);exact ⟨_,by rw [bN hn],fun h=>absurd h hn,U⟩
   · have hc2:=sD.1 hc1;rw [aE hc2] at hqo1;refine cO ((i+1,G1,r++[qo1],(a1,c1,junk1))) ?_ ?_
     · refine ⟨by omega,bL hgx hle1,by rw [aD];show r.length+1=i+1;omega,by rw [CX sU];exact hrs.snoc hqo1,ho1,fun q hq9=>?_⟩;by_cases hqi:q=i
       · subst hqi;rw [aG] at hc2;exact hc2
       exact hq q sU
     show la.length - (i+1)<la.length - i;omega
   · refine jJ ?_;have hn:¬yG zy xs:=fun h=>hc1 (h _ sU);exact ⟨_,by rw [bN hn],fun h=>absurd h hn,U⟩
   have hc2:=sD.1 hc1;rw [aE hc2] at hqo1;refine cO ((i+1,G1,r++[qo1],(a1,c1,junk1))) ?_ ?_
   · refine ⟨by omega,bL hgx hle1,by rw [aD];show r.length+1=i+1;omega,by rw [CX sU];exact hrs.snoc hqo1,ho1,fun q hq9=>?_⟩;by_cases hqi:q=i
     · subst hqi;rw [aG] at hc2;exact hc2
     exact hq q sU
   show la.length - (i+1)<la.length - i;omega
 refine bE 23 [0] ?_;have hcap:=hob.le;have hall:yG zy xs:=fun q hq9=>hq q sU;rw [dU Qm] at hrs;refine fO 9 U hob fun G9 hle9 hA=>?_;refine jJ ?_;exact ⟨_,by rw [cL hall],fun _=>⟨o,d,r,U,hA,hrs.up hle9,hcap⟩,U⟩
end
def C1 (G:A2) (s:SV) (zs:List Int):Prop:=∃ l:List IV,l.length=s.n∧s.n≤s.c∧Arr G s.a l∧C4 G l zs
theorem C1.up {G G':A2} {s:SV} {zs:List Int} (h:C1 G s zs) (hl:G.le G'):C1 G' s zs:=by
 obtain ⟨l,h1,h2,h3,h4⟩:=h;exact ⟨l,h1,h2,h3.up hl,h4.up hl⟩
theorem F7.handle {G:A2} {v:Value} {zs:List Int} (h:F7 G v zs):∃ s:SV,v=.slice s.a s.n s.c∧C1 G s zs:=by
 obtain ⟨o,c,l,rfl,h1,h2,h3⟩:=h;exact ⟨⟨o,l.length,c⟩,U,l,U,h3,h1,h2⟩
def D5 (G:A2) (l:List SV) (rs:List (List Int)):Prop:=l.length=rs.length∧∀ i:Nat,i<l.length→C1 G (l[i]?.getD default) (rs[i]?.getD [])
theorem D5.up {G G':A2} {l:List SV} {rs:List (List Int)} (h:D5 G l rs) (hl:G.le G'):D5 G' l rs:=⟨h.1,fun i hi=>(h.2 i hi).up hl⟩
theorem D5.nil (G:A2):D5 G [] []:=⟨U,fun i hi=>by simp at hi⟩
theorem D5.at {G:A2} {l:List SV} {rs:List (List Int)} (h:D5 G l rs) {m:Int} (hm:0≤m∧m<l.length):C1 G (l[m.toNat]?.getD default) (rs[m.toNat]?.getD []):=h.2 _ sU
theorem D5.snoc {G:A2} {l:List SV} {rs:List (List Int)} (h:D5 G l rs) {s:SV} {zs:List Int} (hx:C1 G s zs):D5 G (l++[s]) (rs++[zs]):=by
 refine ⟨by simp [h.1],fun i hi=>?_⟩;rw [aD,gF] at hi;by_cases hc:i<l.length
 · rw [bC hc,bC (by rw [←h.1];exact hc)];exact h.2 i hc
 have e:i=l.length:=sU;subst e;rw [kW,h.1,kW];exact hx
theorem D5.set {G:A2} {l:List SV} {rs:List (List Int)} (h:D5 G l rs) (k:Nat) {s:SV} {zs:List Int} (hx:C1 G s zs):D5 G (l.set k s) (rs.set k zs):=by
 refine ⟨by rw [aI,aI];exact h.1,fun i hi=>?_⟩;rw [aI] at hi;have hi2:i<rs.length:=by rw [←h.1];exact hi
 rw [cE,cE];by_cases hk:k=i
 · subst hk;rw [aE rfl,aE rfl,aE hi,aE hi2];exact hx
 rw [aC hk,aC hk];exact h.2 i hi
section
attribute [local irreducible] sY pw vG p2
theorem XR (G:A2) (i:I5) (hc1:i.op=5∨i.op=6→-9223372036854775808≤i.c∧i.c≤9223372036854775807) (hc2:¬(i.op=5∨i.op=6)→0≤i.c∧i.c≤64) :
 Does Tryz.prog 213 [.agg (A0.enc i).toArray] G [] (fun v G' Ho=>∃ r:IV,v=.agg (A0.enc r).toArray∧C3 G' r (cst i)∧Ho=[]):=by
 refine D0 Tryz.func213 Tryz.ntmps213 fun w=>?_;by_cases h5:i.op=5
 · have hc1:=hc1 (.inl h5);refine aK 2 [] ?_;refine eG 0 fun b1=>?_;refine aV 1 U T.zero190 fun b2=>?_;refine aS 9 [0] ?_;refine rQ 6 ?_;refine aS 11 [1,0] ?_;refine cU 2 U (Io _ _ hc1) fun v1 G1 Ho1 hle1 hp=>?_;obtain ⟨ri1,rfl,hri1,rfl⟩:=hp;refine aY 5 [1] ?_;refine cW (.inr U) (Ho:=[]) U (.agg 1 U U T.agg190) I3 ?_;exact ⟨ri1,U,by rw [CM (.inl h5)];exact hri1,U⟩
 by_cases h6:i.op=6
 · have hc1:=hc1 (.inr h6);refine aK 2 [] ?_;refine eG 0 fun b1=>?_;refine aV 1 U T.zero190 fun b2=>?_;refine aS 9 [0] ?_;refine iW 6 ?_;refine aS 14 [0,1,0] ?_;refine cU 2 U (Io _ _ hc1) fun v1 G1 Ho1 hle1 hp=>?_;obtain ⟨ri1,rfl,hri1,rfl⟩:=hp;refine aY 5 [1] ?_;refine cW (.inr U) (Ho:=[]) U (.agg 1 U U T.agg190) I3 ?_;exact ⟨ri1,U,by rw [CM (.inr h6)];exact hri1,U⟩
 have hcp:=am (i:=i) sU;obtain ⟨c,hc⟩:∃ c:Nat,i.c=(c:Int):=⟨i.c.toNat,by have:=hc2 sU;omega⟩
 have hc9:c≤16777216:=by have:=hc2 sU;omega
 rw [hc,aG] at hcp;clear hc1 hc2;obtain ⟨o,t,a,b,cc⟩:=i;simp only at hc h5 h6;subst hc;refine aK 2 [] ?_;refine eG 0 fun b1=>?_;refine aV 1 U T.zero190 fun b2=>?_;refine aS 9 [0] ?_;refine iW 6 ?_;refine aS 16 [0,0,0] ?_;refine cU 2 U (rx _ c hc9) fun v1 G1 Ho1 hle1 hp=>?_;obtain ⟨ri1,rfl,hri1,rfl⟩:=hp;refine aY 4 [1] ?_;refine cW (.inr U) (Ho:=[]) U (.agg 1 U U T.agg190) I3 ?_;exact ⟨ri1,U,by rw [hcp];exact hri1,U⟩
theorem Mh (G:A2) (x:IV) (z:Int) (s:SV) (xs:List Int) (hx:C3 G x z) (hs:C1 G s xs) (m:Nat) (hk:5+m≤134217728)
 (bx:(z.natAbs:Int)<pw 5) (bxs:Go.Sl.Below m xs) (h1:s.n≤1048576) :
 Does Tryz.prog 210 [.slice s.a s.n s.c,.agg (A0.enc x).toArray] G [] (fun v G' Ho=>∃ s':SV,v=.slice s'.a s'.n s'.c∧C1 G' s' (xs.map (fun a=>z*a))∧Ho=[]):=by
 obtain ⟨sa,sn,sc⟩:=s;obtain ⟨l,hl,hc,hA,hN⟩:=hs;simp only at hl hc hA h1;subst hl;refine (rz G x z sa sc l xs hx hA hN 5 m hk bx bxs h1).mono fun v G' Ho _ ⟨h,e⟩=>?_;obtain ⟨s',e1,e2⟩:=h.handle;exact ⟨s',e1,e2,e⟩
theorem XS (G:A2) (s t:SV) (xs ys:List Int) (hs:C1 G s xs) (ht:C1 G t ys) (hl:xs.length=ys.length) (m:Nat) (hm:1+m≤134217728) (bxs:Go.Sl.Below m xs) (bys:Go.Sl.Below m ys) (h1:s.n≤1048576) :
 Does Tryz.prog 211 [.slice s.a s.n s.c,.slice t.a t.n t.c] G [] (fun v G' Ho=>∃ s':SV,v=.slice s'.a s'.n s'.c∧C1 G' s' (List.zipWith (fun a b=>a+1*b) xs ys)∧Ho=[]):=by
 obtain ⟨sa,sn,sc⟩:=s;obtain ⟨ta,tn,tc⟩:=t;obtain ⟨l,hl1,hc,hA,hN⟩:=hs;obtain ⟨l',hl2,hc',hA',hN'⟩:=ht;simp only at hl1 hc hA h1 hl2 hc' hA';subst hl1 hl2;have e1:=hN.1;have e2:=hN'.1;refine (sd G sa ta sc tc l l' xs ys hA hA' hN hN' sU m hm bxs bys h1).mono fun v G' Ho _ ⟨h,e⟩=>?_;obtain ⟨s',e1,e2⟩:=h.handle;exact ⟨s',e1,e2,e⟩
theorem XT (G:A2) (s t:SV) (xs ys:List Int) (hs:C1 G s xs) (ht:C1 G t ys) (hl:xs.length=ys.length) (m:Nat) (hm:1+m≤134217728) (bxs:Go.Sl.Below m xs) (bys:Go.Sl.Below m ys) (h1:s.n≤1048576) :
 Does Tryz.prog 212 [.slice s.a s.n s.c,.slice t.a t.n t.c] G [] (fun v G' Ho=>∃ s':SV,v=.slice s'.a s'.n s'.c∧C1 G' s' (List.zipWith (fun a b=>a+(-1)*b) xs ys)∧Ho=[]):=by
 obtain ⟨sa,sn,sc⟩:=s;obtain ⟨ta,tn,tc⟩:=t;obtain ⟨l,hl1,hc,hA,hN⟩:=hs;obtain ⟨l',hl2,hc',hA',hN'⟩:=ht;simp only at hl1 hc hA h1 hl2 hc' hA';subst hl1 hl2;have e1:=hN.1;have e2:=hN'.1;refine (se G sa ta sc tc l l' xs ys hA hA' hN hN' sU m hm bxs bys h1).mono fun v G' Ho _ ⟨h,e⟩=>?_;obtain ⟨s',e1,e2⟩:=h.handle;exact ⟨s',e1,e2,e⟩
theorem CY (G:A2) (y:IV) (zy:Int) (s:SV) (xs:List Int) (hy:C3 G y zy) (hs:C1 G s xs) (m:Nat) (hm:m≤134217728) (by':(zy.natAbs:Int)<pw 5) (bxs:Go.Sl.Below m xs) (hy0:zy≠0) (h1:s.n≤1048576) :
 Does Tryz.prog 214 [.slice s.a s.n s.c,.agg (A0.enc y).toArray] G [] (fun v G' Ho=>∃ rv,v=.tuple #[rv,.bool (decide (yG zy xs))]∧(yG zy xs→∃ s':SV,rv=.slice s'.a s'.n s'.c∧C1 G' s' (xs.map (· / zy)))∧Ho=[]):=by
 obtain ⟨sa,sn,sc⟩:=s;obtain ⟨l,hl,hc,hA,hN⟩:=hs;simp only at hl hc hA h1;subst hl;refine (sf G y zy sa sc l xs hy hA hN m hm (bP (lT hy by') tI) bxs hy0 h1).mono fun v G' Ho _ ⟨rv,h,h2,e⟩=>?_;exact ⟨rv,h,fun ha=>(h2 ha).handle,e⟩
def D7 (m N:Nat) (rs:List (List Int)):Prop:=∀ zs∈rs,zs.length=N∧Go.Sl.Below m zs
theorem D7.at {m N:Nat} {rs:List (List Int)} (h:D7 m N rs) {k:Int} (hk:0≤k∧k<rs.length):(rs[k.toNat]?.getD []).length=N∧Go.Sl.Below m (rs[k.toNat]?.getD []):=by
 have h1:k.toNat<rs.length:=sU;rw [aA h1];exact h _ (bY h1)
theorem C1.len {G:A2} {s:SV} {zs:List Int} (h:C1 G s zs):s.n=zs.length:=by
 obtain ⟨l,h1,_,_,h4⟩:=h;rw [←h1];exact h4.1
end
section
attribute [local irreducible] sY pw vG p2
theorem XU:(((-1:Int)).natAbs:Int)<pw 5:=mI JT (Wf tI)
def Zm (i:I5) (rs:List (List Int)) (H0:Hp) (v:Value) (G':A2) (Ho:Hp):Prop:=
 ∃ rv,v=.tuple #[rv,.bool (decide (zP i rs≠none))]∧(∀ zs,zP i rs=some zs→∃ s:SV,rv=.slice s.a s.n s.c∧C1 G' s zs)∧Ho=H0
theorem Cc {i:I5} {rs:List (List Int)} {H0:Hp} {s:SV} {G':A2} {zs:List Int} (h:zP i rs=some zs) (hs:C1 G' s zs):Zm i rs H0 (.tuple #[.slice s.a s.n s.c,.bool true]) G' H0:=
 ⟨_,by rw [cL (show zP i rs≠none from fun e=>by rw [e] at h;cases h)],fun zs' h'=>by rw [h] at h';cases h';exact ⟨s,U,hs⟩,U⟩
theorem CZ {i:I5} {rs:List (List Int)} {H0:Hp} {rv:Value} {G':A2} {y:Int} {xs:List Int} (h:zP i rs=if yG y xs then some (xs.map (· / y)) else none)
 (hs:yG y xs→∃ s:SV,rv=.slice s.a s.n s.c∧C1 G' s (xs.map (· / y))):Zm i rs H0 (.tuple #[rv,.bool (decide (yG y xs))]) G' H0:=by
 by_cases ha:yG y xs
 · rw [aE ha] at h;obtain ⟨s,e1,e2⟩:=hs ha;subst e1;rw [cL ha];exact Cc h e2
 rw [aC ha] at h;refine ⟨rv,by rw [bN ha,bN (show ¬zP i rs≠none from fun e=>e h)],(fun zs hz=>by rw [h] at hz;cases hz),U⟩
theorem sg (G:A2) (i:I5) (o:J0 Addr) (d:Nat) (r:List SV) (j:List Value) (rs:List (List Int)) (m N:Nat) (hob:A3 o d r j) (hg:D5 G r rs) (he:D7 m N rs) (hN:N≤1048576) (hm:5+m≤134217728)
 (hop:1≤i.op∧i.op≤8) (ha:0≤i.a∧i.a<r.length) (hb:i.op=3∨i.op=4→0≤i.b∧i.b<r.length) (hcc:tL i.op i.c=true) (hr:r.length≤1048576) (hz:i.op≠1→i.op≠2→i.op≠3→i.op≠4→cst i≠0∧((cst i).natAbs:Int)<pw 5)
 (hc1:i.op=5∨i.op=6→-9223372036854775808≤i.c∧i.c≤9223372036854775807) (hc2:¬(i.op=5∨i.op=6)→0≤i.c∧i.c≤64) :
 Does Tryz.prog 164 [.agg (A0.enc i).toArray,.slice o r.length d] G [(0,o.map (·.block),Row 191 r j)] (fun v G' Ho=>Zm i rs [(0,o.map (·.block),Row 191 r j)] v G' Ho):=by
 have hgl:=hg.1;have hca:=hob.le;have haR:=hg.at ha;obtain ⟨haL,haB⟩:=he.at (k:=i.a) sU;have haN:(r[i.a.toNat]?.getD default).n≤1048576:=by rw [haR.len,haL];exact hN
 have hm1:1+m≤134217728:=sU;have hm2:m≤134217728:=sU;have hmone:=XU;refine D0 Tryz.func164 Tryz.ntmps164 fun w=>?_;by_cases h2:i.op=2
 · refine aK 2 [] ?_;refine eG 1 fun b1=>?_;refine aS 9 [1] ?_;refine gY (α:=SV) T.sl182 ?_;refine jS 0 0 T.one191 ?_;refine aS 15 [1,1] ?_;refine cU 2 U (Io _ _ ⟨by decide,by decide⟩) fun v1 G1 Ho1 hle1 hp=>?_;obtain ⟨ri1,rfl,hri1,rfl⟩:=hp;replace hg:=hg.up hle1;replace haR:=haR.up hle1;refine cU 2 U (Mh _ _ _ _ _ sV sV m hm sV sV sV) fun v2 G2 Ho2 hle2 hp=>?_;obtain ⟨rs2,rfl,hrs2,rfl⟩:=hp;replace hri1:=hri1.up hle2;replace hg:=hg.up hle2;replace haR:=haR.up hle2;refine aY 6 [] ?_;refine gD (.inr U) (Ho:=[(0,o.map (·.block),Row 191 r j)]) U (.tmp U) (.tmp U) ⟨U,I3⟩ ?_;exact Cc (by unfold zP;exact aE h2) hrs2
 by_cases h34:i.op=3∨i.op=4
 · have hb:=hb h34;have hbR:=hg.at hb;obtain ⟨hbL,hbB⟩:=he.at (k:=i.b) sU;have hll:(rs[i.a.toNat]?.getD []).length=(rs[i.b.toNat]?.getD []).length:=by rw [haL,hbL]
   by_cases h3:i.op=3
   · refine aK 2 [] ?_;refine eG 1 fun b1=>?_;refine aS 9 [1] ?_;refine gY (α:=SV) T.sl182 ?_;refine jS 0 0 T.one191 ?_;refine aS 29 [1,0,1,1,1] ?_;refine gY (α:=SV) T.sl182 ?_;refine jS 0 0 T.one191 ?_;refine cU 2 U (XS _ _ _ _ _ sV hbR hll m hm1 sV hbB sV) fun v1 G1 Ho1 hle1 hp=>?_;obtain ⟨rs1,rfl,hrs1,rfl⟩:=hp;replace hg:=hg.up hle1;replace haR:=haR.up hle1;replace hbR:=hbR.up hle1;refine aY 6 [] ?_;refine gD (.inr U) (Ho:=[(0,o.map (·.block),Row 191 r j)]) U (.tmp U) (.tmp U) ⟨U,I3⟩ ?_;exact Cc (by unfold zP;exact (aC h2).trans (aE h3)) hrs1
   have h4:i.op=4:=sU;refine aK 2 [] ?_;refine eG 1 fun b1=>?_;refine aS 9 [1] ?_;refine gY (α:=SV) T.sl182 ?_;refine jS 0 0 T.one191 ?_;refine aS 40 [1,0,1,0,1,1,1] ?_;refine gY (α:=SV) T.sl182 ?_;refine jS 0 0 T.one191 ?_;refine cU 2 U (XT _ _ _ _ _ sV hbR hll m hm1 sV hbB sV) fun v1 G1 Ho1 hle1 hp=>?_;obtain ⟨rs1,rfl,hrs1,rfl⟩:=hp;replace hg:=hg.up hle1;replace haR:=haR.up hle1;replace hbR:=hbR.up hle1;refine aY 6 [] ?_;refine gD (.inr U) (Ho:=[(0,o.map (·.block),Row 191 r j)]) U (.tmp U) (.tmp U) ⟨U,I3⟩ ?_;exact Cc (by unfold zP;exact (aC h2).trans ((aC h3).trans (aE h4))) hrs1
 by_cases h1:i.op=1
 · refine aK 2 [] ?_;refine eG 1 fun b1=>?_;refine aS 9 [1] ?_;refine gY (α:=SV) T.sl182 ?_;refine jS 0 0 T.one191 ?_;refine aS 43 [1,0,1,0,1,0,1] ?_;refine iW 41 ?_;refine aS 19 [1,0,1] ?_;refine iW 53 ?_;refine aY 20 [1,0] ?_;refine gD (.inr U) (Ho:=[(0,o.map (·.block),Row 191 r j)]) U (.tmp U) (.tmp U) ⟨U,I3⟩ ?_;exact Cc (by unfold zP;exact (aC h2).trans ((aC (fun e=>h34 (.inl e))).trans ((aC (fun e=>h34 (.inr e))).trans ((aC (by omega)).trans (aC (by omega)))))) haR
 obtain ⟨hy0,hyb⟩:=hz h1 h2 sU sU;by_cases h5:i.op=5
 · refine aK 2 [] ?_;refine eG 1 fun b1=>?_;refine aS 9 [1] ?_;refine gY (α:=SV) T.sl182 ?_;refine jS 0 0 T.one191 ?_;refine aS 43 [1,0,1,0,1,0,1] ?_;refine rQ 41 ?_;refine aS 11 [1,1] ?_;refine cU 2 U (XR _ i hc1 hc2) fun v1 G1 Ho1 hle1 hp=>?_;obtain ⟨ri1,rfl,hri1,rfl⟩:=hp;replace hg:=hg.up hle1;replace haR:=haR.up hle1;refine cU 2 U (Mh _ _ _ _ _ sV sV m hm sV sV sV) fun v2 G2 Ho2 hle2 hp=>?_;obtain ⟨rs2,rfl,hrs2,rfl⟩:=hp;replace hri1:=hri1.up hle2;replace hg:=hg.up hle2;replace haR:=haR.up hle2;refine aY 6 [] ?_;refine gD (.inr U) (Ho:=[(0,o.map (·.block),Row 191 r j)]) U (.tmp U) (.tmp U) ⟨U,I3⟩ ?_;exact Cc (by unfold zP;exact (aC h2).trans ((aC (fun e=>h34 (.inl e))).trans ((aC (fun e=>h34 (.inr e))).trans (aE (.inl h5))))) hrs2
 by_cases h7:i.op=7
 · refine aK 2 [] ?_;refine eG 1 fun b1=>?_;refine aS 9 [1] ?_;refine gY (α:=SV) T.sl182 ?_;refine jS 0 0 T.one191 ?_;refine aS 43 [1,0,1,0,1,0,1] ?_;refine iW 41 ?_;refine aS 14 [1,1,1] ?_;refine cU 2 U (XR _ i hc1 hc2) fun v1 G1 Ho1 hle1 hp=>?_;obtain ⟨ri1,rfl,hri1,rfl⟩:=hp;replace hg:=hg.up hle1;replace haR:=haR.up hle1;refine cU 2 U (Mh _ _ _ _ _ sV sV m hm sV sV sV) fun v2 G2 Ho2 hle2 hp=>?_;obtain ⟨rs2,rfl,hrs2,rfl⟩:=hp;replace hri1:=hri1.up hle2;replace hg:=hg.up hle2;replace haR:=haR.up hle2;refine aY 6 [] ?_;refine gD (.inr U) (Ho:=[(0,o.map (·.block),Row 191 r j)]) U (.tmp U) (.tmp U) ⟨U,I3⟩ ?_;exact Cc (by unfold zP;exact (aC h2).trans ((aC (fun e=>h34 (.inl e))).trans ((aC (fun e=>h34 (.inr e))).trans (aE (.inr h7))))) hrs2
 by_cases h6:i.op=6
 · refine aK 2 [] ?_;refine eG 1 fun b1=>?_;refine aS 9 [1] ?_;refine gY (α:=SV) T.sl182 ?_;refine jS 0 0 T.one191 ?_;refine aS 43 [1,0,1,0,1,0,1] ?_;refine iW 41 ?_;refine aS 19 [1,0,1] ?_;refine rQ 53 ?_;refine aS 11 [1,1] ?_;refine cU 2 U (XR _ i hc1 hc2) fun v1 G1 Ho1 hle1 hp=>?_;obtain ⟨ri1,rfl,hri1,rfl⟩:=hp;replace hg:=hg.up hle1;replace haR:=haR.up hle1;refine cU 2 U (CY _ _ _ _ _ sV sV m hm2 sV sV hy0 sV) fun v2 G2 Ho2 hle2 hp=>?_;obtain ⟨rv2,rfl,hrv2,rfl⟩:=hp;replace hri1:=hri1.up hle2;replace hg:=hg.up hle2;replace haR:=haR.up hle2;refine aY 8 [] ?_;refine gD (.inr U) (Ho:=[(0,o.map (·.block),Row 191 r j)]) U (.tmp U) (.tmp U) ⟨U,I3⟩ ?_;exact CZ (by unfold zP;exact (aC h2).trans ((aC (fun e=>h34 (.inl e))).trans ((aC (fun e=>h34 (.inr e))).trans ((aC (by omega)).trans (aE (.inl h6)))))) hrv2
 have h8:i.op=8:=sU;refine aK 2 [] ?_;refine eG 1 fun b1=>?_;refine aS 9 [1] ?_;refine gY (α:=SV) T.sl182 ?_;refine jS 0 0 T.one191 ?_;refine aS 43 [1,0,1,0,1,0,1] ?_;refine iW 41 ?_;refine aS 19 [1,0,1] ?_;refine iW 53 ?_;refine aS 14 [1,1,1] ?_;refine cU 2 U (XR _ i hc1 hc2) fun v1 G1 Ho1 hle1 hp=>?_;obtain ⟨ri1,rfl,hri1,rfl⟩:=hp;replace hg:=hg.up hle1;replace haR:=haR.up hle1;refine cU 2 U (CY _ _ _ _ _ sV sV m hm2 sV sV hy0 sV) fun v2 G2 Ho2 hle2 hp=>?_;obtain ⟨rv2,rfl,hrv2,rfl⟩:=hp;replace hri1:=hri1.up hle2;replace hg:=hg.up hle2;replace haR:=haR.up hle2;refine aY 8 [] ?_;refine gD (.inr U) (Ho:=[(0,o.map (·.block),Row 191 r j)]) U (.tmp U) (.tmp U) ⟨U,I3⟩ ?_;exact CZ (by unfold zP;exact (aC h2).trans ((aC (fun e=>h34 (.inl e))).trans ((aC (fun e=>h34 (.inr e))).trans ((aC (by omega)).trans (aE (.inr h8)))))) hrv2
end
theorem Mi {m k:Nat} {xs:List Int} {f:Int→Int} (h:∀ x:Int,(x.natAbs:Int)<pw m→((f x).natAbs:Int)<pw k) (hx:Go.Sl.Below m xs):Go.Sl.Below k (xs.map f):=fun z hz=>by
 obtain ⟨x,h1,rfl⟩:=cT.1 hz;exact h x (hx x h1)
theorem Wq {m k:Nat} {xs ys:List Int} {f:Int→Int→Int} (h:∀ x y:Int,(x.natAbs:Int)<pw m→(y.natAbs:Int)<pw m→((f x y).natAbs:Int)<pw k) (hx:Go.Sl.Below m xs) (hy:Go.Sl.Below m ys):Go.Sl.Below k (List.zipWith f xs ys):=fun z hz=>by
 rw [gP] at hz;obtain ⟨n,hn,rfl⟩:=hz;rw [List.getElem_zipWith];exact h _ _ (hx _ (bY _)) (hy _ (bY _))
theorem XV (m:Nat):65536*pw m≤pw (5+m):=by
 rw [←zN];exact Wf sU
theorem DA {i:I5} {rs:List (List Int)} {m N:Nat} {x:List Int} (he:D7 m N rs) (ha:0≤i.a∧i.a<rs.length) (hb:i.op=3∨i.op=4→0≤i.b∧i.b<rs.length)
 (hz:i.op=5∨i.op=7→((cst i).natAbs:Int)<pw 5) (h:zP i rs=some x):x.length=N∧Go.Sl.Below (5+m) x:=by
 obtain ⟨haL,haB⟩:=he.at ha;have h5:=XV m;have hp:=yU m;unfold zP at h;simp only at h;split at h
 · cases h;exact ⟨by rw [aT];exact haL,Mi (fun x hx=>by omega) haB⟩
 split at h
 · rename_i h3;obtain ⟨hbL,hbB⟩:=he.at (hb (.inl h3));cases h;exact ⟨by rw [jG,haL,hbL,pU],Wq (fun x y hx hy=>by omega) haB hbB⟩
 split at h
 · rename_i h4;obtain ⟨hbL,hbB⟩:=he.at (hb (.inr h4));cases h;exact ⟨by rw [jG,haL,hbL,pU],Wq (fun x y hx hy=>by omega) haB hbB⟩
 split at h
 · rename_i h57;cases h;exact ⟨by rw [aT];exact haL,Mi (fun x hx=>Mg (hz h57) hx) haB⟩
 split at h
 · split at h
   · cases h;refine ⟨by rw [aT];exact haL,Mi (fun x hx=>?_) haB⟩;have h1:(x / cst i).natAbs≤x.natAbs:=Int.natAbs_ediv_le_natAbs _ _;omega
   cases h
 cases h;exact ⟨haL,haB.mono sU⟩
theorem Rj {p:PV} {gs:List (List Int)} {m N:Nat} (hg:D7 m N gs) (h0:0<gs.length):D7 m N (vR p gs):=fun zs hz=>by
 unfold vR at hz;obtain ⟨k,hk,rfl⟩:=cT.1 hz;have hN:=(hg.at (k:=0) sU).1;split
 · exact hg.at (k:=(k:Int)) sU
 refine ⟨by rw [aM];exact hN,fun z hz=>?_⟩;rw [iZ hz];exact yU m
theorem DC {m N:Nat} {rs:List (List Int)} {x:List Int} (h:D7 m N rs) (hx:x.length=N∧Go.Sl.Below m x) (k:Nat):D7 m N (rs.set k x):=fun zs hz=>by
 rcases eM hz with h1 | h1
 · exact h zs h1
 rw [h1];exact hx
theorem D7.mono {m k N:Nat} {rs:List (List Int)} (h:D7 m N rs) (hk:m≤k):D7 k N rs:=fun zs hz=>⟨(h zs hz).1,(h zs hz).2.mono hk⟩
theorem DD {G:A2} {r:List SV} {rs:List (List Int)} {k:Nat} {s:SV} (h:∀ q:Nat,q<k→C1 G (r[q]?.getD default) (rs[q]?.getD [])) (hk:k<r.length) (hs:C1 G s (rs[k]?.getD [])):∀ q:Nat,q<k+1→C1 G ((r.set k s)[q]?.getD default) (rs[q]?.getD []):=fun q hq=>by
 rw [cE];by_cases he:k=q
 · subst he;rw [aE rfl,aE hk];exact hs
 rw [aC he];exact h q sU
theorem JU {G G':A2} {r:List SV} {rs:List (List Int)} {k:Nat} (h:∀ q:Nat,q<k→C1 G (r[q]?.getD default) (rs[q]?.getD [])) (hl:G.le G'):∀ q:Nat,q<k→C1 G' (r[q]?.getD default) (rs[q]?.getD []):=fun q hq=>(h q hq).up hl
theorem NK {p:PV} {rs:List (List Int)} {q:Nat} (hq:q<p.outs.length) :
 (wV p rs).take (q+1)=(wV p rs).take q++[rs[(p.outs[((q:Nat):Int).toNat]?.getD default).toNat]?.getD []]:=by
 have h1:q<(wV p rs).length:=by unfold wV;rw [aT];exact hq
 have h2:(wV p rs)[q]=rs[(p.outs[q]).toNat]?.getD []:=gE _;rw [gH h1,h2,aG,aA hq];rfl
section
attribute [local irreducible] sY pw vG p2
theorem js (G:A2) (p:PV) (ac ao ga:J0 Addr) (cc co gc:Nat) (gl:List SV) (gs:List (List Int)) (N:Nat) (hc:Arr G ac p.code) (ho:Arr G ao p.outs) (hga:Arr G ga gl) (hgg:D5 G gl gs) (hev:D7 4 N gs) (hN:N≤1048576) (hR:sW p=true) (hgi:(gl.length:Int)=p.ins) (hcl:p.code.length≤16384) :
 Does Tryz.prog 114 [.agg (J1 p ac cc ao co),.slice ga gl.length gc] G [] (fun v G' Ho=>∃ sv bad ov,v=.tuple #[sv,.int .i64 bad,ov]∧(tJ p gs=none→0≤bad∧ov=.slice none 0 0)∧
  (∀ os,tJ p gs=some os→bad=-1∧∃ (oa:J0 Addr) (oc:Nat) (ol:List SV),ov=.slice oa ol.length oc∧Arr G' oa ol∧D5 G' ol os)∧Ho=[]):=by
 obtain ⟨f1,f2,f3,f4,f5,f6,f7,f8⟩:=sZ hR;have hgl:=hgg.1;obtain ⟨R,hRR⟩:∃ R:Nat,p.regs=(R:Int):=⟨p.regs.toNat,by omega⟩
 refine D0 Tryz.func114 Tryz.ntmps114 fun w=>?_;have hM:p.regs.toNat=R:=sU;have hrl0:=vW p gs;rw [hM] at hrl0;have hgl0:0<gl.length:=sU;have h0R:=hgg.at (m:=0) sU;obtain ⟨h0L,h0B⟩:=hev.at (k:=0) sU;have h0n:(gl[(0:Int).toNat]?.getD default).n≤1048576:=by rw [h0R.len,h0L];exact hN
 refine aK 2 [] ?_;refine eG 0 fun b1=>?_;refine aS 9 [0] ?_;refine gM (α:=SV) 1 U T.sl182 T.el191 U U sU sU fun b2=>?_;refine bG 10 [] ?_;rw [hM];have hown:∀ r:List SV,r.length=R→A3 (some ⟨b2,0,none⟩) R r []:=fun r hr=>.inr ⟨b2,U,by rw [hr];rfl,by omega,by simp only [maxLen];omega⟩;refine kY 7 U (show _=Value.slice (some ⟨b2,0,none⟩) (List.replicate R (default:SV)).length R by rw [aM]) ?_;refine Wc.lg (ι:=Nat×A2×List SV) (fun (k,Gx,r)=>([(8,.int .i64 (k:Int)),(7,.slice (some ⟨b2,0,none⟩) r.length R),(6,.slice none 0 0),(5,.int .i64 0),(4,.slice none 0 0),(2,.pointer (some ⟨b1,0,none⟩)),(1,.slice ga (List.length gl) gc)],[(1,some b2,Row 191 r []),(0,some b1,.cells (J1 p ac cc ao co) 26)])) (fun (k,Gx,r)=>Gx) (fun (k,Gx,r)=>k≤R∧G.le Gx∧r.length=R∧∀ q:Nat,q<k→C1 Gx (r[q]?.getD default) ((vR p gs)[q]?.getD [])) (fun (k,Gx,r)=>R - k) ((0,G,List.replicate R (default:SV))) (⟨aP _,cX _,aM,fun q hq=>by omega⟩) fun ⟨k,Gx,r⟩=>fun hk=>?_;obtain ⟨hk0,hgx,hrR,hrow⟩:=hk;replace hc:=hc.up hgx;replace ho:=ho.up hgx;replace hga:=hga.up hgx;replace hgg:=hgg.up hgx;have hor:=hown r hrR;rcases aN k R with hkR | hkR
 · by_cases hkg:k<gl.length
   · refine aK 19 [0,1] ?_;refine gG (α:=SV) T.sl182 ?_;refine fS U (eE T.one191 U (jO sV sU 0 U U)) ?_;refine fS U (Qy.len T.sl191 U) ?_;refine cU 2 U (jr _ _ sV) fun v1 G1 Ho1 hle1 hp=>?_;obtain ⟨⟨zo1,zc1,zl1,rfl,hzA1,hzN1,hzl1⟩,rfl⟩:=hp;replace hc:=hc.up hle1;replace ho:=ho.up hle1;replace hga:=hga.up hle1;replace hgg:=hgg.up hle1;refine gY (α:=SV) T.sl182 ?_;refine dJ (z:=⟨zo1,zl1.length,zc1⟩) 1 T.size191 U U U sV sU U fun ho1=>?_;refine aS 16 [1] ?_;refine gG (α:=SV) T.sl182 ?_;refine kT 0 T.one191 ?_;refine gY (α:=SV) T.sl182 ?_;refine dJ (z:=gl[(k:Int).toNat]?.getD default) 1 T.size191 U U U sV (by rw [aI];omega) U fun ho2=>?_;refine aY 8 [] ?_;rw [aG,List.set_set];refine dW 7 U (show _=Value.slice (some ⟨b2,0,none⟩) (r.set k (gl[k]?.getD default)).length R by rw [aI]) ?_;refine cO ((k+1,G1,r.set k (gl[k]?.getD default))) ?_ ?_
     · refine ⟨by omega,bL hgx hle1,by rw [aI];exact hrR,DD (JU hrow hle1) sU ?_⟩;rw [Fw sU,aE (by omega)];exact hgg.2 k hkg
     show R - (k+1)<R - k;omega
   refine aK 19 [0,1] ?_;refine gG (α:=SV) T.sl182 ?_;refine fS U (eE T.one191 U (jO sV sU 0 U U)) ?_;refine fS U (Qy.len T.sl191 U) ?_;refine cU 2 U (jr _ _ sV) fun v1 G1 Ho1 hle1 hp=>?_;obtain ⟨⟨zo1,zc1,zl1,rfl,hzA1,hzN1,hzl1⟩,rfl⟩:=hp;replace hc:=hc.up hle1;replace ho:=ho.up hle1;replace hga:=hga.up hle1;replace hgg:=hgg.up hle1;refine gY (α:=SV) T.sl182 ?_;refine dJ (z:=⟨zo1,zl1.length,zc1⟩) 1 T.size191 U U U sV sU U fun ho1=>?_;refine aY 19 [0] ?_;rw [aG];refine dW 7 U (show _=Value.slice (some ⟨b2,0,none⟩) (r.set k (⟨zo1,zl1.length,zc1⟩:SV)).length R by rw [aI]) ?_;refine cO ((k+1,G1,r.set k (⟨zo1,zl1.length,zc1⟩:SV))) ?_ ?_
   · refine ⟨by omega,bL hgx hle1,by rw [aI];exact hrR,DD (JU hrow hle1) sU ?_⟩;rw [Fw sU,aC (by omega)];refine ⟨zl1,U,hzl1,hzA1,?_⟩;have e:=hzN1;rw [h0R.len] at e;exact e
   show R - (k+1)<R - k;omega
 have hg0:D5 Gx r (vR p gs):=⟨by omega,fun q hq=>hrow q sU⟩
 have he0:D7 4 N (vR p gs):=Rj hev sU;refine bJ 27 [0,0] ?_;refine dK 3 (Row 191 ([]:List SV) []) ?_;refine nN (ι:=Nat×A2×List SV×List (List Int)×List SV×(J0 Addr×Nat×List Value)) (fun (i,Gy,r2,rs,st,(o,d,j))=>([(10,.int .i64 (i:Int)),(9,.slice o st.length d),(7,.slice (some ⟨b2,0,none⟩) r2.length R),(2,.pointer (some ⟨b1,0,none⟩))],[(3,o.map (·.block),Row 191 st j),(1,some b2,Row 191 r2 []),(0,some b1,.cells (J1 p ac cc ao co) 26)])) (fun (i,Gy,r2,rs,st,(o,d,j))=>Gy) (fun (i,Gy,r2,rs,st,(o,d,j))=>i≤p.code.length∧Gx.le Gy∧r2.length=R∧D5 Gy r2 rs∧D7 (4+5*i) N rs∧wQ p gs i=some rs∧A3 o d st j∧st.length=i) (fun (i,Gy,r2,rs,st,(o,d,j))=>p.code.length - i) ((0,Gx,r,vR p gs,[],(none,0,[]))) (⟨aP _,cX _,hrR,hg0,he0,U,dN,U⟩) U ⟨U,U,U,U,I3⟩ ⟨U,U,U,I3⟩ fun ⟨i,Gy,r2,rs,st,(o,d,j)⟩=>fun hk=>?_;obtain ⟨hi0,hgy,hr2,hg2,he2,hrun,hob,hst⟩:=hk;replace hc:=hc.up hgy;replace ho:=ho.up hgy;have hor2:=hown r2 hr2;have hg2l:=hg2.1;rcases aN i p.code.length with hic | hic
 · have hmem:(p.code[(i:Int).toNat]?.getD default)∈p.code:=by
    rw [aG,aA hic];exact bY hic
   obtain ⟨m1,m2,m3,m4,m5,m6,m7,m8⟩:=tZ (f8 _ hmem);have m3':0≤(p.code[(i:Int).toNat]?.getD default).a∧(p.code[(i:Int).toNat]?.getD default).a<r2.length:=sU;have m2':0≤(p.code[(i:Int).toNat]?.getD default).to∧(p.code[(i:Int).toNat]?.getD default).to<r2.length:=sU;have he9:=D7.at he2 (k:=(p.code[(i:Int).toNat]?.getD default).a) sU;obtain ⟨ci,hci⟩:∃ ci,ci=p.code[(i:Int).toNat]?.getD default:=⟨_,U⟩
   refine aK 20 [0,1,0] ?_;refine gG (α:=I5) T.sl23 ?_;refine mL T.agg91 ?_;refine aB 1 [] ?_;refine cU 1 U (sg _ (p.code[(i:Int).toNat]?.getD default) (some ⟨b2,0,none⟩) R r2 [] rs (4+5*i) N hor2 hg2 he2 hN sU m1 m3' (fun h=>by have:=m4 h;omega) m5 sU m6 m7 m8) fun v1 G1 Ho1 hle1 hp=>?_;obtain ⟨rv,rfl,hrv,rfl⟩:=hp;by_cases hd:zP (p.code[((i:Nat):Int).toNat]?.getD default) rs=none
   · have hd2:¬zP (p.code[(i:Int).toNat]?.getD default) rs≠none:=fun h=>h hd;refine aS 11 [] ?_;refine aZ (eJ U) ?_;refine aY 19 [1] ?_;refine Yw (.inr U) (Ho:=[]) U (.tmp U) (.tmp U) (.tmp U) I3 ?_;have hfn:=HG hrun hd hic;exact ⟨_,(i:Int),_,U,fun _=>⟨mH i,U⟩,fun os h=>(by rw [hfn] at h;cases h),U⟩
   obtain ⟨zs,hzs⟩:=Option.ne_none_iff_exists'.1 hd;obtain ⟨s,rfl,hs⟩:=hrv zs hzs;have hok:zP (p.code[(i:Int).toNat]?.getD default) rs≠none:=hd;replace hc:=hc.up hle1;replace ho:=ho.up hle1;replace hg2:=hg2.up hle1;refine aS 11 [] ?_;refine aZ (eJ U) ?_;refine bG 2 [] ?_;refine cF (fun hc1=>?_) fun hc1=>?_;refine bE 16 [] ?_;rotate_left;refine aK 8 [0] ?_;refine gG (α:=I5) T.sl23 ?_;refine aB 1 [] ?_;refine kT 1 T.one3 ?_;refine aB 1 [] ?_;refine gY (α:=SV) T.sl182 ?_;refine dJ (z:=_) 1 T.size191 U U U sV sU U fun ho1=>?_;refine aS 5 [] ?_;refine eH (α:=SV) 4 [⟨_,_,_⟩] U T.sl182 T.el191 U U U U U fun b3=>?_;refine iP (α:=SV) 3 T.sl182 T.el191 (eP 4 U) fun a2 c2 junk2 ho2=>?_;refine aY 9 [] ?_;rotate_left
   · exact absurd hok hc1
   refine dW 7 U (show _=Value.slice (some ⟨b2,0,none⟩) (r2.set (p.code[(i:Int).toNat]?.getD default).to.toNat s).length R by rw [aI]) ?_;refine cO ((i+1,G1,r2.set (p.code[(i:Int).toNat]?.getD default).to.toNat s,rs.set (p.code[(i:Int).toNat]?.getD default).to.toNat zs,st++[s],(a2,c2,junk2))) ?_ ?_
   · have hx:=DA (i:=p.code[(i:Int).toNat]?.getD default) he2 sU (fun h=>by have:=m4 h;omega) (fun h=>(m6 sU sU sU sU).2) hzs;refine ⟨by omega,bL hgy hle1,by rw [aI];exact hr2,hg2.set _ hs,?_,Es (x:=[]) hrun hzs,by assumption,by rw [aD];show st.length+1=i+1;omega⟩;rw [show 4+5*(i+1)=5+(4+5*i) by omega];exact DC (he2.mono sU) hx _
   show p.code.length - (i+1)<p.code.length - i;omega
 have hie:i=p.code.length:=sU;subst hie;have hfo:tJ p gs=some (wV p rs):=by unfold tJ;rw [hrun];rfl
 have hol:(wV p rs).length=p.outs.length:=by unfold wV;rw [aT]
 refine bJ 28 [0,0] ?_;refine dK 4 (Row 191 ([]:List SV) []) ?_;refine fY (ι:=Nat×List SV×(J0 Addr×Nat×List Value)) (fun (q,ol,(oo,od,oj))=>([(14,.int .i64 (q:Int)),(13,.slice oo ol.length od),(9,.slice o (List.length st) d),(7,.slice (some (Addr.mk b2 0 none)) (List.length r2) R),(2,.pointer (some ⟨b1,0,none⟩))],[(4,oo.map (·.block),Row 191 ol oj),(3,Option.map (fun x=>Go.Addr.block x) o,Row (α:=Go.Sl.SV) 191 (st) (j)),(1,some b2,Row (α:=Go.Sl.SV) 191 (r2) ([])),(0,some b1,.cells (J1 p ac cc ao co) 26)])) (fun (q,ol,(oo,od,oj))=>q≤p.outs.length∧ol.length=q∧D5 Gy ol ((wV p rs).take q)∧A3 oo od ol oj) (fun (q,ol,(oo,od,oj))=>p.outs.length - q) ((0,[],(none,0,[]))) (⟨aP _,U,by rw [dP];exact D5.nil _,dN⟩) ⟨U,U,U,U,U,I3⟩ ⟨U,U,U,U,I3⟩ fun ⟨q,ol,(oo,od,oj)⟩=>fun hk=>?_;obtain ⟨hq0,hql,hqg,hqo⟩:=hk;rcases aN q p.outs.length with hqc | hqc
 · have hmem:(p.outs[(q:Int).toNat]?.getD default)∈p.outs:=by
    rw [aG,aA hqc];exact bY hqc
   have hrr:=f7 _ hmem;have hrr2:0≤(p.outs[(q:Int).toNat]?.getD default)∧(p.outs[(q:Int).toNat]?.getD default)<r2.length:=sU;have hss:=hg2.at hrr2;refine aK 21 [0,1,0] ?_;refine gG (α:=Int) T.sl24 ?_;refine kT 0 T.one3 ?_;refine gY (α:=SV) T.sl182 ?_;refine jS 1 0 T.one191 ?_;refine eH (α:=SV) 5 [⟨_,_,_⟩] U T.sl182 T.el191 U U U U U fun b3=>?_;refine iP (α:=SV) 4 T.sl182 T.el191 (eP 5 U) fun a1 c1 junk1 ho1=>?_;refine aY 9 [] ?_;refine cO ((q+1,ol++[r2[(p.outs[(q:Int).toNat]?.getD default).toNat]?.getD default],(a1,c1,junk1))) ?_ ?_
   · exact ⟨by omega,by rw [aD];show ol.length+1=q+1;omega,by rw [NK hqc];exact hqg.snoc hss,by assumption⟩
   show p.outs.length - (q+1)<p.outs.length - q;omega
 refine bE 26 [0,0] ?_;rw [dU sU] at hqg;refine fO 4 U hqo fun G9 hle9 hA=>?_;refine Yw (.inr U) (Ho:=[]) U (.tmp U) (.tmp U) (.tmp U) I3 ?_;exact ⟨_,-1,_,U,fun h=>(by rw [hfo] at h;cases h),fun os h=>(by rw [hfo] at h;cases h;exact ⟨U,oo,od,ol,U,hA,hqg.up hle9⟩),U⟩
end
def Below (m:Nat) (zs:List Int):Prop:=∀ z∈zs,(z.natAbs:Int)<pb m
theorem Below.at {m:Nat} {zs:List Int} (h:Below m zs) (k:Nat):((zs[k]?.getD 0).natAbs:Int)<pb m:=by
 rcases aN k zs.length with h1 | h1
 · rw [aA h1];exact h _ (bY h1)
 rw [bV h1];exact cw m
section
attribute [local irreducible] Dt pb vG uG p2
end
def near (a b:Int):Prop:=-16≤a∧a≤16∧-16≤b∧b≤16
instance (a b:Int):Decidable (near a b):=inferInstanceAs (Decidable (_∧_))
theorem jt (G:A2) (n:Int):Does Tryz.prog 128 [.int .i64 n] G [] (fun v G' Ho=>v=.bool (decide (-16≤n∧n≤16))∧G'=G∧Ho=[]):=by
 refine D0 Tryz.func128 Tryz.ntmps128 fun w=>?_;refine aK 10 [] ?_;apply bS 3 5 8 U;intro hg1;refine aB 5 [] ?_;exact cC 3 0;intro hg1;refine aB 3 [] ?_;exact cC 3 0;refine aY 4 [] ?_;refine cG ?_;exact ⟨U,U,U⟩
theorem si (G:A2) (n:Int) (h:-9223372036854775807≤n):Does Tryz.prog 264 [.int .i64 n] G [] (fun v G' Ho=>v=.int .i64 (n.natAbs:Int)∧G'=G∧Ho=[]):=by
 refine D0 Tryz.func264 Tryz.ntmps264 fun w=>?_;refine bJ 12 [] ?_;refine cF (fun hc1=>?_) fun hc1=>?_;refine aK 3 [] ?_;refine aZ (qL U sU) ?_;refine aY 5 [] ?_;refine cG ?_;rotate_left;refine bE 9 [] ?_;refine cG ?_;rotate_left
 · exact ⟨by congr 1;omega,U,U⟩
 exact ⟨by congr 1;omega,U,U⟩
theorem ju (G:A2) (a b:Int) (h1:-4611686018427387904≤a∧a≤4611686018427387904) (h2:-4611686018427387904≤b∧b≤4611686018427387904):Does Tryz.prog 227 [.int .i64 a,.int .i64 b] G [] (fun v G' Ho=>v=.int .i64 (Int.gcd a b:Int)∧G'=G∧Ho=[]):=by
 refine D0 Tryz.func227 Tryz.ntmps227 fun w=>?_;refine bJ 7 [] ?_;refine gZ (ι:=Int×Int) (fun (x,y)=>([(0,.int .i64 x),(1,.int .i64 y),(4,.int .i64 0)],[])) (fun (x,y)=>Int.gcd x y=Int.gcd a b∧(-4611686018427387904≤x∧x≤4611686018427387904)∧(-4611686018427387904≤y∧y≤4611686018427387904)) (fun (x,y)=>y.natAbs) ((a,b)) (⟨U,h1,h2⟩) fun ⟨x,y⟩=>fun hk=>?_;obtain ⟨hg,hx,hy⟩:=hk;refine bJ 7 [] ?_;refine cF (fun hc1=>?_) fun hc1=>?_;refine bJ 3 [] ?_;refine dL [] [] T.mixed [[0],[1],[2]] ?_;refine fH 3 [] U (sJ U U sU) ?_;refine eO [[4],[5]] ?_;refine eU ?_;refine sE ?_;rotate_left;refine aK 8 [] ?_;refine cZ U (si _ _ sU) ?_;refine aY 4 [] ?_;refine cG ?_;rotate_left
 · have e:=Int.natAbs_tmod x y;have hyp:0<y.natAbs:=sU;have e2:=pT x.natAbs hyp;have e3:=Nat.mod_le x.natAbs y.natAbs;refine cO ((y,x.tmod y)) ?_ ?_
   · refine ⟨?_,hy,by omega⟩;rw [←hg];show Nat.gcd y.natAbs (x.tmod y).natAbs=Nat.gcd x.natAbs y.natAbs;rw [e,Nat.gcd_comm,←Nat.gcd_rec,Nat.gcd_comm]
   show (x.tmod y).natAbs<y.natAbs;omega
 refine ⟨?_,U,U⟩;rw [←hg];have e:y=0:=sU;subst e;rw [Int.gcd_zero_right]
theorem c72 (G:A2) (a b:Int):Does Tryz.prog 72 [.agg #[.int .i64 a,.int .i64 b]] G [] (fun v G' Ho=>v=.bool (decide (near a b))∧G'=G∧Ho=[]):=by
 refine D0 Tryz.func72 Tryz.ntmps72 fun w=>?_;refine aK 2 [] ?_;refine eG 0 fun b1=>?_;refine aS 7 [0] ?_;refine cZ U (by apply jt <;> first | assumption | omega | rfl) ?_;refine aB 1 [] ?_;apply bS 4 6 10 U;intro hg1;refine aB 5 [0] ?_;refine cZ U (by apply jt <;> first | assumption | omega | rfl) ?_;refine aB 1 [] ?_;exact cC 4 0;intro hg1;refine aB 4 [] ?_;exact cC 4 0;refine aY 4 [] ?_;refine cG ?_;exact ⟨by congr 1;exact decide_eq_decide.mpr (by unfold near;omega),U,U⟩
theorem jv (G:A2) (a b:Int):Does Tryz.prog 105 [.agg #[.int .i64 a,.int .i64 b]] G [] (fun v G' Ho=>v=.bool (decide (a=0∧b=0))∧G'=G∧Ho=[]):=by
 refine D0 Tryz.func105 Tryz.ntmps105 fun w=>?_;refine aK 2 [] ?_;refine eG 0 fun b1=>?_;refine aS 6 [0] ?_;refine aZ (cQ (cs:=[_,_]) T.st52 U U U) ?_;refine aZ (Yy [_,_] [_,_] T.ai52 U U U U) ?_;refine aY 4 [] ?_;refine cG ?_;exact ⟨by congr 1;exact decide_eq_decide.mpr tW,U,U⟩
theorem c69 (G:A2) (a b:Int):Does Tryz.prog 69 [.agg #[.int .i64 a,.int .i64 b]] G [] (fun v G' Ho=>v=.bool (decide (near a b))∧G'=G∧Ho=[]):=by
 refine D0 Tryz.func69 Tryz.ntmps69 fun w=>?_;refine aK 2 [] ?_;refine eG 0 fun b1=>?_;refine aS 9 [0] ?_;apply bS 4 6 10 U;intro hg1;refine aB 7 [0] ?_;exact cC 4 0;intro hg1;refine aB 4 [] ?_;exact cC 4 0;refine aB 1 [] ?_;apply bS 4 11 15 U;intro hg1;refine aB 7 [0] ?_;exact cC 4 0;intro hg1;refine aB 4 [] ?_;exact cC 4 0;refine aB 1 [] ?_;apply bS 4 16 20 U;intro hg1;refine aB 7 [0] ?_;exact cC 4 0;intro hg1;refine aB 4 [] ?_;exact cC 4 0;refine aY 4 [] ?_;refine cG ?_;exact ⟨by congr 1;exact decide_eq_decide.mpr (by unfold near;omega),U,U⟩
theorem c70 (G:A2) (a b:Int):Does Tryz.prog 70 [.agg #[.int .i64 a,.int .i64 b]] G [] (fun v G' Ho=>v=.bool (decide (a=0∧b=0))∧G'=G∧Ho=[]):=by
 refine D0 Tryz.func70 Tryz.ntmps70 fun w=>?_;refine aK 2 [] ?_;refine eG 0 fun b1=>?_;refine aS 9 [0] ?_;apply bS 4 6 10 U;intro hg1;refine aB 7 [0] ?_;exact cC 4 0;intro hg1;refine aB 4 [] ?_;exact cC 4 0;refine aY 4 [] ?_;refine cG ?_;exact ⟨U,U,U⟩
def vK (a b:Int):Int:=if b<0∨(b=0∧a<0) then -(Int.gcd a b:Int) else (Int.gcd a b:Int)
def JV (a b:Int):Int×Int:=if a=0∧b=0 then (a,b) else (a.tdiv (vK a b),b.tdiv (vK a b))
theorem xO (a g:Int):-(a.natAbs:Int)≤a.tdiv g∧a.tdiv g≤a.natAbs:=by
 have h:(a.tdiv g).natAbs=a.natAbs / g.natAbs:=mC a g;have h2:=Nat.div_le_self a.natAbs g.natAbs;omega
theorem jx (G:A2) (a b:Int) (h1:-4611686018427387904≤a∧a≤4611686018427387904) (h2:-4611686018427387904≤b∧b≤4611686018427387904):Does Tryz.prog 201 [.agg #[.int .i64 a,.int .i64 b]] G [] (fun v G' Ho=>v=.agg #[.int .i64 (JV a b).1,.int .i64 (JV a b).2]∧G'=G∧Ho=[]):=by
 refine D0 Tryz.func201 Tryz.ntmps201 fun w=>?_;have hga:=sQ a b;have hgb:=sC a b;have hgm:(Int.gcd a b:Int)≤4611686018427387904:=by
  by_cases h:a=0
  · subst h;rw [Int.gcd_zero_left];omega
  have:=Int.le_of_dvd (show 0<(a.natAbs:Int) by omega) (Int.dvd_natAbs.mpr hga);omega
 have q1:=xO a (Int.gcd a b:Int);have q2:=xO b (Int.gcd a b:Int);have q3:=xO a (-(Int.gcd a b:Int));have q4:=xO b (-(Int.gcd a b:Int));refine aK 2 [] ?_;refine eG 0 fun b1=>?_;refine aV 1 U T.zero52 fun b2=>?_;refine aS 8 [0,0] ?_;refine cZ U (ju _ _ _ sU sU) ?_;refine bG 12 [] ?_;refine cF (fun hc1=>?_) fun hc1=>?_;refine bE 9 [0,1] ?_;refine cW (.inr U) (Ho:=Hp.only _ []) U (.agg 1 U U T.agg52) (bH _ _) ?_;rotate_left;refine bJ 9 [0] ?_;refine cF (fun hc2=>?_) fun hc2=>?_;refine aK 5 [1] ?_;refine aZ (qL U sU) ?_;refine bG 5 [] ?_;refine dL [0,1] [(1,9)] T.mixed [[0],[1,0],[2]] ?_;refine fH 3 [] U (nV U U sU sU) ?_;refine eO [[4],[5,0],[6]] ?_;refine fH 7 [] U (nV U U sU sU) ?_;refine fH 8 [] U (cQ (cs:=[_,_]) T.st52 U U U) ?_;refine dB 9 ?_;refine aB 1 [1] ?_;refine fB ?_;refine fI 2 [] ?_;refine cW (.inr U) (Ho:=Hp.only _ []) U (.agg 1 U U T.agg52) (bH _ _) ?_;rotate_left;refine aK 5 [0] ?_;apply bS 4 20 24 U;intro hg1;refine aB 7 [0] ?_;exact cC 4 0;intro hg1;refine aB 4 [] ?_;exact cC 4 0;refine bG 3 [] ?_;refine cF (fun hc3=>?_) fun hc3=>?_;refine aK 2 [] ?_;refine aZ (qL U sU) ?_;refine bG 5 [] ?_;refine dL [0,1] [(1,9)] T.mixed [[0],[1,0],[2]] ?_;refine fH 3 [] U (nV U U sU sU) ?_;refine eO [[4],[5,0],[6]] ?_;refine fH 7 [] U (nV U U sU sU) ?_;refine fH 8 [] U (cQ (cs:=[_,_]) T.st52 U U U) ?_;refine dB 9 ?_;refine aB 1 [1] ?_;refine fB ?_;refine fI 2 [] ?_;refine cW (.inr U) (Ho:=Hp.only _ []) U (.agg 1 U U T.agg52) (bH _ _) ?_;rotate_left;refine bJ 4 [] ?_;refine dL [0,1] [(1,9)] T.mixed [[0],[1,0],[2]] ?_;refine fH 3 [] U (nV U U sU sU) ?_;refine eO [[4],[5,0],[6]] ?_;refine fH 7 [] U (rU U U sU) ?_;refine fH 8 [] U (cQ (cs:=[_,_]) T.st52 U U U) ?_;refine dB 9 ?_;refine aB 1 [1] ?_;refine fB ?_;refine fI 2 [] ?_;refine cW (.inr U) (Ho:=Hp.only _ []) U (.agg 1 U U T.agg52) (bH _ _) ?_;rotate_left
 · obtain ⟨ea,eb⟩:=Int.gcd_eq_zero_iff.mp (show Int.gcd a b=0 by omega);exact ⟨by unfold JV;rw [aE ⟨ea,eb⟩],U,U⟩
 · have hn:¬(a=0∧b=0):=sU;exact ⟨by unfold JV vK;rw [aC hn,aE (by omega)],U,U⟩
 · have hn:¬(a=0∧b=0):=sU;exact ⟨by unfold JV vK;rw [aC hn,aE (by omega)],U,U⟩
 have hn:¬(a=0∧b=0):=fun h=>hc1 (by rw [h.1,h.2];rfl);exact ⟨by unfold JV vK;rw [aC hn,aC (by omega),Int.tdiv_eq_ediv_of_nonneg (a:=b) sU],U,U⟩
def same (a b c d:Int):Prop:=JV a b=JV c d
instance (a b c d:Int):Decidable (same a b c d):=inferInstanceAs (Decidable (_=_))
theorem sk (G:A2) (a b c d:Int):Does Tryz.prog 154 [.agg #[.int .i64 a,.int .i64 b],.agg #[.int .i64 c,.int .i64 d]] G [] (fun v G' Ho=>v=.tuple #[.bool (decide (near a b∧near c d∧same a b c d)),.int .i64 (if near a b∧near c d then 0 else 2)]∧G'=G∧Ho=[]):=by
 refine D0 Tryz.func154 Tryz.ntmps154 fun w=>?_;refine aK 2 [] ?_;refine eG 0 fun b1=>?_;refine eG 1 fun b2=>?_;refine aS 8 [0] ?_;refine cZ U Nt ?_;refine aZ (eJ U) ?_;refine aB 1 [] ?_;apply cJ 4 9 13 U;intro hg1;refine aB 3 [1] ?_;refine cZ U Nt ?_;refine aB 1 [] ?_;refine aZ (eJ U) ?_;refine aB 1 [] ?_;exact cC 4 0;intro hg1;refine aB 4 [] ?_;exact cC 4 0;refine bG 2 [] ?_;refine cF (fun hc1=>?_) fun hc1=>?_;refine bE 8 [] ?_;refine jJ ?_;rotate_left;refine bJ 3 [] ?_;refine dL [0,1] [] T.mixed [[0,0],[2,1]] ?_;refine dB 1 ?_;refine cZ U (jx _ _ _ Vs Vs) ?_;refine cY 3 ?_;refine cZ U (jx _ _ _ Vs Vs) ?_;refine bW ?_;refine fH 4 [] U (Yy [_,_] [_,_] T.ai52 U U U U) ?_;refine eO [[5],[6]] ?_;refine eU ?_;refine fI 2 [] ?_;refine jJ ?_;rotate_left
 · exact ⟨by rw [aC (by unfold near at *;omega),bN (fun h=>absurd (And.intro h.1 h.2.1) Vs)],rfl,rfl⟩
 refine ⟨?_,U,U⟩;rw [aE (by unfold near at *;omega)];congr 4;exact decide_eq_decide.mpr (by unfold same near at *;rw [Prod.ext_iff];simp;omega)
theorem Po {a b c d:Int} (h:near a b) (k:near c d):-256≤a*d∧a*d≤256:=by
 unfold near at *;have h1:(a*d).natAbs≤16*16:=by rw [fM];exact gO sU sU
 omega
theorem sm (G:A2) (a b c d:Int):Does Tryz.prog 229 [.agg #[.int .i64 a,.int .i64 b],.agg #[.int .i64 c,.int .i64 d]] G [] (fun v G' Ho=>v=.tuple #[.int .i64 (if near a b∧near c d then a*d - c*b else 0),.int .i64 (if near a b∧near c d then 0 else 2)]∧G'=G∧Ho=[]):=by
 refine D0 Tryz.func229 Tryz.ntmps229 fun w=>?_;refine aK 2 [] ?_;refine eG 0 fun b1=>?_;refine eG 1 fun b2=>?_;refine aS 8 [0] ?_;refine cZ U Nt ?_;refine aZ (eJ U) ?_;refine aB 1 [] ?_;apply cJ 4 9 13 U;intro hg1;refine aB 3 [1] ?_;refine cZ U Nt ?_;refine aB 1 [] ?_;refine aZ (eJ U) ?_;refine aB 1 [] ?_;exact cC 4 0;intro hg1;refine aB 4 [] ?_;exact cC 4 0;refine bG 2 [] ?_;refine cF (fun hc1=>?_) fun hc1=>?_;refine bE 8 [] ?_;refine jJ ?_;rotate_left;refine aK 8 [0,1] ?_;refine aZ (kV U U) ?_;refine aB 4 [1,0] ?_;refine aZ (kV U U) ?_;refine aZ (Jn U U) ?_;refine aY 5 [] ?_;refine jJ ?_;rotate_left
 · exact ⟨by rw [aC (by unfold near at *;omega),aC (by unfold near at *;omega)],U,U⟩
 have hn:near a b∧near c d:=Vs;have m1:=Po hn.1 hn.2;have m2:=Po hn.2 hn.1;exact ⟨by rw [aE hn,aE hn,iI (a*d) sU,iI (c*b) sU,iI _ sU],U,U⟩
def Zn (p q:R2):Prop:=near p.a p.b∧near q.a q.b∧same p.a p.b q.a q.b
def Twin (l:List R2):Prop:=∃ j,j<l.length∧∃ i,i<j∧Zn (l[i]?.getD default) (l[j]?.getD default)
theorem jy (G:A2) (a:J0 Addr) (c:Nat) (l:List R2) (ha:Arr G a l) (h1:l.length≤1048576) (hc:l.length≤c):Does Tryz.prog 106 [.slice a l.length c] G [] (fun v G' Ho=>∃ (i j:Int) (b:Bool),v=.tuple #[.int .i64 i,.int .i64 j,.bool b]∧(b=true↔Twin l)∧G'=G∧Ho=[]):=by
 refine D0 Tryz.func106 Tryz.ntmps106 fun w=>?_;refine bJ 16 [] ?_;refine gZ (ι:=Nat) (fun j=>([(13,.int .i64 (j:Int)),(12,.int .i64 (l.length:Int)),(11,.slice a (List.length l) c),(0,.slice a (List.length l) c)],[])) (fun j=>j≤l.length∧(∀ j',j'<j→∀ i,i<j'→¬Zn (l[i]?.getD default) (l[j']?.getD default))) (fun j=>l.length - j) (0) (⟨aP _,fun j' h=>absurd h sU⟩) fun j=>fun hk=>?_;obtain ⟨hj,hno⟩:=hk;refine bJ 6 [] ?_;refine cF (fun hc1=>?_) fun hc1=>?_;refine aK 7 [] ?_;refine gG (α:=R2) T.sl22 ?_;refine mL T.agg52 ?_;refine aV 0 U T.zero52 fun b1=>?_;refine aS 8 [0] ?_;refine aZ (Jq T.sl22 U U sU) ?_;refine bG 5 [] ?_;rotate_left;refine bE 13 [] ?_;refine lL ?_;rotate_left
 · have haj:Arr G (B7 a c 0 2) (l.take j):=RC ha j;have ej:(l.take j).length=j:=by rw [bM];omega
   refine kY 20 U (show _=Value.slice (B7 a c 0 2) (l.take j).length c by rw [ej];rfl) ?_;refine gZ (ι:=Nat) (fun i=>([(22,.int .i64 (i:Int)),(0,.slice a l.length c),(11,.slice a l.length c),(12,.int .i64 (l.length:Int)),(20,.slice (Go.Sl.B7 a c 0 2) (List.length (List.take j l)) c),(21,.int .i64 (↑(Int.toNat (↑j:Int)):Int)),(5,.int .i64 (↑j:Int)),(6,.pointer (some ⟨b1,0,none⟩)),(13,.int .i64 (↑j:Int))],[(0,some b1,.cells (List.toArray (A0.enc (Option.getD l[Int.toNat (↑j:Int)]? default))) 52)])) (fun i=>i≤j∧(∀ i',i'<i→¬Zn (l[i']?.getD default) (l[j]?.getD default))) (fun i=>j - i) (0) (⟨aP _,fun i' h=>absurd h sU⟩) fun i=>fun hk=>?_;obtain ⟨hi,hni⟩:=hk;have eti:i<j→(l.take j)[(i:Int).toNat]?.getD default=l[i]?.getD default:=fun h=>by rw [mG,aE (by omega)];rfl
   have etj:l[(j:Int).toNat]?.getD default=l[j]?.getD default:=rfl;refine bJ 6 [] ?_;refine cF (fun hc2=>?_) fun hc2=>?_;refine aK 7 [] ?_;refine gG (α:=R2) T.sl22 ?_;refine mL T.agg52 ?_;refine aV 1 U T.zero52 fun b2=>?_;refine aS 8 [1,1,0] ?_;refine cZ U (by apply sk <;> first | assumption | omega | rfl) ?_;refine bG 12 [] ?_;refine cF (fun hc3=>?_) fun hc3=>?_;refine bE 19 [] ?_;refine lL ?_;rotate_left;refine bE 7 [] ?_;rotate_left;refine bE 10 [] ?_;rotate_left
   · rw [eti sU] at hc3;exact ⟨_,_,true,U,⟨fun _=>⟨j,by omega,i,by omega,hc3⟩,fun _=>rfl⟩,U,U⟩
   · refine dW 22 U (show _=Value.int .i64 ((i+1:Nat):Int) from U) ?_;refine cO (i+1) ?_ ?_
     · refine ⟨by omega,fun i' h2=>?_⟩;rcases aN i' i with h | h
       · exact hni i' h
       have e:i'=i:=sU;subst e;intro hq;rw [eti sU] at hc3;exact hc3 hq
     omega
   refine dW 13 U (show _=Value.int .i64 ((j+1:Nat):Int) from U) ?_;refine cO (j+1) ?_ ?_
   · refine ⟨by omega,fun j' h1 i h2=>?_⟩;rcases aN j' j with h | h
     · exact hno j' h i h2
     have e:j'=j:=sU;subst e;exact hni i sU
   omega
 refine ⟨0,0,false,U,⟨fun h=>absurd h tI,fun ⟨j',h1,i',h2,h3⟩=>absurd h3 (hno j' sU i' h2)⟩,U,U⟩
def Oz (p:R2):Prop:=near p.a p.b∧¬(p.a=0∧p.b=0)
def uO (l:List R2):Prop:=1≤l.length∧l.length≤15∧(∀ i,i<l.length→Oz (l[i]?.getD default))∧¬Twin l
theorem so (G:A2) (a:J0 Addr) (c:Nat) (l:List R2) (ha:Arr G a l) (h1:l.length≤1048576) (hc:l.length≤c):Does Tryz.prog 144 [.slice a l.length c] G [] (fun v G' Ho=>∃ b:Bool,v=.bool b∧(b=true↔uO l)∧G'=G∧Ho=[]):=by
 refine D0 Tryz.func144 Tryz.ntmps144 fun w=>?_;refine aK 12 [] ?_;apply cJ 4 11 15 U;intro hg1;refine aB 7 [] ?_;exact cC 4 0;intro hg1;refine aB 4 [] ?_;exact cC 4 0;refine bG 2 [] ?_;refine cF (fun hc1=>?_) fun hc1=>?_;refine bE 7 [] ?_;refine cG ?_;rotate_left;refine bJ 11 [] ?_;rotate_left
 · exact ⟨false,U,⟨fun h=>absurd h tI,fun h=>absurd h.1 (by have:=h.2.1;omega)⟩,U,U⟩
 refine gZ (ι:=Nat) (fun j=>([(18,.int .i64 (j:Int)),(0,.slice a l.length c),(17,.int .i64 (l.length:Int)),(16,.slice a (List.length l) c)],[])) (fun j=>j≤l.length∧(∀ i,i<j→Oz (l[i]?.getD default))) (fun j=>l.length - j) (0) (⟨aP _,fun j' h=>absurd h sU⟩) fun j=>fun hk=>?_;obtain ⟨hj,hno⟩:=hk;refine bJ 6 [] ?_;refine cF (fun hc2=>?_) fun hc2=>?_;refine aK 6 [] ?_;refine gG (α:=R2) T.sl22 ?_;refine mL T.agg52 ?_;refine aV 0 U T.zero52 fun b1=>?_;refine aS 6 [0,0] ?_;refine cZ U Nt ?_;refine aZ (eJ U) ?_;refine aB 1 [] ?_;apply cJ 3 25 28 U;intro hg1;refine aB 3 [0] ?_;refine cZ U (by apply jv <;> first | assumption | omega | rfl) ?_;refine aB 1 [] ?_;exact cC 3 0;intro hg1;refine aB 3 [] ?_;exact cC 3 0;refine bG 2 [] ?_;refine cF (fun hc3=>?_) fun hc3=>?_;refine bE 11 [] ?_;refine cG ?_;rotate_left;refine bE 7 [] ?_;rotate_left;refine aK 8 [] ?_;refine cU 0 U (jy _ _ _ _ sV sU xL) fun v1 G1 Ho1 hle1 hp=>?_;obtain ⟨ti1,tj1,tb1,rfl,htb1,rfl,rfl⟩:=hp;refine aY 17 [] ?_;refine cG ?_;rotate_left
 · exact ⟨false,U,⟨fun h=>absurd h tI,fun h=>absurd (h.2.2.1 j sU) (by show ¬Oz (l[(j:Int).toNat]?.getD default);unfold Oz;unfold near at *;omega)⟩,U,U⟩
 · refine dW 18 U (show _=Value.int .i64 ((j+1:Nat):Int) from U) ?_;refine cO (j+1) ?_ ?_
   · refine ⟨by omega,fun i' h2=>?_⟩;rcases aN i' j with h | h
     · exact hno i' h
     have e:i'=j:=sU;subst e;show Oz (l[(i':Int).toNat]?.getD default);unfold Oz;unfold near at *;omega
   omega
 refine ⟨!tb1,U,?_,U,U⟩;have e:(∀ i,i<l.length→Oz (l[i]?.getD default)):=fun i hi=>hno i sU;rw [eW,Bool.eq_false_iff,ne_eq,htb1];exact ⟨fun h=>⟨by omega,by omega,e,h⟩,fun h=>h.2.2.2⟩
theorem sq (G:A2) (a b c d:Int) (hp:near a b) (hq:near c d):Does Tryz.prog 127 [.agg #[.int .i64 a,.int .i64 b],.agg #[.int .i64 c,.int .i64 d]] G [] (fun v G' Ho=>v=.int .i64 (a*d - c*b)∧G'=G∧Ho=[]):=by
 refine D0 Tryz.func127 Tryz.ntmps127 fun w=>?_;have m1:=Po hp hq;have m2:=Po hq hp;refine aK 2 [] ?_;refine eG 0 fun b1=>?_;refine eG 1 fun b2=>?_;refine aS 9 [0,1] ?_;refine aZ (kH U U sU) ?_;refine aB 4 [1,0] ?_;refine aZ (kH U U sU) ?_;refine aY 5 [] ?_;refine cG ?_;exact ⟨U,U,U⟩
instance (a b c d:Int):Decidable (if (a=0∧b=0)∨(c=0∧d=0) then (a=0∧b=0)∧(c=0∧d=0) else a*d - c*b=0):=by split <;> infer_instance
def Mj (a b c d:Int):Prop:=if (a=0∧b=0)∨(c=0∧d=0) then (a=0∧b=0)∧(c=0∧d=0) else a*d - c*b=0
instance (a b c d:Int):Decidable (Mj a b c d):=inferInstanceAs (Decidable (if (a=0∧b=0)∨(c=0∧d=0) then (a=0∧b=0)∧(c=0∧d=0) else a*d - c*b=0))
theorem c71 (G:A2) (a b c d:Int) (hp:near a b) (hq:near c d):Does Tryz.prog 71 [.agg #[.int .i64 a,.int .i64 b],.agg #[.int .i64 c,.int .i64 d]] G [] (fun v G' Ho=>v=.bool (decide (Mj a b c d))∧G'=G∧Ho=[]):=by
 refine D0 Tryz.func71 Tryz.ntmps71 fun w=>?_;refine aK 2 [] ?_;refine eG 0 fun b1=>?_;refine eG 1 fun b2=>?_;refine aS 7 [0] ?_;refine cZ U BL ?_;refine aB 1 [] ?_;apply cJ 3 7 10 U;intro hg1;refine aB 3 [1] ?_;refine cZ U BL ?_;refine aB 1 [] ?_;exact cC 3 0;intro hg1;refine aB 3 [] ?_;exact cC 3 0;refine bG 2 [] ?_;refine cF (fun hc1=>?_) fun hc1=>?_;refine aK 3 [0] ?_;refine cZ U BL ?_;refine aB 1 [] ?_;apply bS 3 13 16 U;intro hg1;refine aB 3 [1] ?_;refine cZ U BL ?_;refine aB 1 [] ?_;exact cC 3 0;intro hg1;refine aB 3 [] ?_;exact cC 3 0;refine aY 5 [] ?_;refine cG ?_;rotate_left;refine aK 6 [0,1] ?_;refine cZ U (sq _ _ _ _ _ sV sV) ?_;refine aY 5 [] ?_;refine cG ?_;rotate_left
 · exact ⟨by congr 1;exact decide_eq_decide.mpr (by unfold Mj;rw [aE hc1]),U,U⟩
 exact ⟨by congr 1;exact decide_eq_decide.mpr (by unfold Mj;rw [aC hc1]),U,U⟩
def SL (p q:R2):Prop:=near p.a p.b∧near q.a q.b∧Mj p.a p.b q.a q.b
def aq (l:List R2):Prop:=∃ j,j<l.length∧∃ i,i<j∧SL (l[i]?.getD default) (l[j]?.getD default)
theorem Kf {y g:Int} (h:y*g<0) (hg:g<0):0<y:=by
 rcases mX y 0 with h1 | h1 | h1
 · have:=Int.mul_pos_of_neg_of_neg h1 hg;omega
 · subst h1;rw [eR] at h;omega
 exact h1
theorem Hz {y g:Int} (h:0<y*g) (hg:0<g):0<y:=by
 rcases mX y 0 with h1 | h1 | h1
 · have:=Int.mul_neg_of_neg_of_pos h1 hg;omega
 · subst h1;rw [eR] at h;omega
 exact h1
theorem Mk {a b:Int} (h:¬(a=0∧b=0)):∃ x y g:Int,JV a b=(x,y)∧g≠0∧x*g=a∧y*g=b∧Int.gcd x y=1∧(0<y∨(y=0∧0<x)):=by
 have hg0:0<Int.gcd a b:=by
  rcases fQ (Int.gcd a b) with h0 | h0
  · exact absurd (Int.gcd_eq_zero_iff.mp h0) h
  exact h0
 have hgn:vK a b≠0:=by unfold vK;split <;> omega
 have habs:(vK a b).natAbs=Int.gcd a b:=by unfold vK;split <;> omega
 have d1:vK a b ∣ a:=Int.natAbs_dvd.mp (by rw [habs];exact sQ a b);have d2:vK a b ∣ b:=Int.natAbs_dvd.mp (by rw [habs];exact sC a b);have e1:=kC d1;have e2:=kC d2;refine ⟨a.tdiv (vK a b),b.tdiv (vK a b),vK a b,by unfold JV;rw [aC h],hgn,e1,e2,?_,?_⟩
 · show Nat.gcd (a.tdiv (vK a b)).natAbs (b.tdiv (vK a b)).natAbs=1;rw [show (a.tdiv (vK a b)).natAbs=a.natAbs / (vK a b).natAbs from mC _ _,show (b.tdiv (vK a b)).natAbs=b.natAbs / (vK a b).natAbs from mC _ _,habs];exact Nat.coprime_div_gcd_div_gcd hg0
 generalize hx:a.tdiv (vK a b)=x at *;generalize hy:b.tdiv (vK a b)=y at *;rcases mX b 0 with hb | hb | hb
 · left;refine Kf (g:=vK a b) sU ?_;unfold vK;rw [aE (.inl hb)];omega
 · right;have hy0:y=0:=by
    rcases Int.mul_eq_zero.mp (show y*vK a b=0 by omega) with h1 | h1
    · exact h1
    exact absurd h1 hgn
   refine ⟨hy0,?_⟩;rcases (show a<0∨0≤a by omega) with ha | ha
   · refine Kf (g:=vK a b) sU ?_;unfold vK;rw [aE (.inr ⟨hb,ha⟩)];omega
   refine Hz (g:=vK a b) sU ?_;unfold vK;rw [aC (by omega)];omega
 left;refine Hz (g:=vK a b) sU ?_;unfold vK;rw [aC (by omega)];omega
theorem NL {x y u v:Int} (h1:Int.gcd x y=1) (h2:Int.gcd u v=1) (s1:0<y∨(y=0∧0<x)) (s2:0<v∨(v=0∧0<u)) (h:x*v=u*y):x=u∧y=v:=by
 have e:x.natAbs*v.natAbs=u.natAbs*y.natAbs:=by rw [←fM,←fM,h]
 have c1:Nat.Coprime x.natAbs y.natAbs:=h1;have c2:Nat.Coprime u.natAbs v.natAbs:=h2;have p1:x.natAbs ∣ u.natAbs:=c1.dvd_of_dvd_mul_right (e▸Nat.dvd_mul_right _ _);have p2:u.natAbs ∣ x.natAbs:=c2.dvd_of_dvd_mul_right (e▸Nat.dvd_mul_right _ _);have p3:y.natAbs ∣ v.natAbs:=c1.symm.dvd_of_dvd_mul_left (e▸Nat.dvd_mul_left _ _);have p4:v.natAbs ∣ y.natAbs:=c2.symm.dvd_of_dvd_mul_left (e▸Nat.dvd_mul_left _ _);have q1:=Nat.dvd_antisymm p1 p2;have q2:=Nat.dvd_antisymm p3 p4;have hyv:y=v:=sU;refine ⟨?_,hyv⟩;subst hyv;rcases s1 with s | s
 · exact oL sU h
 omega
theorem DE (a b c d:Int):same a b c d↔Mj a b c d:=by
 unfold same Mj;by_cases hp:a=0∧b=0
 · by_cases hq:c=0∧d=0
   · rw [aE (.inl hp)];obtain ⟨rfl,rfl⟩:=hp;obtain ⟨rfl,rfl⟩:=hq;exact ⟨fun _=>⟨⟨U,U⟩,U,U⟩,fun _=>rfl⟩
   rw [aE (.inl hp)];refine ⟨fun h=>?_,fun h=>absurd h.2 hq⟩;obtain ⟨u,v,k,e2,hk,_,_,_,s2⟩:=Mk hq;have e1:JV a b=(0,0):=by unfold JV;rw [aE hp,hp.1,hp.2]
   rw [e1,e2] at h;injection h with h3 h4;omega
 obtain ⟨x,y,g,e1,hg,f1,f2,c1,s1⟩:=Mk hp;by_cases hq:c=0∧d=0
 · rw [aE (.inr hq)];refine ⟨fun h=>?_,fun h=>absurd h.1 hp⟩;have e2:JV c d=(0,0):=by unfold JV;rw [aE hq,hq.1,hq.2]
   rw [e1,e2] at h;injection h with h3 h4;omega
 obtain ⟨u,v,k,e2,hk,f3,f4,c2,s2⟩:=Mk hq;rw [aC (fun h=>h.elim hp hq),e1,e2];have key:a*d - c*b=(x*v - u*y)*(g*k):=by
  rw [←f1,←f2,←f3,←f4,oY];congr 1 <;> ac_rfl
 constructor
 · intro h;injection h with h3 h4;rw [key,h3,h4,pY,eR]
 intro h;rw [key] at h;have hgk:g*k≠0:=fun h0=>(Int.mul_eq_zero.mp h0).elim hg hk;have h5:x*v - u*y=0:=(Int.mul_eq_zero.mp h).resolve_right hgk;obtain ⟨r1,r2⟩:=NL c1 c2 s1 s2 sU;rw [r1,r2]
theorem DF (l:List R2):Twin l↔aq l:=by
 unfold Twin aq Zn SL;simp only [DE]
section
attribute [local irreducible] Dt pb vG uG p2
def xP (a b:Int) (n:Nat):List Int:=(List.range n).map fun j=>a ^ j*b ^ (n - 1 - j)
end
section
attribute [local irreducible] Dt pb vG uG p2 uO xP
theorem jz (G:A2) (a:J0 Addr) (c:Nat) (l:List R2) (ha:Arr G a l) (h1:l.length≤1048576) (hc:l.length≤c) (hR:uO l):Does Tryz.prog 144 [.slice a l.length c] G [] (fun v G' Ho=>v=.bool true∧G'=G∧Ho=[]):=
 (so G a c l ha h1 hc).mono fun v G' Ho _ ⟨b,e1,e2,e3,e4⟩=>⟨by rw [e1,e2.2 hR],e3,e4⟩
def xJ (l:List R2):List (List Int):=l.map fun p=>xP p.a p.b l.length
end
section
attribute [local irreducible] Dt sY pb pw vG uG p2 uO xP
def small (z:Int):Prop:=z.natAbs<18446744073709551616
theorem JW {G:A2} {x:IV} {z:Int} (h:C3 G x z) (hz:small z):x.n≤4:=by
 obtain ⟨l,h1,_,_,h4⟩:=h;rw [←h1];refine h4.len ?_;have e:pw 4=18446744073709551616:=by unfold pw;decide
 unfold small at hz;omega
theorem Ml {c:Int} {e:Nat} (hc:-16≤c∧c≤16) (he:e≤15):small (c ^ e):=by
 unfold small;have e2:(c ^ e).natAbs≤16 ^ 15:=by
  rw [qQ];exact bP (rB (show c.natAbs≤16 by omega) e) (lF sU he)
 have e3:(16:Nat) ^ 15=1152921504606846976:=tI;omega
theorem ar (G:A2) (x y:IV) (zx zy:Int) (hx:C3 G x zx) (hy:C3 G y zy) (bx:small zx) (bz:small zy) :
 Does Tryz.prog 165 [.agg #[.bool x.neg,.slice x.a x.n x.c],.agg #[.bool y.neg,.slice y.a y.n y.c]] G [] (fun v G' Ho=>∃ r:IV,v=.agg #[.bool r.neg,.slice r.a r.n r.c]∧C3 G' r (zx*zy)∧Ho=[]):=by
 have f1:=JW hx bx;have f2:=JW hy bz;obtain ⟨n1,a,k1,ca⟩:=x;obtain ⟨n2,b,k2,cb⟩:=y;obtain ⟨la,rfl,hla,hA,hx⟩:=hx;obtain ⟨lb,rfl,hlb,hB,hy⟩:=hy;exact jl G n1 n2 a b ca cb la lb zx zy hA hB hx hy (bP f1 tI) (bP f2 tI)
theorem sr (G:A2) (x:IV) (z:Int) (e:Nat) (hx:C3 G x z) (hz:-16≤z∧z≤16) (he:e≤15) :
 Does Tryz.prog 166 [.agg #[.bool x.neg,.slice x.a x.n x.c],.int .i64 e] G [] (fun v G' Ho=>∃ r:IV,v=.agg #[.bool r.neg,.slice r.a r.n r.c]∧C3 G' r (z ^ e)∧Ho=[]):=by
 refine D0 Tryz.func166 Tryz.ntmps166 fun w=>?_;refine aK 2 [] ?_;refine eG 0 fun b1=>?_;refine aV 1 U T.zero190 fun b2=>?_;refine aS 4 [] ?_;refine cU 2 U (HE _ 1 tI) fun v1 G1 Ho1 hle1 hp=>?_;obtain ⟨ro1,rfl,hro1,rfl⟩:=hp;replace hx:=hx.up hle1;refine aV 2 U T.zero190 fun b3=>?_;refine bG 10 [2] ?_;refine Wc.lg (ι:=Nat×A2×IV) (fun (k,Gx,r)=>([(6,.int .i64 (k:Int)),(5,.pointer (some (Addr.mk b3 0 none))),(4,.pointer (some ⟨b2,0,none⟩)),(2,.pointer (some ⟨b1,0,none⟩)),(1,.int .i64 (↑e:Int))],[(2,some b3,.cells #[.bool r.neg,.slice r.a r.n r.c] 190),(1,some b2,.cells #[.bool Bool.false,.slice none 0 0] 190),(0,some b1,.cells #[.bool (Go.Sl.IV.neg x),.slice (Go.Sl.IV.a x) (Go.Sl.IV.n x) (Go.Sl.IV.c x)] 190)])) (fun (k,Gx,r)=>Gx) (fun (k,Gx,r)=>k≤e∧G1.le Gx∧C3 Gx r (z ^ k)) (fun (k,Gx,r)=>e - k) ((0,G1,ro1)) (⟨aP _,cX _,by rw [lU];exact hro1⟩) fun ⟨k,Gx,r⟩=>fun hk=>?_;obtain ⟨hk1,hk2,hk3⟩:=hk;rcases aN k e with hke | hke
 · have hx':=hx.up hk2;have s1:small (z ^ k):=Ml hz sU;have s2:small z:=by unfold small;omega
   refine aK 16 [1,2,0] ?_;refine cU 3 U (ar _ r x (z ^ k) z sV sV s1 s2) fun v2 G2 Ho2 hle2 hp=>?_;obtain ⟨rt2,rfl,hrt2,rfl⟩:=hp;replace hk3:=hk3.up hle2;replace hx':=hx'.up hle2;refine aY 9 [2] ?_;refine dW 6 U (show _=Value.int .i64 ((k+1:Nat):Int) from U) ?_;refine cO ((k+1,_,rt2)) ?_ ?_
   · exact ⟨by omega,bL hk2 sV,by rw [gI];exact hrt2⟩
   show e - (k+1)<e - k;omega
 have hke:k=e:=sU;subst hke;refine bE 21 [0,2,1] ?_;refine cW (.inr U) (Ho:=Hp.only _ []) U (.agg 1 U U T.agg190) (bH _ _) ?_;exact ⟨_,U,hk3,U⟩
theorem au (G:A2) (x:IV) (z e:Int) (hx:C3 G x z) (hz:-16≤z∧z≤16) (he:0≤e∧e≤15) :
 Does Tryz.prog 166 [.agg #[.bool x.neg,.slice x.a x.n x.c],.int .i64 e] G [] (fun v G' Ho=>∃ r:IV,v=.agg #[.bool r.neg,.slice r.a r.n r.c]∧C3 G' r (z ^ e.toNat)∧Ho=[]):=by
 obtain ⟨k,rfl⟩:∃ k:Nat,e=(k:Int):=⟨e.toNat,by omega⟩
 exact sr G x z k hx hz sU
theorem ka (G:A2) (a b:Int) (n:Nat) (hp:near a b) (hn:n≤15) :
 Does Tryz.prog 116 [.agg #[.int .i64 a,.int .i64 b],.int .i64 n] G [] (fun v G' Ho=>∃ (s:J0 Addr) (r:List IV) (c':Nat),v=.slice s r.length c'∧Arr G' s r∧C4 G' r (xP a b n)∧r.length≤c'∧Ho=[]):=by
 refine D0 Tryz.func116 Tryz.ntmps116 fun w=>?_;refine dK 9 (Row 190 ([]:List IV) []) ?_;refine aK 2 [] ?_;refine eG 10 fun b1=>?_;refine bG 15 [] ?_;refine nN (ι:=Nat×A2×List IV×(J0 Addr×Nat×List Value)) (fun (k,Gx,r,(o,d,j))=>([(6,.int .i64 (k:Int)),(5,.slice o r.length d),(4,.slice none 0 0),(2,.pointer (some ⟨b1,0,none⟩)),(1,.int .i64 (↑n:Int))],[(9,o.map (·.block),Row 190 r j),(10,some b1,.cells #[.int .i64 a,.int .i64 b] 52)])) (fun (k,Gx,r,(o,d,j))=>Gx) (fun (k,Gx,r,(o,d,j))=>k≤n∧G.le Gx∧r.length=k∧C4 Gx r ((xP a b n).take k)∧A3 o d r j) (fun (k,Gx,r,(o,d,j))=>n - k) ((0,G,[],(none,0,[]))) (⟨aP _,cX _,U,by rw [dP];exact C4.nil _,dN⟩) U ⟨U,U,U,U,U,I3⟩ ⟨U,U,I3⟩ fun ⟨k,Gx,r,(o,d,j)⟩=>fun hk=>?_;obtain ⟨hk1,hk2,hk3,hk4,hk5⟩:=hk;rcases aN k n with hke | hke
 · have s1:small (a ^ (k:Int).toNat):=Ml Qn sU;have s2:small (b ^ ((n:Int) - 1 - (k:Int)).toNat):=Ml Qn sU;refine bJ 13 [1] ?_;refine dL [10,9] [(9,16)] T.mixed [[0],[1],[2,10],[4],[6],[7,10],[9],[10],[11],[12]] ?_;refine dB 3 ?_;refine cU 11 U (HE _ _ Qn) fun v1 G1 Ho1 hle1 hp=>?_;obtain ⟨ro1,rfl,hro1,rfl⟩:=hp;replace hk4:=hk4.up hle1;refine cY 5 ?_;refine cU 11 U (au _ _ _ _ sV Qn sU) fun v2 G2 Ho2 hle2 hp=>?_;obtain ⟨rp2,rfl,hrp2,rfl⟩:=hp;replace hro1:=hro1.up hle2;replace hk4:=hk4.up hle2;refine cY 8 ?_;refine cU 11 U (HE _ _ Qn) fun v3 G3 Ho3 hle3 hp=>?_;obtain ⟨ro3,rfl,hro3,rfl⟩:=hp;replace hrp2:=hrp2.up hle3;replace hro1:=hro1.up hle3;replace hk4:=hk4.up hle3;refine cY 13 ?_;refine cU 11 U (au _ _ _ _ sV Qn sU) fun v4 G4 Ho4 hle4 hp=>?_;obtain ⟨rp4,rfl,hrp4,rfl⟩:=hp;replace hro3:=hro3.up hle4;replace hrp2:=hrp2.up hle4;replace hro1:=hro1.up hle4;replace hk4:=hk4.up hle4;refine cY 14 ?_;refine cU 11 U (ar _ _ _ _ _ hrp2 hrp4 s1 s2) fun v5 G5 Ho5 hle5 hp=>?_;obtain ⟨rt5,rfl,hrt5,rfl⟩:=hp;replace hrp4:=hrp4.up hle5;replace hro3:=hro3.up hle5;replace hrp2:=hrp2.up hle5;replace hro1:=hro1.up hle5;replace hk4:=hk4.up hle5;refine cY 15 ?_;refine eH (α:=IV) 11 [⟨_,_,_,_⟩] U T.sl186 T.el190 U U U U U fun b2=>?_;refine cY 16 ?_;refine iP (α:=IV) 9 T.sl186 T.el190 (eP 11 U) fun a1 c1 junk1 ho1=>?_;refine bW ?_;refine eO [[17]] ?_;refine eU ?_;refine fI 7 [] ?_;refine dW 6 U (show _=Value.int .i64 ((k+1:Nat):Int) from U) ?_;refine cO ((k+1,_,r++[rt5],(a1,c1,junk1))) ?_ ?_
   · refine ⟨by omega,bL hk2 Hl,by rw [aD,hk3];rfl,?_,ho1⟩;have e:(xP a b n).take (k+1)=(xP a b n).take k++[a ^ (k:Int).toNat*b ^ ((n:Int) - 1 - (k:Int)).toNat]:=by
      rw [dA];congr 1;unfold xP;rw [bQ,eF hke,aG,show ((n:Int) - 1 - (k:Int)).toNat=n - 1 - k by omega];rfl
     rw [e];exact hk4.snoc hrt5
   show n - (k+1)<n - k;omega
 have hie:k=n:=sU;subst hie;have e:(xP a b k).take k=xP a b k:=dU (by unfold xP;simp);rw [e] at hk4;refine bE 21 [0] ?_;refine fO 9 U hk5 fun G8 hle8 hA8=>?_;refine cG ?_;exact ⟨_,_,_,U,hA8,hk4.up hle8,hk5.le,U⟩
end
section
attribute [local irreducible] Dt sY pb pw vG uG p2 uO xP
def I0 (G:A2) (s:SV) (zs:List Int):Prop:=∃ l:List IV,l.length=s.n∧s.n≤s.c∧Arr G s.a l∧C4 G l zs
theorem I0.up {G G':A2} {s:SV} {zs:List Int} (h:I0 G s zs) (hl:G.le G'):I0 G' s zs:=by
 obtain ⟨l,h1,h2,h3,h4⟩:=h;exact ⟨l,h1,h2,h3.up hl,h4.up hl⟩
def D3 (G:A2) (l:List SV) (rs:List (List Int)):Prop:=l.length=rs.length∧∀ i:Nat,i<l.length→I0 G (l[i]?.getD default) (rs[i]?.getD [])
theorem D3.up {G G':A2} {l:List SV} {rs:List (List Int)} (h:D3 G l rs) (hl:G.le G'):D3 G' l rs:=⟨h.1,fun i hi=>(h.2 i hi).up hl⟩
theorem D3.nil (G:A2):D3 G [] []:=⟨U,fun i hi=>by simp at hi⟩
theorem D3.snoc {G:A2} {l:List SV} {rs:List (List Int)} (h:D3 G l rs) {s:SV} {zs:List Int} (hs:I0 G s zs):D3 G (l++[s]) (rs++[zs]):=by
 refine ⟨by rw [aD,aD,h.1];rfl,fun i hi=>?_⟩;rw [aD,gF] at hi;rcases aN i l.length with h1 | h1
 · rw [bC h1,bC (by rw [←h.1];exact h1)];exact h.2 i h1
 have:i=l.length:=sU;subst this;rw [cS (aH _),cS (by rw [h.1];exact aH _),iX,h.1,iX];exact hs
theorem su (G:A2) (a:J0 Addr) (c:Nat) (l:List R2) (ha:Arr G a l) (h1:l.length≤1048576) (hc:l.length≤c) (hr1:l.length≤15) (hr2:∀ i,i<l.length→Oz (l[i]?.getD default)) :
 Does Tryz.prog 118 [.slice a l.length c] G [] (fun v G' Ho=>∃ (s:J0 Addr) (r:List SV) (c':Nat),v=.slice s r.length c'∧Arr G' s r∧D3 G' r (xJ l)∧r.length≤c'∧Ho=[]):=by
 refine D0 Tryz.func118 Tryz.ntmps118 fun w=>?_;refine dK 9 (Row 191 ([]:List SV) []) ?_;refine bJ 17 [] ?_;refine nN (ι:=Nat×A2×List SV×(J0 Addr×Nat×List Value)) (fun (i,Gx,r,(o,d,j))=>([(4,.int .i64 (i:Int)),(3,.slice o r.length d),(2,.slice none 0 0),(0,.slice a (List.length l) c)],[(9,o.map (·.block),Row 191 r j)])) (fun (i,Gx,r,(o,d,j))=>Gx) (fun (i,Gx,r,(o,d,j))=>i≤l.length∧G.le Gx∧r.length=i∧D3 Gx r ((xJ l).take i)∧A3 o d r j) (fun (i,Gx,r,(o,d,j))=>l.length - i) ((0,G,[],(none,0,[]))) (⟨aP _,cX _,U,by rw [dP];exact D3.nil _,dN⟩) U ⟨U,U,U,U,I3⟩ ⟨U,I3⟩ fun ⟨i,Gx,r,(o,d,j)⟩=>fun hk=>?_;obtain ⟨hi1,hi2,hi3,hi4,hi5⟩:=hk;replace ha:=ha.up hi2;rcases aN i l.length with hil | hil
 · have hnear:near (l[(i:Int).toNat]?.getD default).a (l[(i:Int).toNat]?.getD default).b:=(hr2 i hil).1;refine aK 18 [1] ?_;refine gG (α:=R2) T.sl22 ?_;refine mL T.agg52 ?_;refine aB 2 [] ?_;refine cU 10 U (ka _ _ _ l.length hnear sU) fun v1 G1 Ho1 hle1 hp=>?_;obtain ⟨ps1,pr1,pc1,rfl,hpA1,hpB1,hpL1,rfl⟩:=hp;replace ha:=ha.up hle1;refine eH (α:=SV) 10 [⟨_,_,_⟩] U T.sl182 T.el191 U U U U U fun b1=>?_;refine iP (α:=SV) 9 T.sl182 T.el191 (eP 10 U) fun a1 c1 junk1 ho1=>?_;refine aY 9 [] ?_;refine dW 4 U (show _=Value.int .i64 ((i+1:Nat):Int) from U) ?_;refine cO ((i+1,_,r++[⟨ps1,pr1.length,pc1⟩],(a1,c1,junk1))) ?_ ?_
   · refine ⟨by omega,bL hi2 sV,by rw [aD,hi3];rfl,?_,ho1⟩;have e:(xJ l).take (i+1)=(xJ l).take i++[xP (l[(i:Int).toNat]?.getD default).a (l[(i:Int).toNat]?.getD default).b l.length]:=by
      rw [dA];congr 1;unfold xJ;rw [bQ,aG,aA hil];rfl
     rw [e];exact D3.snoc (by first | assumption | exact hi4.up sV) ⟨pr1,U,hpL1,hpA1,hpB1⟩
   show l.length - (i+1)<l.length - i;omega
 have hie:i=l.length:=sU;subst hie;have e:(xJ l).take l.length=xJ l:=dU (by unfold xJ;rw [aT];exact aH _);rw [e] at hi4;refine bE 22 [0] ?_;refine fO 9 U hi5 fun G8 hle8 hA8=>?_;refine cG ?_;exact ⟨_,_,_,U,hA8,hi4.up hle8,hi5.le,U⟩
end
theorem DG (G:A2) (p:PV) (ac ao ga:J0 Addr) (cc co gc:Nat) (gl:List SV) (gs:List (List Int)) (N:Nat) (hc:Arr G ac p.code) (ho:Arr G ao p.outs) (hga:Arr G ga gl) (hgg:D5 G gl gs) (hev:D7 4 N gs) (hN:N≤1048576) (hR:sW p=true) (hgi:(gl.length:Int)=p.ins) (hcl:p.code.length≤16384) (hf:tJ p gs=none) :
 Does Tryz.prog 114 [.agg (J1 p ac cc ao co),.slice ga gl.length gc] G [] (fun v G' Ho=>∃ sv bad,v=.tuple #[sv,.int .i64 bad,.slice none 0 0]∧0≤bad∧Ho=[]):=by
 refine (js G p ac ao ga cc co gc gl gs N hc ho hga hgg hev hN hR hgi hcl).mono fun v G' Ho _ ⟨sv,bad,ov,e,h1,h2,h3⟩=>?_;obtain ⟨e1,e2⟩:=h1 hf;subst e2;exact ⟨sv,bad,e,e1,h3⟩
theorem Od (G:A2) (p:PV) (ac ao ga:J0 Addr) (cc co gc:Nat) (gl:List SV) (gs:List (List Int)) (N:Nat) (hc:Arr G ac p.code) (ho:Arr G ao p.outs) (hga:Arr G ga gl) (hgg:D5 G gl gs) (hev:D7 4 N gs) (hN:N≤1048576) (hR:sW p=true) (hgi:(gl.length:Int)=p.ins) (hcl:p.code.length≤16384) (os:List (List Int)) (hf:tJ p gs=some os) :
 Does Tryz.prog 114 [.agg (J1 p ac cc ao co),.slice ga gl.length gc] G [] (fun v G' Ho=>∃ sv oa oc ol,v=.tuple #[sv,.int .i64 (-1),.slice oa ol.length oc]∧Arr G' oa ol∧D5 G' ol os∧Ho=[]):=by
 refine (js G p ac ao ga cc co gc gl gs N hc ho hga hgg hev hN hR hgi hcl).mono fun v G' Ho _ ⟨sv,bad,ov,e,h1,h2,h3⟩=>?_;obtain ⟨e1,oa,oc,ol,e2,e3,e4⟩:=h2 os hf;subst e1 e2;exact ⟨sv,oa,oc,ol,e,e3,e4,h3⟩
theorem Et {p:PV} {gs os:List (List Int)} (h:tJ p gs=some os):os.length=p.outs.length:=by
 unfold tJ at h;obtain ⟨rs,h1,h2⟩:=fK.1 h;subst h2;unfold wV;rw [aT]
theorem SM (G:A2) (s t:SV) (xs ys:List Int) (hs:C1 G s xs) (ht:C1 G t ys) (m:Nat) (hm:m≤1073741824) (bx:Go.Sl.Below m xs) (by':Go.Sl.Below m ys) (h1:s.n≤1048576) (h2:t.n≤1048576) :
 Does Tryz.prog 121 [.slice s.a s.n s.c,.slice t.a t.n t.c] G [] (fun v G' Ho=>v=.bool (decide (xs=ys))∧G'=G∧Ho=[]):=by
 obtain ⟨sa,sn,sc⟩:=s;obtain ⟨ta,tn,tc⟩:=t;obtain ⟨l,hl,hc,hA,hN⟩:=hs;obtain ⟨l',hl',hc',hA',hN'⟩:=ht;simp only at hl hc hA h1 hl' hc' hA' h2;subst hl hl';exact ry G sa ta sc tc l l' xs ys hA hA' hN hN' m hm bx by' sU sU
theorem DH {p:PV} {gs:List (List Int)} {N:Nat} (hR:sW p=true) (hev:D7 4 N gs) (h0:0<gs.length):∀ (k:Nat) (rs:List (List Int)),k≤p.code.length→wQ p gs k=some rs→D7 (4+5*k) N rs∧rs.length=p.regs.toNat
 | 0,rs,_,h=>by
   cases h;exact ⟨Rj hev h0,vW p gs⟩
 | k+1,rs,hk,h=>by
   obtain ⟨f1,f2,f3,f4,f5,f6,f7,f8⟩:=sZ hR;unfold wQ at h;obtain ⟨rs0,h1,h2⟩:=mQ.1 h;obtain ⟨y,h3,h4⟩:=fK.1 h2;obtain ⟨he,hl⟩:=DH hR hev h0 k rs0 sU h1;subst h4;have hmem:(p.code[(k:Int).toNat]?.getD default)∈p.code:=by
    rw [aG,aA sU];exact bY _
   obtain ⟨m1,m2,m3,m4,m5,m6,m7,m8⟩:=tZ (f8 _ hmem);have hx:=DA (i:=p.code[(k:Int).toNat]?.getD default) he sU (fun h=>by have:=m4 h;omega) (fun h=>(m6 sU sU sU sU).2) h3;refine ⟨?_,by rw [aI];exact hl⟩;rw [show 4+5*(k+1)=5+(4+5*k) by omega];exact DC (he.mono sU) hx _
theorem Oe {p:PV} {gs os:List (List Int)} {N:Nat} (hR:sW p=true) (hev:D7 4 N gs) (h0:0<gs.length) (h:tJ p gs=some os):D7 (4+5*p.code.length) N os:=by
 obtain ⟨f1,f2,f3,f4,f5,f6,f7,f8⟩:=sZ hR;unfold tJ at h;obtain ⟨rs,h1,h2⟩:=fK.1 h;obtain ⟨he,hl⟩:=DH hR hev h0 _ rs (aH _) h1;subst h2;intro zs hz;unfold wV at hz;obtain ⟨r,hr,rfl⟩:=cT.1 hz;exact he.at (k:=r) (by have:=f7 r hr;omega)
theorem Iq {G:A2} {l:List SV} {rs:List (List Int)} (h:D3 G l rs):D5 G l rs:=⟨h.1,h.2⟩
theorem Eu (l:List R2):(xJ l).length=l.length:=by unfold xJ;rw [aT]
theorem Ws {a b:Int} {n:Nat} (h:near a b) (hn:n≤15):(xP a b n).length=n∧Go.Sl.Below 4 (xP a b n):=by
 refine ⟨by unfold xP;rw [aT,cM],fun z hz=>?_⟩;unfold xP at hz;obtain ⟨k,hk,rfl⟩:=cT.1 hz;have hk:=jD.1 hk;have e4:pw 4=18446744073709551616:=by unfold pw;decide
 have e:(a ^ k*b ^ (n - 1 - k)).natAbs≤16 ^ 15:=by
  rw [fM,qQ,qQ];refine bP (gO (rB (show a.natAbs≤16 by unfold near at h;omega) k) (rB (show b.natAbs≤16 by unfold near at h;omega) _)) ?_;rw [←Nat.pow_add];exact lF sU sU
 have e3:(16:Nat) ^ 15=1152921504606846976:=tI;omega
theorem HO {l:List R2} (h1:l.length≤15) (hr:∀ i,i<l.length→near (l[i]?.getD default).a (l[i]?.getD default).b):D7 4 l.length (xJ l):=fun zs hz=>by
 unfold xJ at hz;obtain ⟨p,hp,rfl⟩:=cT.1 hz;obtain ⟨i,hi,rfl⟩:=gP.1 hp;have:=hr i hi;rw [aA hi] at this;have this:near l[i].a l[i].b:=this;exact Ws this h1
def vS (n j:Nat):List Int:=(List.replicate n 0).set j 1
theorem Wt {G:A2} {n j:Nat} {x:IV} (hx:C3 G x 1) (hj:j<n):C4 G ((List.replicate n (default:IV)).set j x) (vS n j):=by
 unfold vS;refine ⟨by rw [aI,aI,aM,aM],fun i hi=>?_⟩;rw [aI,aM] at hi;rw [cE,cE];by_cases h:j=i
 · subst h;rw [aE rfl,aE rfl,aE (by rw [aM];exact hj),aE (by rw [aM];exact hj)];exact hx
 rw [aC h,aC h,dZ,dZ,aE hi,aE hi];exact C3.zero G
theorem Rk (n j m:Nat) (hm:1≤m):Go.Sl.Below m (vS n j):=by
 have h1:pw 1=65536:=by unfold pw;decide
 refine Go.Sl.Below.mono (m:=1) (fun z hz=>?_) hm;unfold vS at hz;rcases eM hz with h | h
 · rw [iZ h,h1];decide
 rw [h,h1];decide
def Aj (p:PV) (l:List R2):Prop:=sW p=true∧p.ins=l.length∧p.outs.length=l.length∧tJ p (xJ l)=some ((List.range l.length).map (vS l.length))
instance (p:PV) (l:List R2):Decidable (Aj p l):=inferInstanceAs (Decidable (_∧_))
section
attribute [local irreducible] Dt sY pb pw vG uG p2 xP xJ tJ sW
theorem kb (G:A2) (n:Nat) (hn:n≤1048576) :
 Does Tryz.prog 119 [.int .i64 (n:Int)] G [] (fun v G' Ho=>∃ b,v=.slice (some ⟨b,0,none⟩) (List.replicate n (default:IV)).length n∧G'=G∧A3 (some ⟨b,0,none⟩) n (List.replicate n (default:IV)) []∧Ho=[(0,some b,Row 190 (List.replicate n (default:IV)) [])]):=by
 refine D0 Tryz.func119 Tryz.ntmps119 fun w=>?_;refine aK 8 [] ?_;refine gM (α:=IV) 0 U T.sl191 T.el190 U U sU sU fun b1=>?_;refine aY 4 [] ?_;have e:(List.replicate ((n:Int)).toNat (default:IV)).length=n:=Ql;refine cW (.inr U) (Ho:=[(0,some b1,Row 190 (List.replicate n (default:IV)) [])]) U (.tmp U) ⟨U,I3⟩ ?_;refine ⟨b1,by simp,rfl,.inr ⟨b1,rfl,by rw [aM];rfl,by rw [aM];exact aH _,by simp only [maxLen];omega⟩,U⟩
theorem c59 (G:A2) (p:PV) (ac ao a:J0 Addr) (cc co c:Nat) (l:List R2) (hc:Arr G ac p.code) (ho:Arr G ao p.outs) (ha:Arr G a l) (hcl:p.code.length≤16384) (hol:p.outs.length≤1099511627776) (hlc:l.length≤c) (hr0:1≤l.length) (hr1:l.length≤15) (hr2:∀ i,i<l.length→Oz (l[i]?.getD default)) :
 Does Tryz.prog 59 [.agg (J1 p ac cc ao co),.slice a l.length c] G [] (fun v G' Ho=>v=.bool (decide (Aj p l))∧Ho=[]):=by
 have hr:∀ i,i<l.length→near (l[i]?.getD default).a (l[i]?.getD default).b:=fun i hi=>(hr2 i hi).1;have hev:=HO hr1 hr;refine D0 Tryz.func59 Tryz.ntmps59 fun w=>?_;refine aK 2 [] ?_;refine eG 0 fun b1=>?_;refine aS 6 [0] ?_;refine cZ U (po _ p _ _ _ _ sV sV sU sU) ?_;refine aS 7 [] ?_;refine aZ (eJ U) ?_;refine aB 1 [] ?_;apply cJ 6 15 21 U;intro hg1;refine aB 11 [0] ?_;exact cC 6 0;intro hg1;refine aB 6 [] ?_;exact cC 6 0;refine aB 1 [] ?_;apply cJ 7 22 29 U;intro hg1;refine aB 13 [0] ?_;exact cC 7 0;intro hg1;refine aB 7 [] ?_;exact cC 7 0;refine bG 2 [] ?_;refine cF (fun hc1=>?_) fun hc1=>?_;refine bE 7 [] ?_;rotate_left;refine bJ 3 [] ?_;refine dL [0] [(0,3)] T.mixed [[0,0],[1]] ?_;refine dB 2 ?_;refine cU 1 U (su _ _ _ l sV sU hlc hr1 hr2) fun v1 G1 Ho1 hle1 hp=>?_;obtain ⟨ws1,wr1,wc1,rfl,hwA1,hwB1,hwL1,rfl⟩:=hp;replace hc:=hc.up hle1;replace ho:=ho.up hle1;replace ha:=ha.up hle1;refine cY 3 ?_;rotate_left
 · refine cG ?_;refine ⟨?_,U⟩;congr 1;refine (bN fun h=>?_).symm;obtain ⟨h1,h2,h3,_⟩:=h;rcases hc1 with (h | h) | h
   · exact h h1
   · exact h h2
   omega
 have hR:sW p=true:=cV fun h=>hc1 (.inl (.inl h));have hpi:p.ins=l.length:=cV fun h=>hc1 (.inl (.inr h));have hpo:p.outs.length=l.length:=cV fun h=>hc1 (.inr sU);have hwl:wr1.length=l.length:=hwB1.1.trans (Eu l);cases hf:tJ p (xJ l) with
 | none =>
   refine cU 1 U (DG _ p _ _ _ _ _ _ _ (xJ l) l.length sV sV sV (Iq hwB1) hev sU hR sU hcl hf) fun v2 G2 Ho2 hle2 hp=>?_;obtain ⟨sv2,bad2,rfl,hbad2,rfl⟩:=hp;replace hwA1:=hwA1.up hle2;replace hc:=hc.up hle2;replace ho:=ho.up hle2;replace ha:=ha.up hle2;refine bW ?_;refine eO [[4],[5],[6],[7],[8],[9],[10]] ?_;refine eU ?_;refine fI 16 [1] ?_;refine cG ?_;refine ⟨?_,U⟩;congr 1;refine (bN fun h=>?_).symm;have h4:=h.2.2.2;rw [hf] at h4;cases h4
 | some os =>
   refine cU 1 U (Od _ p _ _ _ _ _ _ _ (xJ l) l.length sV sV sV (Iq hwB1) hev sU hR sU hcl os hf) fun v2 G2 Ho2 hle2 hp=>?_;obtain ⟨sv2,oa2,oc2,ol2,rfl,hoA2,hoG2,rfl⟩:=hp;replace hwA1:=hwA1.up hle2;replace hc:=hc.up hle2;replace ho:=ho.up hle2;replace ha:=ha.up hle2;refine bW ?_;refine eO [[4],[5],[6],[7],[8],[9],[10]] ?_;refine eU ?_;refine oS 18 [0] ?_;have hol2:ol2.length=l.length:=by rw [hoG2.1,Et hf,hpo]
   have hose:=Oe hR hev (by rw [Eu];omega) hf;refine Wc.lg (ι:=Nat×A2) (fun (j,Gx)=>([(9,.int .i64 (j:Int)),(8,.slice oa2 (List.length ol2) oc2),(1,.slice a (List.length l) c)],[(0,some b1,.cells (J1 p ac cc ao co) 26)])) (fun (j,Gx)=>Gx) (fun (j,Gx)=>j≤l.length∧G2.le Gx∧(∀ i,i<j→os[i]?.getD []=vS l.length i)) (fun (j,Gx)=>l.length - j) ((0,G2)) (⟨aP _,cX _,fun i h=>absurd h sU⟩) fun ⟨j,Gx⟩=>fun hk=>?_;obtain ⟨hj1,hj2,hj3⟩:=hk;replace ha:=ha.up hj2;replace hoA2:=hoA2.up hj2;rcases aN j l.length with hjl | hjl
   · refine aK 18 [1] ?_;refine cU 20 U (kb _ l.length sU) fun v3 G3 Ho3 hle3 hp=>?_;obtain ⟨ub,rfl,rfl,huo,rfl⟩:=hp;refine aS 7 [] ?_;refine cU 21 U (HE _ 1 tI) fun v4 G4 Ho4 hle4 hp=>?_;obtain ⟨ro4,rfl,hro4,rfl⟩:=hp;replace ha:=ha.up hle4;replace hoA2:=hoA2.up hle4;refine aZ (dM (α:=IV) T.sl191 U U huo Ql) ?_;refine dJ (α:=IV) (z:=ro4) 20 T.size190 U U U huo Ql U fun huo2=>?_;refine aS 6 [] ?_;refine gG (α:=SV) T.sl182 ?_;refine kT 0 T.one191 ?_;refine aB 1 [] ?_;have hRow:C1 G4 (ol2[(j:Int).toNat]?.getD default) (os[j]?.getD []):=(hoG2.up (bL hj2 hle4)).2 j sU;have hose2:(os[j]?.getD []).length=l.length∧Go.Sl.Below (4+5*p.code.length) (os[j]?.getD []):=hose.at (k:=(j:Int)) (by rw [Et hf];omega);refine jM 30 U T.fn121 U (fun Gy hGy hgy=>SM Gy (ol2[(j:Int).toNat]?.getD default) ⟨some ⟨ub,0,none⟩,(List.replicate l.length (default:IV)).length,l.length⟩ (os[j]?.getD []) (vS l.length j) (hRow.up hGy)
      ⟨(List.replicate l.length (default:IV)).set j ro4,by rw [aI],by rw [aM];exact aH _,gK hgy 20 U huo2,Wt (hro4.up hGy) hjl⟩ (4+5*p.code.length) sU hose2.2 (Rk _ _ _ sU) ?_ ?_) (fun v5 Gy5 G5 Ho5 hle5 hp=>?_)
     · obtain ⟨q,hq1,_,_,hq4⟩:=hRow;rw [←hq1,hq4.1,hose2.1];omega
     · show (List.replicate l.length (default:IV)).length≤1048576;rw [aM];omega
     obtain ⟨rfl,rfl,rfl⟩:=hp;refine aZ (eJ U) ?_;refine bG 2 [] ?_;refine cF (fun hc2=>?_) fun hc2=>?_;refine bE 11 [] ?_;rotate_left;refine bE 8 [] ?_;rotate_left
     · refine cG ?_;refine ⟨?_,U⟩;congr 1;refine (bN fun h=>?_).symm;have h4:=h.2.2.2;rw [hf] at h4;have h5:os=(List.range l.length).map (vS l.length):=jU h4;refine hc2 ?_;rw [h5,bQ,eF hjl];rfl
     refine dW 9 U (show _=Value.int .i64 ((j+1:Nat):Int) from U) ?_;refine cO ((j+1,_)) ?_ ?_
     · refine ⟨hjl,bL hj2 hle4,fun i hi=>?_⟩;rcases aN i j with h | h
       · exact hj3 i h
       have e:i=j:=sU;subst e;exact cV fun h=>hc2 h
     show l.length - (j+1)<l.length - j;omega
   have hje:j=l.length:=sU;subst hje;refine bE 21 [0] ?_;refine cG ?_;refine ⟨?_,U⟩;congr 1;refine (cL ⟨hR,hpi,hpo,?_⟩).symm;rw [hf];congr 1;have hosl:os.length=l.length:=by rw [Et hf,hpo]
   apply gS
   · rw [hosl,aT,cM]
   intro i h1 h2;have h3:=hj3 i sU;rw [aA h1] at h3;rw [gE,rL];exact h3
end
theorem kd (G:A2) (k:Int):Does Tryz.prog 103 [.int .i64 k] G [] (fun v G' Ho=>v=.bool (decide (1≤k∧k≤8))∧G'=G∧Ho=[]):=by
 refine D0 Tryz.func103 Tryz.ntmps103 fun w=>?_;refine dG ?_;refine dE U ?_;refine aB 1 [] ?_;refine eC ?_;refine cH ?_;refine dG ?_;refine dE U ?_;refine aB 3 [] ?_;apply bS 3 5 8 U;intro hg1;refine aB 5 [] ?_;exact cC 3 0;intro hg1;refine aB 3 [] ?_;exact cC 3 0;refine aB 1 [] ?_;refine eC ?_;refine cH ?_;refine mR ?_;refine cG ?_;exact ⟨U,U,U⟩
theorem sw (G:A2) (a:J0 Addr) (c:Nat) (l:List R2) (ha:Arr G a l) (h1:l.length≤1048576):Does Tryz.prog 153 [.slice a l.length c,.func (.func 105) #[] #[]] G [] (fun v G' Ho=>∃ z:Int,v=.int .i64 z∧(0≤z↔∃ i,i<l.length∧((l[i]?.getD default).a=0∧(l[i]?.getD default).b=0))∧G'=G∧Ho=[]):=by
 refine D0 Tryz.func153 Tryz.ntmps153 fun w=>?_;refine dG ?_;refine dE U ?_;refine aB 1 [] ?_;refine eC ?_;refine cH ?_;refine dG ?_;refine dG ?_;refine dE U ?_;refine aB 3 [] ?_;refine eC ?_;refine cH ?_;refine Wc.block ?_;refine gZ (ι:=Nat) (fun j=>([(8,.int .i64 (j:Int)),(0,.slice a l.length c),(1,.func (.func 105) #[] #[]),(7,.int .i64 (l.length:Int))],[])) (fun j=>j≤l.length∧∀ i,i<j→¬((l[i]?.getD default).a=0∧(l[i]?.getD default).b=0)) (fun j=>l.length - j) (0) (⟨aP _,fun j' h=>absurd h sU⟩) fun j=>fun hk=>?_;obtain ⟨hj,hno⟩:=hk;refine dG ?_;refine dE U ?_;refine aB 1 [] ?_;refine eC ?_;refine cH ?_;refine dG ?_;refine cF (fun hc1=>?_) fun hc1=>?_;refine kG ?_;refine cH ?_;refine dG ?_;refine Wc.block ?_;refine dG ?_;refine dE U ?_;refine aB 2 [] ?_;refine eC ?_;refine cH ?_;refine dG ?_;refine dE U ?_;refine aB 3 [] ?_;refine gG (α:=R2) T.sl22 ?_;refine mL T.agg52 ?_;rotate_left;refine Wc.exit ?_;refine qW ?_;refine qW ?_;refine JA ?_;refine cH ?_;refine dG ?_;refine dE U ?_;refine aB 1 [] ?_;refine eC ?_;refine cH ?_;refine mR ?_;refine cG ?_;rotate_left
 · refine kX (fst:=[]) (cap:=[]) 2 U T.fn105 U U (jv _ (l[(j:Int).toNat]?.getD default).a (l[(j:Int).toNat]?.getD default).b) (tB I3) fun v1 G1 Ho1 hle1 hp=>?_;obtain ⟨rfl,rfl,rfl⟩:=hp;refine eC ?_;refine cH ?_;refine cF (fun hc2=>?_) fun hc2=>?_;refine dG ?_;refine dE U ?_;refine aB 2 [] ?_;refine eC ?_;refine cH ?_;refine mR ?_;refine Lr ?_;refine qD ?_;refine qD ?_;refine Lr ?_;refine qD ?_;refine cG ?_;rotate_left;refine kG ?_;refine sE ?_;refine cH ?_;refine dE U ?_;refine aB 2 [] ?_;refine eC ?_;rotate_left
   · exact ⟨(j:Int),U,⟨fun _=>⟨j,by omega,hc2⟩,fun _=>by omega⟩,U,U⟩
   refine dW 8 U (show _=Value.int .i64 ((j+1:Nat):Int) from U) ?_;refine cO (j+1) ?_ ?_
   · refine ⟨by omega,fun i' h2=>?_⟩;rcases aN i' j with h | h
     · exact hno i' h
     have e:i'=j:=sU;subst e;exact hc2
   omega
 exact ⟨-1,U,⟨fun h=>absurd h sU,fun ⟨i,hi,h⟩=>absurd h (hno i sU)⟩,U,U⟩
theorem te (G:A2) (a:J0 Addr) (c:Nat) (l:List R2) (ha:Arr G a l) (h1:l.length≤1048576):Does Tryz.prog 104 [.slice a l.length c,.func (.func 105) #[] #[]] G [] (fun v G' Ho=>∃ b:Bool,v=.bool b∧(b=true↔∃ i,i<l.length∧((l[i]?.getD default).a=0∧(l[i]?.getD default).b=0))∧G'=G∧Ho=[]):=by
 refine D0 Tryz.func104 Tryz.ntmps104 fun w=>?_;refine dG ?_;refine dE U ?_;refine aB 1 [] ?_;refine eC ?_;refine cH ?_;refine dG ?_;refine dE U ?_;refine aB 2 [] ?_;refine cU 0 U (sw _ _ _ _ sV sU) fun v1 G1 Ho1 hle1 hp=>?_;obtain ⟨tz1,rfl,htz1,rfl,rfl⟩:=hp;refine aB 2 [] ?_;refine eC ?_;refine cH ?_;refine mR ?_;refine cG ?_;exact ⟨decide (0≤tz1),U,by rw [aO];exact htz1,U,U⟩
theorem c33 (G:A2) (a:J0 Addr) (c:Nat) (l:List R2) (ha:Arr G a l) (hl:l.length≤1048576) :
 Does Tryz.prog 33 [.slice a l.length c] G [] (fun v G' Ho=>∃ s d j,v=.slice s l.length d∧A3 s d l j∧G'=G∧Ho=[(0,s.map (·.block),Row 52 l j)]):=by
 refine D0 Tryz.func33 Tryz.ntmps33 fun w=>?_;by_cases hne:a=none
 · subst hne;have hl0:l=[]:=by
    rcases ha.2 with h0 | ⟨_,_,h,_⟩
    · exact List.length_eq_zero_iff.mp h0
    cases h
   subst hl0;refine dK 0 (Row 52 ([]:List R2) []) ?_;refine aK 9 [] ?_;refine aZ (gN T.sl22 U U) ?_;refine bG 2 [] ?_;refine cF (fun hc1=>?_) fun hc1=>?_;refine bE 7 [] ?_;rotate_left;refine aK 4 [] ?_;refine nY 1 U T.sl22 fun b1=>?_;refine aB 1 [] ?_;rotate_left;refine cW (.inr U) (Ho:=[(0,none,Row 52 ([]:List R2) [])]) U (.tmp U) ⟨U,I3⟩ ?_
   · exact ⟨none,0,[],U,dN,U,U⟩
   exact absurd U hc1
 refine aK 9 [] ?_;refine aZ (gN T.sl22 U U) ?_;refine aS 7 [0] ?_;refine nY 0 U T.sl22 fun b1=>?_;refine aB 1 [] ?_;refine Wl.reH 0 (Row 52 ([]:List R2) []) U U ?_;refine lN (α:=R2) (xs:=[]) (ys:=l) (junk:=[]) 0 U T.sl22 T.el52 U U U (.inr ⟨b1,U,U,aH _,aP _⟩) (rT ha) IZ IY fun a1 c1 junk1 ho1=>?_;rw [fJ] at ho1 ⊢;refine aY 4 [] ?_;refine cW (.inr U) (Ho:=[(0,a1.map (·.block),Row 52 l junk1)]) U (.tmp U) ⟨U,I3⟩ ?_;exact ⟨a1,c1,junk1,U,ho1,U,U⟩
structure PH where
 ins:Int
 regs:Int
 ac:J0 Addr
 cn:Nat
 cc:Nat
 ao:J0 Addr
 on:Nat
 oc:Nat
instance:Inhabited PH:=⟨⟨0,0,none,0,0,none,0,0⟩⟩
instance:A0 PH:=⟨4,fun x=>[.int .i64 x.ins,.int .i64 x.regs,.slice x.ac x.cn x.cc,.slice x.ao x.on x.oc],fun _=>rfl,fun _=>rfl⟩
end Go.Proofs.YtfdcckcadfhpeaaGreatDoor
