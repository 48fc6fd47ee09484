/- vD of the proof (part 4): what the rows' text needs of the texts that lead to it. -/
import Derived.Test.YtkdelpdbjfpgmaaGreatDoorMPc
set_option linter.unusedVariables false
set_option linter.unusedSimpArgs false
set_option linter.unusedSectionVars false
set_option maxHeartbeats 4000000
set_option maxRecDepth 100000
namespace Go.Proofs.YtkdelpdbjfpgmaaGreatDoor
open Go Go.Sl
theorem aj (G:A3) (x:Int) (h0:0<x) (h1:x<4294967296):Does Tryz.prog 249 [.int .u32 x] G [] (fun v G' Ho=>∃ sh:Nat,v=.int .i64 (sh:Int)∧sh<32∧2147483648≤((2 ^ sh:Nat):Int)*x∧((2 ^ sh:Nat):Int)*(x+1)≤4294967296∧G'=G∧Ho=[]):=by
 obtain ⟨sh,h2,h3,h4,h5⟩:=IL h0 h1;exact (gi G x sW sW).mono fun v G' Ho _ ⟨e1,e2,e3⟩=>⟨sh,by rw [e1,h3],h2,h4,h5,e2,e3⟩
theorem WH (G:A3) (a:Option Addr) (ca:Nat) (la:List A5) (s:Nat) (ha:Arr G a la) (da:A7 la) (h1:la.length≤1073741824) (hs:s<32) :
 Does Tryz.prog 250 [.slice a la.length ca,.int .i64 (s:Int)] G [] (fun v G' Ho=>∃ r,v=.tuple #[r,.int .i64 0]∧D2 G' r (((2 ^ s:Nat):Int)*tA la) (la.length+1)∧Ho=[]):=by
 have h:=ai G a ca la 0 s ha da h1 hs sW;rw [show 32*0+s=s by omega,No,dW] at h;exact h
section
attribute [local irreducible] tA pb uY uD
theorem gj (G:A3) (a b:Option Addr) (ca cb:Nat) (la lb:List A5) (ha:Arr G a la) (hb:Arr G b lb) (da:A7 la) (ta:E9 la) (db:A7 lb) (h1:la.length≤536870912) (h2:lb.length≤536870912) (h3:la.length≤ca) (h4:lb.length≤cb) (hB:0<tA lb) :
 Does Tryz.prog 222 [.slice a la.length ca,.slice b lb.length cb] G [] (fun v G' Ho=>∃ q r,v=.tuple #[q,r,.int .i64 0]∧D2 G' q (tA la / tA lb) la.length∧D2 G' r (tA la % tA lb) lb.length∧Ho=[]):=by
 have hA:=uK da;refine D0 Tryz.func222 Tryz.ntmps222 fun w=>?_;refine aH 10 [] ?_;refine bS 0 F9 (Nh _ _ _ _ sX sW uI) fun v1 G1 Ho1 hle1 hp=>?_;obtain ⟨ta1,tm1,rfl,hta1,hte1,htr1,htl1,rfl,rfl⟩:=hp;refine aZ 3 [] ?_;have dm:=xB hte1 db;have tp:=Eo hte1 htr1;have hV:=xF hte1 htr1;have hpos:0<tm1.length:=by
  rcases gK tm1.length with h | h
  · have h5:=dV h;rw [h5,uO] at hV;omega
  exact h
 by_cases hlt:tA la<tA tm1
 · have hcmp:uY (tA la) (tA tm1)=-1:=Iy hlt;refine aH 16 [0] ?_;refine cF F9 (Yx _ _ _ _ _ _ _ sX sX sX sX sW sW sW sW) ?_;refine aL 7 [1] ?_;refine bS 0 F9 (XQ _ _ _ _ sX Mf Mf) fun v2 G2 Ho2 hle2 hp=>?_;obtain ⟨na2,nm2,rfl,hna2,hne2,hnt2,hnl2,rfl⟩:=hp;replace ha:=ha.up hle2;replace hb:=hb.up hle2;replace hta1:=hta1.up hle2;refine aS 7 [] ?_;refine kT ?_;refine ⟨_,_,F9,⟨none,[],F9,kG _,A7.nil,E9.nil,?_,aN _⟩,Ep (oG hna2 hne2 hnt2 da ?_ (aI _)) db ?_,F9⟩
   · rw [uO,qP hA sW]
   · rw [sK hA sW]
   exact gL _ hB
 have hcmp:¬uY (tA la) (tA tm1)<0:=fun h=>hlt (Za h);by_cases hone:tm1.length=1
 · have hv1:=MP hone;have hr1:=wA dm 0;have e1:(tm1[(0:Int).toNat]?.getD default).v=lg tm1 0:=rfl;have hb0:0<(tm1[(0:Int).toNat]?.getD default).v∧(tm1[(0:Int).toNat]?.getD default).v<4294967296:=by rw [e1];omega
   refine aH 16 [0] ?_;refine cF F9 (Yx _ _ _ _ _ _ _ sX sX sX sX sW sW sW sW) ?_;refine aL 19 [0,1] ?_;refine fV (α:=A5) T.sl123 ?_;refine bX F9 (bV T.one215 F9 (gI sX sW 0 F9 F9)) ?_;refine bS 0 F9 (gb _ _ _ _ _ sX sX sW sW sW) fun v2 G2 Ho2 hle2 hp=>?_;obtain ⟨dq2,dz2,dm2,rfl,⟨dqa2,dqm2,rfl,hdqa2,hdql2,hdqt2,hdqv2,hdqn2⟩,hdv2,hd02,hd12,rfl⟩:=hp;replace ha:=ha.up hle2;replace hb:=hb.up hle2;replace hta1:=hta1.up hle2;refine aL 13 [] ?_;refine cC (α:=A5) 0 [⟨dm2⟩] F9 T.sl123 T.el215 F9 F9 F9 F9 F9 fun b1=>?_;have hdl:A7 [(⟨dm2⟩:A5)]:=A7.one sW;refine fK 0 F9 (fP (xs:=[(⟨dm2⟩:A5)]) Dv) fun G9 hle9 hA9=>?_;replace hdqa2:=hdqa2.up hle9;refine bS 1 F9 (XQ _ _ _ _ sX Mf Mf) fun v3 G3 Ho3 hle3 hp=>?_;obtain ⟨na3,nm3,rfl,hna3,hne3,hnt3,hnl3,rfl⟩:=hp;replace hA9:=hA9.up hle3;replace hdqa2:=hdqa2.up hle3;refine aS 7 [] ?_;refine kT ?_;have hdu:=(rI (a:=tA la) (b:=tA lb) (r:=dm2) (q:=dz2) hB).2 ⟨by rw [cJ,←hV,hv1,←e1];omega,hd02,by rw [←hV,hv1,←e1];exact hd12⟩;refine ⟨_,_,F9,⟨dqa2,dqm2,F9,hdqa2,hdql2,hdqt2,by rw [hdqv2,hdu.1],hdqn2⟩,Ep (oG hna3 hne3 hnt3 hdl (by rw [El,hdu.2]) (aI _)) db (gL _ hB),F9⟩
 obtain ⟨m,hm⟩:∃ m,tm1.length=m+2:=⟨tm1.length - 2,by omega⟩
 have hx:=wA dm (m+1);have ex:(tm1[((tm1.length:Int) - 1).toNat]?.getD default).v=lg tm1 (m+1):=by unfold lg;rw [show ((tm1.length:Int) - 1).toNat=((m+1:Nat):Int).toNat by omega]
 have hx1:lg tm1 (m+1)≠0:=by
  rcases tp with h | h
  · rw [h] at hm;simp at hm
  unfold lg;rw [aF,show m+1=tm1.length - 1 by omega];exact h
 have hxb:0<(tm1[((tm1.length:Int) - 1).toNat]?.getD default).v∧(tm1[((tm1.length:Int) - 1).toNat]?.getD default).v<4294967296:=by rw [ex];omega
 refine aH 16 [0] ?_;refine cF F9 (Yx _ _ _ _ _ _ _ sX sX sX sX sW sW sW sW) ?_;refine aL 23 [0,0] ?_;refine fV (α:=A5) T.sl123 ?_;refine jG 0 T.one215 ?_;refine bS 0 F9 (aj _ _ sW sW) fun v2 G2 Ho2 hle2 hp=>?_;obtain ⟨sh,rfl,hsh,hs1,hs2,rfl,rfl⟩:=hp;refine aL 7 [] ?_;refine bS 0 F9 (WH _ _ _ _ sh sX sX sW sW) fun v3 G3 Ho3 hle3 hp=>?_;obtain ⟨sr3,rfl,⟨sa3,sm3,rfl,hsa3,hsl3,hst3,hsv3,hsn3⟩,rfl⟩:=hp;replace ha:=ha.up hle3;replace hb:=hb.up hle3;replace hta1:=hta1.up hle3;refine aL 11 [] ?_;refine bS 0 F9 (WH _ _ _ _ sh sX sX sW sW) fun v4 G4 Ho4 hle4 hp=>?_;obtain ⟨sr4,rfl,⟨sa4,sm4,rfl,hsa4,hsl4,hst4,hsv4,hsn4⟩,rfl⟩:=hp;replace hsa3:=hsa3.up hle4;replace ha:=ha.up hle4;replace hb:=hb.up hle4;replace hta1:=hta1.up hle4;refine aL 10 [] ?_;refine cC (α:=A5) 0 [⟨0⟩] F9 T.sl123 T.el215 F9 F9 F9 F9 F9 fun b1=>?_;have hP:0<((2 ^ sh:Nat):Int):=(zH (s:=sh) sW).choose_spec.2.2;obtain ⟨hvl,hvt⟩:=NF hP hm dm hsl3 hst3 (by rw [←ex];exact hs1) (by rw [←ex];exact hs2) hsv3;have hge:tA sm3≤tA sm4:=by
  rw [hsv3,hsv4];exact bU sW (dX hP)
 have huv:sm3.length≤sm4.length:=by
  rcases aK sm4.length sm3.length with h | h
  · have:=zT hsl4 hsl3 hst3 h;omega
  exact h
 refine Ja (α:=A5) (xs:=sm4) (ys:=[(⟨0⟩:A5)]) 40 F9 T.sl123 T.el215 F9 F9 (lQ sX) sW (cQ 0 F9) tG (by simp only [aY,cH];omega) (by simp only [aY,cH,maxLen];omega) fun b2 c2 j2 ho2=>?_;have hstart:=IM hsl4 hsl3 hst3 sW huv;have huA:tA (sm4++[(⟨0⟩:A5)])=tA sm4:=by rw [vG,El];show _+_*0=_;omega
 have dU:A7 (sm4++[(⟨0⟩:A5)]):=hsl4.append (A7.one tG);have lU:(sm4++[(⟨0⟩:A5)]).length=sm4.length+1:=by rw [aB];rfl
 change tA ((sm4++[(⟨0⟩:A5)]).drop _)<_ at hstart;generalize sm4++[(⟨0⟩:A5)]=uL at *;refine aL 16 [] ?_;refine gN (α:=A5) 41 F9 T.sl123 T.el215 F9 F9 sW sW fun b3=>?_;refine aZ 15 [] ?_;obtain ⟨N,hN⟩:∃ N,N=uL.length - sm3.length:=⟨_,F9⟩
 have hM:((uL.length:Int) - (sm3.length:Int)).toNat=N:=sW;rw [hM];have hNs:sm4.length+1 - sm3.length=N:=sW;rw [hNs] at hstart;have hown:∀ r:List A5,r.length=N→A4 (some ⟨b3,0,none⟩) N r []:=fun r hr=>.inr ⟨b3,F9,by rw [hr];rfl,by omega,by simp only [maxLen];omega⟩;have hc2:uL.length≤c2:=ho2.le;have hownU:∀ r:List A5,r.length=uL.length→A4 (some ⟨b2,0,none⟩) c2 r j2:=fun r hr=>by
  rcases ho2 with ⟨h,_⟩ | ⟨b',e,h5,h6,h7⟩
  · cases h
  exact .inr ⟨b',e,by rw [hr];exact h5,by rw [hr];exact h6,h7⟩
 refine iP 16 F9 (show _=Value.slice (some ⟨b3,0,none⟩) (List.replicate N (default:A5)).length N by rw [aJ]) ?_;refine iP 17 F9 (show _=Value.int .i64 ((N:Int) - 1) by congr 1;omega) ?_;refine iA (ι:=Nat×List A5×List A5) (fun (k,q,R)=>([(17,.int .i64 ((k:Int) - 1)),(16,.slice (some ⟨b3,0,none⟩) q.length N),(13,.slice (some ⟨b2,0,none⟩) R.length c2),(15,.int .i64 (sm3.length:Int)),(11,.slice sa3 (List.length sm3) (List.length sm3)),(10,.int .i64 (↑sh:Int)),(6,.int .i64 0),(5,.slice none 0 0),(4,.slice none 0 0)],[(41,some b3,Row 215 q []),(40,some b2,Row 215 R j2),(0,some b1,Row (α:=Go.Sl.A5) 215 ([Go.Sl.A5.mk 0]) ([]))])) (fun (k,q,R)=>k≤N∧q.length=N∧A7 q∧R.length=uL.length∧A7 R∧tA sm4=tA q*tA sm3+tA R∧tA (R.drop k)<tA sm3∧∀ j,j<k→lg q j=0) (fun (k,q,R)=>k) ((N,List.replicate N (default:A5),uL)) (⟨aI _,aJ,nY N,F9,dU,by rw [show tA (List.replicate N (default:A5))=0 from Bf N,eV,lA,huA],hstart,fun j _=>Iz N j⟩) fun ⟨k,q,R⟩=>fun hk=>?_;obtain ⟨hk1,hqN,hdq,hRn,hdR,hval,hRlt,hqz⟩:=hk;have hoq:=hown q hqN;have hoR:=hownU R hRn;rcases gK k with rfl | hkp
 · rw [nN] at hRlt;refine aH 17 [0] ?_;refine fK 41 F9 hoq (fun G8 hle8 hAq=>fK 40 F9 hoR (fun G9 hle9 hAR=>?_));replace hAq:=hAq.up hle9;refine bS 42 F9 (gh _ _ _ _ sh sX sX sW sW sW) fun v5 G5 Ho5 hle5 hp=>?_;obtain ⟨sr5,rfl,⟨sa5,sm5,rfl,hsa5,hsl5,hst5,hsv5,hsn5⟩,rfl⟩:=hp;replace hAR:=hAR.up hle5;replace hAq:=hAq.up hle5;refine aL 10 [] ?_;refine bS 42 F9 (Nh _ _ _ _ sX sW uI) fun v6 G6 Ho6 hle6 hp=>?_;obtain ⟨ta6,tm6,rfl,hta6,hte6,htr6,htl6,rfl,rfl⟩:=hp;refine aS 7 [] ?_;refine kT ?_;have hRn0:=uK hdR;rw [hsv3,hsv4,hV] at hval;rw [hsv3,hV] at hRlt;obtain ⟨hd1,hd2,_⟩:=TE hP hval hRn0 hRlt;exact ⟨_,_,F9,oG hta6 hte6 htr6 hdq hd2 sW,Ep ⟨sa5,sm5,F9,hsa5,hsl5,hst5,by rw [hsv5,hd1],aI _⟩ db (gL _ hB),F9⟩
 obtain ⟨i,rfl⟩:∃ i,k=i+1:=⟨k - 1,by omega⟩
 have ei:(((i+1:Nat):Int) - 1).toNat=i:=sW;refine aH 21 [1] ?_;refine aQ (LO T.sl123 F9 F9 F9 sW sW sW) ?_;refine aC 1 [] ?_;have hroom:=NH (n:=m+2) hdR hsl3 (show i<R.length by omega) hvl sW hRlt;obtain ⟨p,hp⟩:∃ p,p=R.take i:=⟨_,F9⟩
 obtain ⟨ww,hw⟩:∃ ww,ww=(R.drop i).take (m+3):=⟨_,F9⟩
 obtain ⟨z,hz⟩:∃ z,z=R.drop (i+(m+3)):=⟨_,F9⟩
 have hsplit:R=p++(ww++z):=by rw [hp,hw,hz];exact NG R i (m+3)
 have lp:p.length=i:=by rw [hp,bH];omega
 have lw:ww.length=m+3:=by rw [hw,bH,gP];omega
 have dw:A7 ww:=by rw [hw];exact (At hdR i).take _
 obtain ⟨hr1,hr2⟩:=hroom;rw [show m+2+1=m+3 by omega] at hr1 hr2;rw [←hw] at hr1;rw [←hz] at hr2;refine fR 93 F9 (show _=Value.slice (some ⟨b2,p.length,none⟩) ww.length (c2 - i) by
  rw [ei,lp,lw];show Value.slice (if c2=i then (some ⟨b2,0,none⟩:Option Addr) else (some ⟨b2,0,none⟩:Option Addr).map (·.add (i*1))) _ _=_;rw [aD (by omega),fZ,Bw,Nat.mul_one,cS];congr 1;omega) ?_
 refine oY 40 (Row 215 (p++(ww++z)) j2) F9 (by rw [←hsplit]) ?_;refine bS 40 F9 (gf _ b2 p ww z j2 _ _ _ sm3 m sX dw hsl3 sW lw hvl hvt hr1) fun r9 G9 Ho9 hle9 hp9=>?_;obtain ⟨w9,g9,rfl,rfl,rfl,hg1,hg2,hwl,hwd,hwv,hwlt⟩:=hp9;refine iK (α:=A5) T.sl123 ?_;refine dJ (z:=_) 41 T.size215 F9 F9 F9 sX sW F9 fun ho1=>?_;refine aS 8 [] ?_;have lz:z.length=R.length - (i+(m+3)):=by rw [hz,gP]
 have dz:A7 z:=by rw [hz];exact At hdR _
 have dp:A7 p:=by rw [hp];exact hdR.take _
 have hwin:=SZ p ww w9 z sW;rw [←hsplit,lp,hwv,show tA ww - g9*tA sm3 - tA ww=-(g9*tA sm3) by omega] at hwin;have lR:(p++(w9++z)).length=uL.length:=by rw [aB,aB];omega
 refine cE 17 F9 (show _=Value.int .i64 ((i:Int) - 1) by congr 1;omega) ?_;refine gJ 41 (Row 215 (q.set i (⟨g9⟩:A5)) []) F9 (by rw [ei]) ?_;refine cE 16 F9 (show _=Value.slice (some ⟨b3,0,none⟩) (q.set i (⟨g9⟩:A5)).length N by rw [aG]) ?_;refine cE 13 F9 (show _=Value.slice (some ⟨b2,0,none⟩) (p++(w9++z)).length c2 by rw [lR,hRn]) ?_;refine cM ((i,q.set i (⟨g9⟩:A5),p++(w9++z))) ?_ ?_
 · refine ⟨by omega,by rw [aG];exact hqN,uM hdq _ ⟨hg1,hg2⟩,lR,dp.append (hwd.append dz),MY (q:=0) sW (hqz i sW) hval hwin,?_,fun j hj=>by rw [zG sW];exact hqz j sW⟩;rw [oI sW,fD sW,gA,vG,hr2,bR,fN];exact hwlt
 show i<i+1;omega
end
theorem DE {neg:Bool} {m:List A5} (hd:A7 m) (ht:E9 m):E0 (neg && decide (0<m.length)) m (if neg=true then -tA m else tA m):=by
 refine ⟨hd,ht,fun e=>by rw [e];simp,?_⟩;by_cases h:0<m.length
 · simp [h]
 have e:m=[]:=dV sW;rw [e];simp [uO]
theorem NI {G:A3} {b:Option Addr} {c:Nat} {m:List A5} (neg:Bool) (hA:Arr G b m) (hd:A7 m) (ht:E9 m) (hc:m.length≤c) {z:Int} (hz:z=if neg=true then -tA m else tA m):C1 G ⟨neg && decide (0<m.length),b,m.length,c⟩ z:=
 ⟨m,F9,hc,hA,hz▸DE hd ht⟩
abbrev nR:=@NI
theorem C1.len {G:A3} {x:IV} {z:Int} (h:C1 G x z) {m:Nat} (hz:(z.natAbs:Int)<pb m):x.n≤m:=by
 obtain ⟨l,h1,_,_,h4⟩:=h;rw [←h1];exact h4.len hz
abbrev jQ:=@C1.len
theorem C1.out {G:A3} {x:IV} {z z':Int} (h:C1 G x z) (e:z=z'):C1 G x z':=e▸h
def Zb (z:Int):Int:=if z=0 then 0 else if z<0 then -1 else 1
section
attribute [local irreducible] tA pb uY uD
theorem Al (G:A3) (neg:Bool) (a:Option Addr) (n c:Nat) (hn:n≤1099511627776) :
 Does Tryz.prog 133 [.bool neg,.slice a n c] G [] (fun v G' Ho=>v=.agg #[.bool (neg && decide (0<n)),.slice a n c]∧G'=G∧Ho=[]):=by
 refine D0 Tryz.func133 Tryz.ntmps133 fun w=>?_;have e:((0:Int)<(n:Int))=(0<n):=by rw [eq_iff_iff];omega
 cases neg
 · refine aH 2 [] ?_;refine aM 0 F9 T.zero125 fun b1=>?_;refine aL 11 [] ?_;refine aQ (bP (cs:=[_,_]) T.st125 F9 F9 F9) ?_;refine aS 4 [0] ?_;refine cK (.inr F9) (Ho:=Hp.only _ []) F9 (.agg 0 F9 F9 T.agg125) (aU _ _) ?_;exact ⟨by simp only [Bool.false_and],F9,F9⟩
 refine aH 2 [] ?_;refine aM 0 F9 T.zero125 fun b1=>?_;refine aL 14 [] ?_;refine aQ (bP (cs:=[_,_]) T.st125 F9 F9 F9) ?_;refine aS 4 [0] ?_;refine cK (.inr F9) (Ho:=Hp.only _ []) F9 (.agg 0 F9 F9 T.agg125) (aU _ _) ?_;exact ⟨by simp only [e,pW],F9,F9⟩
theorem gk (G:A3) (neg:Bool) (a:Option Addr) (c:Nat) (l:List A5) (ha:Arr G a l) (hd:A7 l) (hb:l.length≤1073741824) (hc:l.length≤c) :
 Does Tryz.prog 139 [.bool neg,.slice a l.length c] G [] (fun v G' Ho=>∃ r:IV,v=.agg (A2.enc r).toArray∧C1 G' r (if neg=true then -tA l else tA l)∧Ho=[]):=by
 refine D0 Tryz.func139 Tryz.ntmps139 fun w=>?_;refine aH 2 [] ?_;refine aM 0 F9 T.zero125 fun b1=>?_;refine aL 6 [] ?_;refine bS 1 F9 (XQ _ _ _ _ sX Mf Mf) fun v1 G1 Ho1 hle1 hp=>?_;obtain ⟨na1,nm1,rfl,hna1,hne1,hnt1,hnl1,rfl⟩:=hp;replace ha:=ha.up hle1;refine cF F9 (Al _ _ _ _ _ sW) ?_;refine aS 4 [0] ?_;refine cK (.inr F9) (Ho:=Hp.only _ []) F9 (.agg 0 F9 F9 T.agg125) (aU _ _) ?_;refine ⟨⟨neg && decide (0<nm1.length),na1,nm1.length,nm1.length⟩,F9,nR neg hna1 (xB hne1 hd) (Eo hne1 hnt1) (aI _) (by rw [xF hne1 hnt1]),F9⟩
theorem ak (G:A3) (neg:Bool) (a:Option Addr) (c:Nat) (l:List A5) (z:Int) (h:E0 neg l z) (h1:l.length≤1073741824) :
 Does Tryz.prog 180 [.agg #[.bool neg,.slice a l.length c]] G [] (fun v G' Ho=>v=.int .i64 (Zb z)∧G'=G∧Ho=[]):=by
 have hz:=h.zero_iff;have hn:=h.neg_iff;refine D0 Tryz.func180 Tryz.ntmps180 fun w=>?_;by_cases h0:l.length=0
 · have hz0:=hz.1 h0;refine aH 2 [] ?_;refine eC 0 fun b1=>?_;refine aS 23 [0,1] ?_;refine dA ?_;exact ⟨by rw [hz0];rfl,F9,F9⟩
 have hz0:z≠0:=fun e=>h0 (hz.2 e);by_cases hs:z<0
 · rw [hn,bT hs];refine aH 2 [] ?_;refine eC 0 fun b1=>?_;refine aS 31 [0,0,0,1] ?_;refine dA ?_;exact ⟨by unfold Zb;rw [aD hz0,aE hs],F9,F9⟩
 rw [hn,cD hs];refine aH 2 [] ?_;refine eC 0 fun b1=>?_;refine aS 32 [0,0,0,0] ?_;refine dA ?_;exact ⟨by unfold Zb;rw [aD hz0,aD hs],F9,F9⟩
theorem am (G:A3) (x:IV) (z:Int) (hx:C1 G x z) (h1:x.n≤1073741824) :
 Does Tryz.prog 176 [.agg (A2.enc x).toArray] G [] (fun v G' Ho=>∃ r:IV,v=.agg (A2.enc r).toArray∧C1 G' r (-z)∧G'=G∧Ho=[]):=by
 obtain ⟨neg,a,n,c⟩:=x;obtain ⟨l,hl,hlc,hA,hI⟩:=hx;simp only at hl hlc hA hI h1;subst hl;show Does Tryz.prog 176 [.agg #[.bool neg,.slice a l.length c]] G [] _;refine D0 Tryz.func176 Tryz.ntmps176 fun w=>?_;refine aH 2 [] ?_;refine eC 0 fun b1=>?_;refine aM 1 F9 T.zero125 fun b2=>?_;refine aL 9 [0,0] ?_;refine cF F9 (Al _ _ _ _ _ sW) ?_;refine aS 4 [1] ?_;refine cK (.inr F9) (Ho:=Hp.only _ []) F9 (.agg 1 F9 F9 T.agg125) (aU _ _) ?_;refine ⟨⟨!neg && decide (0<l.length),a,l.length,c⟩,F9,nR (!neg) hA hI.digs hI.top hlc ?_,F9,F9⟩;rw [hI.val];cases neg <;> simp
theorem gn (G:A3) (x:IV) (z:Int) (hx:C1 G x z) (h1:x.n≤1073741824) :
 Does Tryz.prog 223 [.agg (A2.enc x).toArray] G [] (fun v G' Ho=>∃ r:IV,v=.agg (A2.enc r).toArray∧C1 G' r (z.natAbs:Int)∧G'=G∧Ho=[]):=by
 obtain ⟨neg,a,n,c⟩:=x;obtain ⟨l,hl,hlc,hA,hI⟩:=hx;simp only at hl hlc hA hI h1;subst hl;show Does Tryz.prog 223 [.agg #[.bool neg,.slice a l.length c]] G [] _;refine D0 Tryz.func223 Tryz.ntmps223 fun w=>?_;refine aH 2 [] ?_;refine eC 0 fun b1=>?_;refine aM 1 F9 T.zero125 fun b2=>?_;refine aL 6 [0] ?_;refine cF F9 (Al _ _ _ _ _ sW) ?_;refine aS 4 [1] ?_;refine cK (.inr F9) (Ho:=Hp.only _ []) F9 (.agg 1 F9 F9 T.agg125) (aU _ _) ?_;refine ⟨⟨false && decide (0<l.length),a,l.length,c⟩,F9,nR false hA hI.digs hI.top hlc ?_,F9,F9⟩;rw [aD (by decide),hI.abs]
theorem Zc (G:A3) (x:IV) (z:Int) (hx:C1 G x z) (h1:x.n≤1073741824) :
 Does Tryz.prog 180 [.agg (A2.enc x).toArray] G [] (fun v G' Ho=>v=.int .i64 (Zb z)∧G'=G∧Ho=[]):=by
 obtain ⟨n1,a,k1,ca⟩:=x;obtain ⟨la,hl,hlc,hA,hI⟩:=hx;simp only at hl hlc hA hI h1;subst hl;exact ak G n1 a ca la z hI h1
theorem an (G:A3) (x y:IV) (zx zy:Int) (hx:C1 G x zx) (hy:C1 G y zy) (h1:x.n≤1073741824) (h2:y.n≤1073741824) :
 Does Tryz.prog 137 [.agg (A2.enc x).toArray,.agg (A2.enc y).toArray] G [] (fun v G' Ho=>v=.int .i64 (uY zx zy)∧G'=G∧Ho=[]):=by
 obtain ⟨n1,a,k1,ca⟩:=x;obtain ⟨n2,b,k2,cb⟩:=y;obtain ⟨la,hl,hlc,hA,hI⟩:=hx;obtain ⟨lb,hl',hlc',hA',hI'⟩:=hy;simp only at hl hlc hA hI hl' hlc' hA' hI' h1 h2;subst hl hl';have da:=hI.digs;have db:=hI'.digs;have ta:=hI.top;have tb:=hI'.top;have va:=hI.abs;have vb:=hI'.abs;have na:=hI.neg_iff;have nb:=hI'.neg_iff;have cs:∀ u v:Int,u<v→uY u v=-1:=fun u v h=>Iy h;have cg:∀ u v:Int,v<u→uY u v=1:=fun u v h=>Nq h;show Does Tryz.prog 137 [.agg #[.bool n1,.slice a la.length ca],.agg #[.bool n2,.slice b lb.length cb]] G [] _;refine D0 Tryz.func137 Tryz.ntmps137 fun w=>?_;by_cases sx:zx<0 <;> by_cases sy:zy<0
 · rw [na,nb,bT sx,bT sy];refine aH 2 [] ?_;refine eC 0 fun b1=>?_;refine eC 1 fun b2=>?_;refine aL 25 [0,1,1,1,0] ?_;refine cF F9 (Yx _ _ _ _ _ _ _ sX sX sX sX sW sW sW sW) ?_;refine aS 6 [] ?_;refine dA ?_;exact ⟨by rw [Pf (x:=tA lb) (y:=tA la) (u:=zx) (v:=zy) sW sW],F9,F9⟩
 · rw [na,nb,bT sx,cD sy];refine aH 2 [] ?_;refine eC 0 fun b1=>?_;refine eC 1 fun b2=>?_;refine aS 35 [0,1,0,0,1] ?_;refine dA ?_;exact ⟨by rw [cs zx zy sW],F9,F9⟩
 · rw [na,nb,cD sx,bT sy];refine aH 2 [] ?_;refine eC 0 fun b1=>?_;refine eC 1 fun b2=>?_;refine aS 41 [0,0,0,0,1,1] ?_;refine dA ?_;exact ⟨by rw [cg zx zy sW],F9,F9⟩
 rw [na,nb,cD sx,cD sy];refine aH 2 [] ?_;refine eC 0 fun b1=>?_;refine eC 1 fun b2=>?_;refine aL 42 [0,0,0,0,1,0,0,1] ?_;refine cF F9 (Yx _ _ _ _ _ _ _ sX sX sX sX sW sW sW sW) ?_;refine aS 4 [] ?_;refine dA ?_;exact ⟨by rw [Pf (x:=tA la) (y:=tA lb) (u:=zx) (v:=zy) sW sW],F9,F9⟩
theorem gp (G:A3) (x y:IV) (zx zy:Int) (hx:C1 G x zx) (hy:C1 G y zy) (h1:x.n≤536870912) (h2:y.n≤536870912) :
 Does Tryz.prog 75 [.agg (A2.enc x).toArray,.agg (A2.enc y).toArray] G [] (fun v G' Ho=>∃ r:IV,v=.agg (A2.enc r).toArray∧C1 G' r (zx*zy)∧Ho=[]):=by
 obtain ⟨n1,a,k1,ca⟩:=x;obtain ⟨n2,b,k2,cb⟩:=y;obtain ⟨la,hl,hlc,hA,hI⟩:=hx;obtain ⟨lb,hl',hlc',hA',hI'⟩:=hy;simp only at hl hlc hA hI hl' hlc' hA' hI' h1 h2;subst hl hl';have da:=hI.digs;have db:=hI'.digs;have ta:=hI.top;have tb:=hI'.top;show Does Tryz.prog 75 [.agg #[.bool n1,.slice a la.length ca],.agg #[.bool n2,.slice b lb.length cb]] G [] _;refine D0 Tryz.func75 Tryz.ntmps75 fun w=>?_;refine aH 2 [] ?_;refine eC 0 fun b1=>?_;refine eC 1 fun b2=>?_;refine aM 2 F9 T.zero125 fun b3=>?_;refine aZ 3 [] ?_;refine dK [0,1,2] [(2,11)] T.mixed [[0],[1,0],[2],[3,1]] ?_;refine eD 4 [] F9 (EQ T.u4 F9 F9) ?_;refine dP [[5],[6,0],[7],[8,1]] ?_;refine bE 9 ?_;refine bS 3 F9 (fw _ _ _ _ _ _ _ sX sX sX sX sW sW) fun v1 G1 Ho1 hle1 hp=>?_;obtain ⟨⟨ra1,rm1,rfl,hra1,hrl1,hrt1,hrv1,hrn1⟩,rfl⟩:=hp;replace hA:=hA.up hle1;replace hA':=hA'.up hle1;refine cX 10 ?_;refine cF F9 (Al _ _ _ _ _ sW) ?_;refine cX 11 ?_;refine aC 1 [2] ?_;refine fJ ?_;refine dO 2 [] ?_;refine cK (.inr F9) (Ho:=Hp.only _ []) F9 (.agg 2 F9 F9 T.agg125) (aU _ _) ?_;refine ⟨⟨decide (n1≠n2) && decide (0<rm1.length),ra1,rm1.length,rm1.length⟩,F9,nR (decide (n1≠n2)) hra1 hrl1 hrt1 (aI _) ?_,F9⟩;rw [hrv1,hI.val,hI'.val];cases n1 <;> cases n2 <;> simp [gR,iZ]
end
theorem NJ {n:Int} (h:-9223372036854775808≤n∧n<0):IntKind.u64.wrap (0 - IntKind.u64.wrap n)=-n:=by
 rw [nZ,nZ];omega
theorem TF (u:Int):tA [(⟨u % 4294967296⟩:A5),⟨u / 4294967296⟩]=u:=by
 rw [vJ,vJ,uO];show u % 4294967296+4294967296*(u / 4294967296+4294967296*0)=u;omega
theorem NK {u:Int} (h:0≤u∧u<18446744073709551616):A7 [(⟨u % 4294967296⟩:A5),⟨u / 4294967296⟩]:=by
 intro d hd;simp only [iU,List.mem_nil_iff,or_false] at hd;rcases hd with rfl | rfl
 · exact Gr u
 show 0≤u / 4294967296∧u / 4294967296<4294967296;omega
theorem C1.lt {G:A3} {x:IV} {z:Int} (h:C1 G x z):(z.natAbs:Int)<pb x.n:=by
 obtain ⟨l,h1,_,_,h4⟩:=h;rw [←h4.abs,←h1];exact wS h4.digs
section
attribute [local irreducible] tA pb uY uD
theorem RI (G:A3) (n:Int) (hn:-9223372036854775808≤n∧n≤9223372036854775807) :
 Does Tryz.prog 78 [.int .i64 n] G [] (fun v G' Ho=>∃ r:IV,v=.agg (A2.enc r).toArray∧C1 G' r n∧Ho=[]):=by
 refine D0 Tryz.func78 Tryz.ntmps78 fun w=>?_;refine aH 2 [] ?_;refine aM 0 F9 T.zero125 fun b1=>?_;refine aL 5 [] ?_;refine aQ (cR F9 T.u214 F9) ?_;refine aZ 3 [] ?_;refine pL (ι:=Int) (fun u=>([(0,.int .i64 n),(2,.pointer (some ⟨b1,0,none⟩)),(3,.int .u64 u)],[(0,some b1,.cells #[.bool false,.slice none 0 0] 125)])) (fun u=>0≤u∧u<18446744073709551616∧n=if decide (n<0)=true then -u else u) ?_ fun u=>fun (hk:0≤u∧u<18446744073709551616∧n=if decide (n<0)=true then -u else u)=>?_
 · by_cases hneg:n<0
   · refine aH 9 [1] ?_;refine aQ (oV F9) ?_;refine aS 2 [] ?_;refine cE 3 F9 (show _=Value.int .u64 (-n) by rw [NJ ⟨hn.1,hneg⟩]) ?_;refine mU (-n) ?_;exact ⟨by omega,by omega,by rw [aE (by simpa using hneg)];omega⟩
   refine bG 8 [0] ?_;refine cE 3 F9 (show _=Value.int .u64 n by rw [kR _ sW]) ?_;refine mU (n) ?_;exact ⟨by omega,by omega,by rw [aD (by simpa using hneg)]⟩
 obtain ⟨hu0,hu1,hun⟩:=hk;refine aH 5 [] ?_;refine aQ (iV F9 T.u215 F9) ?_;refine aC 1 [] ?_;refine aQ (gO F9 F9 sW) ?_;refine aQ (kQ F9 T.u215 F9 sW) ?_;refine cC (α:=A5) 1 [⟨u % 4294967296⟩,⟨u / 4294967296⟩] F9 T.sl123 T.el215 F9 F9 F9 F9 F9 fun b2=>?_;have hd:=NK ⟨hu0,hu1⟩;refine fK 1 F9 (fP (xs:=[(⟨u % 4294967296⟩:A5),⟨u / 4294967296⟩]) Dv) fun G9 hle9 hA9=>?_;refine bS 2 F9 (gk _ _ _ _ _ sX sX Mf Mf) fun v1 G1 Ho1 hle1 hp=>?_;obtain ⟨r1,rfl,hr1,rfl⟩:=hp;replace hA9:=hA9.up hle1;refine aS 4 [0] ?_;refine cK (.inr F9) (Ho:=Hp.only _ []) F9 (.agg 0 F9 F9 T.agg125) (aU _ _) ?_;exact ⟨_,F9,C1.out hr1 (by rw [TF];exact hun.symm),F9⟩
theorem XR (G:A3) (x y:IV) (zx zy:Int) (hx:C1 G x zx) (hy:C1 G y zy) (h1:x.n≤536870912) (h2:y.n≤536870912) :
 Does Tryz.prog 138 [.agg (A2.enc x).toArray,.agg (A2.enc y).toArray] G [] (fun v G' Ho=>∃ r:IV,v=.agg (A2.enc r).toArray∧C1 G' r (zx+zy)∧Ho=[]):=by
 obtain ⟨n1,a,k1,ca⟩:=x;obtain ⟨n2,b,k2,cb⟩:=y;obtain ⟨la,hl,hlc,hA,hI⟩:=hx;obtain ⟨lb,hl',hlc',hA',hI'⟩:=hy;simp only at hl hlc hA hI hl' hlc' hA' hI' h1 h2;subst hl hl';have da:=hI.digs;have db:=hI'.digs;have ta:=hI.top;have tb:=hI'.top;have len_le:∀ {l m:List A5},A7 l→A7 m→E9 m→tA m≤tA l→m.length≤l.length:=fun {l m} hl hm tm h=>by
  rcases aK l.length m.length with h1 | h1
  · have:=zT hl hm tm h1;omega
  exact h1
 show Does Tryz.prog 138 [.agg #[.bool n1,.slice a la.length ca],.agg #[.bool n2,.slice b lb.length cb]] G [] _;refine D0 Tryz.func138 Tryz.ntmps138 fun w=>?_;by_cases hs:n1=n2
 · refine aH 2 [] ?_;refine eC 0 fun b1=>?_;refine eC 1 fun b2=>?_;refine aM 2 F9 T.zero125 fun b3=>?_;refine aL 9 [0,1] ?_;refine aQ (Va T.u4 F9 F9) ?_;refine aZ 4 [1] ?_;refine dK [0,1,2] [(2,8)] T.mixed [[0],[1,0],[2],[3,0],[4],[5,1]] ?_;refine bE 6 ?_;refine bS 3 F9 (fv _ _ _ _ _ _ _ sX sX sX sX sW sW) fun v1 G1 Ho1 hle1 hp=>?_;obtain ⟨⟨ra1,rm1,rfl,hra1,hrl1,hrt1,hrv1,hrn1⟩,rfl⟩:=hp;replace hA:=hA.up hle1;replace hA':=hA'.up hle1;refine cX 7 ?_;refine cF F9 (Al _ _ _ _ _ sW) ?_;refine cX 8 ?_;refine aC 1 [2] ?_;refine fJ ?_;refine dO 3 [] ?_;refine cK (.inr F9) (Ho:=Hp.only _ []) F9 (.agg 2 F9 F9 T.agg125) (aU _ _) ?_;all_goals
    refine ⟨⟨n1 && decide (0<rm1.length),ra1,rm1.length,rm1.length⟩,F9,nR n1 hra1 hrl1 hrt1 (aI _) ?_,F9⟩;rw [hrv1,hI.val,hI'.val];revert hs;cases n1 <;> cases n2 <;> simp <;> omega
 by_cases hle:tA lb≤tA la
 · have hcmp:¬uY (tA la) (tA lb)<0:=fun h=>by have:=Za h;omega
   have hll:=len_le da db tb hle;refine aH 2 [] ?_;refine eC 0 fun b1=>?_;refine eC 1 fun b2=>?_;refine aM 2 F9 T.zero125 fun b3=>?_;refine aL 9 [0,1] ?_;refine aQ (Va T.u4 F9 F9) ?_;refine aL 12 [0,0,1] ?_;refine cF F9 (Yx _ _ _ _ _ _ _ sX sX sX sX sW sW sW sW) ?_;refine aL 12 [0,0,1] ?_;refine bS 3 F9 (ah _ _ _ _ _ _ _ sX sX sX sX sW sW sW sW sW) fun v1 G1 Ho1 hle1 hp=>?_;obtain ⟨rq1,rfl,⟨ra1,rm1,rfl,hra1,hrl1,hrt1,hrv1,hrn1⟩,rfl⟩:=hp;replace hA:=hA.up hle1;replace hA':=hA'.up hle1;refine aL 12 [0] ?_;refine cF F9 (Al _ _ _ _ _ sW) ?_;refine aS 4 [2] ?_;refine cK (.inr F9) (Ho:=Hp.only _ []) F9 (.agg 2 F9 F9 T.agg125) (aU _ _) ?_;refine ⟨⟨n1 && decide (0<rm1.length),ra1,rm1.length,rm1.length⟩,F9,nR n1 hra1 hrl1 hrt1 (aI _) ?_,F9⟩;rw [hrv1,hI.val,hI'.val];revert hs;cases n1 <;> cases n2 <;> simp <;> omega
 have hcmp:uY (tA la) (tA lb)=-1:=Iy sW;have hle':tA la≤tA lb:=sW;have hll:=len_le db da ta hle';refine aH 2 [] ?_;refine eC 0 fun b1=>?_;refine eC 1 fun b2=>?_;refine aM 2 F9 T.zero125 fun b3=>?_;refine aL 9 [0,1] ?_;refine aQ (Va T.u4 F9 F9) ?_;refine aL 12 [0,0,1] ?_;refine cF F9 (Yx _ _ _ _ _ _ _ sX sX sX sX sW sW sW sW) ?_;refine aL 17 [1,1,0,0,1,0,1] ?_;refine bS 3 F9 (ah _ _ _ _ _ _ _ sX sX sX sX sW sW sW sW sW) fun v1 G1 Ho1 hle1 hp=>?_;obtain ⟨rq1,rfl,⟨ra1,rm1,rfl,hra1,hrl1,hrt1,hrv1,hrn1⟩,rfl⟩:=hp;replace hA:=hA.up hle1;replace hA':=hA'.up hle1;refine aL 12 [0] ?_;refine cF F9 (Al _ _ _ _ _ sW) ?_;refine aS 4 [2] ?_;refine cK (.inr F9) (Ho:=Hp.only _ []) F9 (.agg 2 F9 F9 T.agg125) (aU _ _) ?_;refine ⟨⟨n2 && decide (0<rm1.length),ra1,rm1.length,rm1.length⟩,F9,nR n2 hra1 hrl1 hrt1 (aI _) ?_,F9⟩;rw [hrv1,hI.val,hI'.val];revert hs;cases n1 <;> cases n2 <;> simp <;> omega
theorem aq (G:A3) (x y:IV) (zx zy:Int) (hx:C1 G x zx) (hy:C1 G y zy) (h1:x.n≤536870912) (h2:y.n≤536870912) :
 Does Tryz.prog 177 [.agg (A2.enc x).toArray,.agg (A2.enc y).toArray] G [] (fun v G' Ho=>∃ r:IV,v=.agg (A2.enc r).toArray∧C1 G' r (zx - zy)∧Ho=[]):=by
 refine D0 Tryz.func177 Tryz.ntmps177 fun w=>?_;refine aH 2 [] ?_;refine eC 0 fun b1=>?_;refine eC 1 fun b2=>?_;refine aM 2 F9 T.zero125 fun b3=>?_;refine aZ 3 [] ?_;refine dK [0,1,2] [(2,4)] T.mixed [[0,0],[1,1]] ?_;refine bE 2 ?_;refine bS 3 F9 (am _ _ _ hy sW) fun v1 G1 Ho1 hle1 hp=>?_;obtain ⟨nr1,rfl,hnr1,rfl,rfl⟩:=hp;refine cX 3 ?_;have hn1:nr1.n≤y.n:=jQ hnr1 (by rw [Int.natAbs_neg];exact C1.lt hy);refine bS 20 F9 (XR _ x nr1 zx (-zy) hx hnr1 h1 sW) fun v2 G2 Ho2 hle2 hp=>?_;obtain ⟨r2,rfl,hr2,rfl⟩:=hp;refine cX 4 ?_;refine aC 1 [2] ?_;refine fJ ?_;refine dO 2 [] ?_;refine cK (.inr F9) (Ho:=Hp.only _ []) F9 (.agg 2 F9 F9 T.agg125) (aU _ _) ?_;exact ⟨r2,F9,C1.out hr2 (Int.sub_eq_add_neg).symm,F9⟩
theorem ar (d s:Nat):pb d*((2 ^ s:Nat):Int)=((2 ^ (32*d+s):Nat):Int):=by
 unfold pb;rw [←kC];congr 1;rw [show (4294967296:Nat)=2 ^ 32 by decide,←Nat.pow_mul,←oH]
theorem gq (G:A3) (x:IV) (zx:Int) (d s:Nat) (hx:C1 G x zx) (h1:x.n≤536870912) (hs:s<32) (hd:d≤1000) :
 Does Tryz.prog 247 [.agg (A2.enc x).toArray,.int .i64 ((32*d+s:Nat):Int)] G [] (fun v G' Ho=>∃ r:IV,v=.tuple #[.agg (A2.enc r).toArray,.int .i64 0]∧C1 G' r (zx*((2 ^ (32*d+s):Nat):Int))∧Ho=[]):=by
 obtain ⟨n1,a,k1,ca⟩:=x;obtain ⟨la,hl,hlc,hA,hI⟩:=hx;simp only at hl hlc hA hI h1;subst hl;have da:=hI.digs;show Does Tryz.prog 247 [.agg #[.bool n1,.slice a la.length ca],.int .i64 ((32*d+s:Nat):Int)] G [] _;refine D0 Tryz.func247 Tryz.ntmps247 fun w=>?_;refine aH 2 [] ?_;refine eC 0 fun b1=>?_;refine aM 1 F9 T.zero125 fun b2=>?_;refine aL 8 [0] ?_;refine bS 2 F9 (ai _ _ _ _ d s sX sX sW hs hd) fun v1 G1 Ho1 hle1 hp=>?_;obtain ⟨rq1,rfl,⟨ra1,rm1,rfl,hra1,hrl1,hrt1,hrv1,hrn1⟩,rfl⟩:=hp;replace hA:=hA.up hle1;refine aL 22 [0,0] ?_;refine cF F9 (Al _ _ _ _ _ sW) ?_;refine aS 5 [1] ?_;refine iC (.inr F9) (Ho:=Hp.only _ []) F9 (.agg 1 F9 F9 T.agg125) (.tmp F9) (aU _ _) ?_;refine ⟨⟨n1 && decide (0<rm1.length),ra1,rm1.length,rm1.length⟩,F9,nR n1 hra1 hrl1 hrt1 (aI _) ?_,F9⟩;rw [hrv1,hI.val,ar];cases n1
 · rw [aD (by decide),aD (by decide),cJ]
 rw [aE rfl,aE rfl,gR,cJ]
end
end Go.Proofs.YtkdelpdbjfpgmaaGreatDoor
namespace Go.Sl
open Go
section
variable {B:Bs} {e:A9} {D:List Deferred} {H:Hp} {G:A3}
theorem retagH {a:Act} {w:World} (hh:A6 B ⟨e,D,H,G⟩ a w) (t t':Nat) {k:Option Nat} {o:Obj} (ht:H.get t=some (k,o)) (hn:t≠t') (hk:H.get t'=none∨True):A6 B ⟨e,D,(t',k,o) :: (t,none,o) :: H,G⟩ a w:=by
 have key:∀ i b o',Hp.get ((t',k,o) :: (t,none,o) :: H) i=some (some b,o')→(i=t'∧H.get t=some (some b,o'))∨(i≠t'∧i≠t∧H.get i=some (some b,o')):=fun i b o' hx=>by
  rw [bC] at hx;split at hx
  · rename_i hi;left;refine ⟨hi.symm,?_⟩;rw [ht];exact hx
  rename_i hi;rw [bC] at hx;split at hx
  · simp at hx
  rename_i hi2;exact .inr ⟨fun h=>hi h.symm,fun h=>hi2 h.symm,hx⟩
 refine ⟨hh.size,hh.defers,hh.env,⟨?_,?_,hh.mem.imm,?_⟩,hh.upd,?_,hh.le,hh.new⟩
 · intro i b o' hx;rcases key i b o' hx with ⟨_,h⟩ | ⟨_,_,h⟩
   · exact hh.mem.own _ b o' h
   exact hh.mem.own _ b o' h
 · intro i i' b o1 o2 hx hy;rcases key i b o1 hx with ⟨h1,h2⟩ | ⟨h1,h1',h2⟩ <;> rcases key i' b o2 hy with ⟨h3,h4⟩ | ⟨h3,h3',h4⟩
   · rw [h1,h3]
   · exact absurd (hh.mem.one _ _ b _ _ h2 h4).symm h3'
   · exact absurd (hh.mem.one _ _ b _ _ h2 h4) h1'
   exact hh.mem.one _ _ b _ _ h2 h4
 · intro i b o' hx;rcases key i b o' hx with ⟨_,h⟩ | ⟨_,_,h⟩
   · exact hh.mem.off _ b o' h
   exact hh.mem.off _ b o' h
 intro i b o' hx;rcases key i b o' hx with ⟨_,h⟩ | ⟨_,_,h⟩
 · exact hh.mine _ b o' h
 exact hh.mine _ b o' h
theorem Ar.retag {x:Exit} {Q:Exit→Act→World→Prop} (t t':Nat) {k:Option Nat} {o:Obj} (ht:H.get t=some (k,o)) (hn:Nat.beq t t'=false) (h:Ar Q x B ⟨e,D,(t',k,o) :: (t,none,o) :: H,G⟩):Ar Q x B ⟨e,D,H,G⟩:=
 fun a w hh=>h a w (retagH hh t t' ht (fun e=>by subst e;simp at hn) (.inr trivial))
end
end Go.Sl
namespace Go.Proofs.YtkdelpdbjfpgmaaGreatDoor
open Go Go.Sl
theorem NL (z:Int):-1≤Zb z∧Zb z≤1:=by unfold Zb;split;exact ⟨by omega,by omega⟩;split <;> exact ⟨by omega,by omega⟩
theorem TG (z:Int):-9223372036854775808≤Zb z∧Zb z≤9223372036854775807:=by have:=NL z;omega
theorem TH (z:Int):((Zb z).natAbs:Int)<pb 1:=by have:=NL z;have:pb 1=4294967296:=tG;omega
theorem TI (z:Int):Zb z*z=z.natAbs:=by
 unfold Zb;split
 · omega
 split <;> omega
theorem FB {x y q r:Int} (hy:y≠0) (h:x=q*y+r) (h0:0≤r) (h1:r<y.natAbs):q=x / y∧r=x % y:=by
 rcases Int.lt_or_gt_of_ne hy with hn | hp
 · have:=(Int.ediv_emod_unique' (a:=x) (b:=y) (r:=r) (q:=q) hn).2 ⟨by rw [cJ y q];omega,h0,by omega⟩;exact ⟨this.1.symm,this.2.symm⟩
 have:=(rI (a:=x) (b:=y) (r:=r) (q:=q) hp).2 ⟨by rw [cJ y q];omega,h0,by omega⟩;exact ⟨this.1.symm,this.2.symm⟩
theorem NM {n1 n2:Bool} {x y la lb lq lr:Int} (hx:x=if n1=true then -la else la) (hy:y=if n2=true then -lb else lb) (hv:la=lq*lb+lr) :
 x=(if decide (n1≠n2)=true then -lq else lq)*y+(if n1=true then -lr else lr):=by
 subst hx hy hv;cases n1 <;> cases n2 <;> simp [gR,iZ,Int.neg_add]
theorem TJ {x y q r:Int} (h:x=q*y+r):x=(q - Zb y)*y+(r+y.natAbs):=by
 have:=TI y;rw [kU,this];omega
theorem TK {n1:Bool} {m:List A5} {q x y:Int} (hx:x=q*y+(if n1=true then -tA m else tA m)) (hy:y≠0) (hl:tA m<y.natAbs) (h:(n1 && decide (0<m.length))=true) (ht:E9 m) (hd:A7 m) :
 q - Zb y=x / y∧(if n1=true then -tA m else tA m)+(y.natAbs:Int)=x % y:=by
 rw [aW,aV] at h;have hp:=Pb hd ht (fun e=>by have:=h.2;rw [e] at this;simp at this);have e:=h.1;subst e;rw [aE rfl] at hx ⊢;exact FB hy (TJ hx) sW sW
theorem NN {n1:Bool} {m:List A5} {q x y:Int} (hx:x=q*y+(if n1=true then -tA m else tA m)) (hy:y≠0) (hl:tA m<y.natAbs) (h:(n1 && decide (0<m.length))=false) (hd:A7 m) :
 q=x / y∧(if n1=true then -tA m else tA m)=x % y:=by
 have hn:=uK hd;refine FB hy hx ?_ ?_
 · cases n1 with
   | false=>rw [aD (by decide)];exact hn
   | true =>
     have h0:m=[]:=by
      rw [pW,pY] at h;exact dV sW
     rw [aE rfl,h0,uO];omega
 split <;> omega
section
attribute [local irreducible] tA pb uY uD
theorem gr (G:A3) (x y:IV) (zx zy:Int) (hx:C1 G x zx) (hy:C1 G y zy) (h1:x.n≤268435456) (h2:y.n≤268435456) (hy0:zy≠0) :
 Does Tryz.prog 179 [.agg (A2.enc x).toArray,.agg (A2.enc y).toArray] G [] (fun v G' Ho=>∃ q r:IV,v=.tuple #[.agg (A2.enc q).toArray,.agg (A2.enc r).toArray,.int .i64 0]∧C1 G' q (zx / zy)∧C1 G' r (zx % zy)∧Ho=[]):=by
 obtain ⟨n1,a,k1,ca⟩:=x;obtain ⟨n2,b,k2,cb⟩:=y;obtain ⟨la,hl,hlc,hA,hI⟩:=hx;obtain ⟨lb,hl',hlc',hA',hI'⟩:=hy;simp only at hl hlc hA hI hl' hlc' hA' hI' h1 h2;subst hl hl';have da:=hI.digs;have db:=hI'.digs;have ta:=hI.top;have tb:=hI'.top;have h1':la.length≤536870912:=sW;have h2':lb.length≤536870912:=sW;have va:=hI.abs;have vb:=hI'.abs;have hlt:=wS db;have hB:0<tA lb:=sW;show Does Tryz.prog 179 [.agg #[.bool n1,.slice a la.length ca],.agg #[.bool n2,.slice b lb.length cb]] G [] _;refine D0 Tryz.func179 Tryz.ntmps179 fun w=>?_;refine aH 2 [] ?_;refine eC 0 fun b1=>?_;refine eC 1 fun b2=>?_;refine aM 2 F9 T.zero125 fun b3=>?_;refine aM 3 F9 T.zero125 fun b4=>?_;refine aL 9 [0,1] ?_;refine bS 4 F9 (gj _ _ _ _ _ _ _ sX sX da ta db h1' h2' hlc hlc' hB) fun v1 G1 Ho1 hle1 hp=>?_;obtain ⟨_,_,rfl,⟨qa1,qm1,rfl,hqa1,hql1,hqt1,hqv1,hqn1⟩,⟨ra1,rm1,rfl,hra1,hrl1,hrt1,hrv1,hrn1⟩,rfl⟩:=hp;replace hA:=hA.up hle1;replace hA':=hA'.up hle1;refine aZ 19 [0] ?_;refine pL (ι:=Nat×Nat) (fun (p,q)=>([(10,.pointer (some ⟨p,0,none⟩)),(11,.pointer (some ⟨q,0,none⟩)),(6,.int .i64 0),(5,.pointer (some (Addr.mk b4 0 none))),(4,.pointer (some (Addr.mk b3 0 none))),(3,.pointer (some ⟨b2,0,none⟩))],[(60,some p,.cells #[.bool (decide (n1≠n2) && decide (0<qm1.length)),.slice qa1 qm1.length qm1.length] 125),(61,some q,.cells #[.bool (n1 && decide (0<rm1.length)),.slice ra1 rm1.length rm1.length] 125),(3,some b4,.cells #[.bool Bool.false,.slice none 0 0] 125),(2,some b3,.cells #[.bool Bool.false,.slice none 0 0] 125),(1,some b2,.cells #[.bool n2,.slice b (List.length lb) cb] 125),(0,some b1,.cells #[.bool n1,.slice a (List.length la) ca] 125)])) (fun (p,q)=>True) ?_ fun ⟨p,q⟩=>fun (hk:True)=>?_
 · refine dK [0,1,2,3] [] T.mixed [[0],[1,0],[2],[3,1]] ?_;refine eD 4 [] F9 (EQ T.u4 F9 F9) ?_;refine dP [[5],[7],[8,0],[9]] ?_;refine Gm.o3 6 11 12 ?_ ?_ ?_;refine cF F9 (Al _ _ _ _ _ sW) ?_;refine aT ?_;refine Gm.o3 10 11 12 ?_ ?_ ?_;refine cF F9 (Al _ _ _ _ _ sW) ?_;refine aT ?_;refine mK 11 12 ?_ ?_;refine aM 4 F9 T.zero125 fun b5=>?_;refine cX 12 ?_;refine aM 5 F9 T.zero125 fun b6=>?_;refine cX 13 ?_;refine aC 1 [4] ?_;refine cX 14 ?_;refine aC 1 [5] ?_;refine fJ ?_;rotate_left;refine aM 4 F9 T.zero125 fun b5=>?_;refine cX 11 ?_;refine aM 5 F9 T.zero125 fun b6=>?_;refine cX 13 ?_;refine aC 1 [5] ?_;refine cX 14 ?_;refine aC 1 [4] ?_;refine fJ ?_;rotate_left;refine aM 4 F9 T.zero125 fun b5=>?_;refine aT ?_;refine mK 10 12 ?_ ?_;refine cF F9 (Al _ _ _ _ _ sW) ?_;refine cX 12 ?_;refine aM 5 F9 T.zero125 fun b6=>?_;refine cX 13 ?_;refine aC 1 [4] ?_;refine cX 14 ?_;refine aC 1 [5] ?_;refine fJ ?_;rotate_left;refine aM 5 F9 T.zero125 fun b6=>?_;refine cX 10 ?_;refine cF F9 (Al _ _ _ _ _ sW) ?_;refine cX 13 ?_;refine aC 1 [4] ?_;refine cX 14 ?_;refine aC 1 [5] ?_;refine fJ ?_;rotate_left;refine aM 4 F9 T.zero125 fun b5=>?_;refine aT ?_;refine mK 10 11 ?_ ?_;refine cF F9 (Al _ _ _ _ _ sW) ?_;refine cX 11 ?_;refine aM 5 F9 T.zero125 fun b6=>?_;refine cX 13 ?_;refine aC 1 [5] ?_;refine cX 14 ?_;refine aC 1 [4] ?_;refine fJ ?_;rotate_left;refine aM 5 F9 T.zero125 fun b6=>?_;refine cX 10 ?_;refine cF F9 (Al _ _ _ _ _ sW) ?_;refine cX 13 ?_;refine aC 1 [5] ?_;refine cX 14 ?_;refine aC 1 [4] ?_;refine fJ ?_;rotate_left;refine aM 4 F9 T.zero125 fun b5=>?_;refine aT ?_;refine mK 6 12 ?_ ?_;refine cF F9 (Al _ _ _ _ _ sW) ?_;refine aT ?_;refine mK 10 12 ?_ ?_;refine cF F9 (Al _ _ _ _ _ sW) ?_;refine cX 12 ?_;refine aM 5 F9 T.zero125 fun b6=>?_;refine cX 13 ?_;refine aC 1 [4] ?_;refine cX 14 ?_;refine aC 1 [5] ?_;refine fJ ?_;rotate_left;refine aM 5 F9 T.zero125 fun b6=>?_;refine cX 10 ?_;refine cF F9 (Al _ _ _ _ _ sW) ?_;refine cX 13 ?_;refine aC 1 [4] ?_;refine cX 14 ?_;refine aC 1 [5] ?_;refine fJ ?_;rotate_left;refine aM 5 F9 T.zero125 fun b6=>?_;refine cX 6 ?_;refine cF F9 (Al _ _ _ _ _ sW) ?_;refine cX 10 ?_;refine cF F9 (Al _ _ _ _ _ sW) ?_;refine cX 13 ?_;refine aC 1 [4] ?_;refine cX 14 ?_;refine aC 1 [5] ?_;refine fJ ?_;rotate_left;refine aM 4 F9 T.zero125 fun b5=>?_;refine aT ?_;refine mK 6 11 ?_ ?_;refine cF F9 (Al _ _ _ _ _ sW) ?_;refine aT ?_;refine mK 10 11 ?_ ?_;refine cF F9 (Al _ _ _ _ _ sW) ?_;refine cX 11 ?_;refine aM 5 F9 T.zero125 fun b6=>?_;refine cX 13 ?_;refine aC 1 [5] ?_;refine cX 14 ?_;refine aC 1 [4] ?_;refine fJ ?_;rotate_left;refine aM 5 F9 T.zero125 fun b6=>?_;refine cX 10 ?_;refine cF F9 (Al _ _ _ _ _ sW) ?_;refine cX 13 ?_;refine aC 1 [5] ?_;refine cX 14 ?_;refine aC 1 [4] ?_;refine fJ ?_;rotate_left;refine aM 5 F9 T.zero125 fun b6=>?_;refine cX 6 ?_;refine cF F9 (Al _ _ _ _ _ sW) ?_;refine cX 10 ?_;refine cF F9 (Al _ _ _ _ _ sW) ?_;refine cX 13 ?_;refine aC 1 [5] ?_;refine cX 14 ?_;refine aC 1 [4] ?_;refine fJ ?_;rotate_left;all_goals first | (refine Ar.retag 4 60 F9 F9 (Ar.retag 5 61 F9 F9 (pR (b5,b6) H2 F9 ?_ ?_)) <;> (repeat (first | exact H2 | refine ⟨F9,?_⟩));done) | (refine Ar.retag 5 60 F9 F9 (Ar.retag 4 61 F9 F9 (pR (b6,b5) H2 F9 ?_ ?_)) <;> (repeat (first | exact H2 | refine ⟨F9,?_⟩));done)
 have hxy:=NM hI.val hI'.val (show tA la=tA qm1*tA lb+tA rm1 by rw [hqv1,hrv1,cJ];exact (Int.mul_ediv_add_emod (tA la) (tA lb)).symm);have hrlt:tA rm1<tA lb:=by rw [hrv1];exact gL _ hB
 have hQ0:=nR (decide (n1≠n2)) hqa1 hql1 hqt1 (aI _) F9;have hy2:C1 G1 ⟨n2,b,lb.length,cb⟩ zy:=⟨lb,F9,hlc',hA',hI'⟩
 have hR0:=nR n1 hra1 hrl1 hrt1 (aI _) F9;refine bL 7 [61] ?_;refine lN F9 (fun hc1=>?_) fun hc1=>?_;refine dN ?_;refine dK [0,1,2,3,61,60] [(61,4)] T.mixed [[0,61],[1,1]] ?_;refine bE 2 ?_;refine bS 62 F9 (gn _ ⟨n2,b,lb.length,cb⟩ zy hy2 (bO h2' tG)) fun v2 G2 Ho2 hle2 hp=>?_;obtain ⟨nr2,rfl,hnr2,rfl,rfl⟩:=hp;refine cX 3 ?_;refine bS 62 F9 (XR _ ⟨(n1 && decide (0<rm1.length)),ra1,rm1.length,rm1.length⟩ nr2 _ _ hR0 hnr2 (bO hrn1 h2') (bO (jQ hnr2 (m:=lb.length) sW) h2')) fun v3 G3 Ho3 hle3 hp=>?_;obtain ⟨rs3,rfl,hrs3,rfl⟩:=hp;replace hnr2:=hnr2.up hle3;replace hqa1:=hqa1.up hle3;replace hra1:=hra1.up hle3;replace hA:=hA.up hle3;replace hA':=hA'.up hle3;replace hQ0:=hQ0.up hle3;replace hy2:=hy2.up hle3;replace hR0:=hR0.up hle3;refine cX 4 ?_;refine aC 1 [61] ?_;refine fJ ?_;refine cN ?_;refine dK [0,1,2,3,60,61] [(60,5)] T.mixed [[0,60],[1,1]] ?_;refine bE 2 ?_;refine cF F9 (ak _ _ _ _ _ zy hI' sW) ?_;refine cX 3 ?_;refine bS 62 F9 (RI _ _ (TG zy)) fun v4 G4 Ho4 hle4 hp=>?_;obtain ⟨ro4,rfl,hro4,rfl⟩:=hp;replace hrs3:=hrs3.up hle4;replace hnr2:=hnr2.up hle4;replace hqa1:=hqa1.up hle4;replace hra1:=hra1.up hle4;replace hA:=hA.up hle4;replace hA':=hA'.up hle4;replace hQ0:=hQ0.up hle4;replace hy2:=hy2.up hle4;replace hR0:=hR0.up hle4;refine cX 4 ?_;refine bS 62 F9 (aq _ ⟨(decide (n1≠n2) && decide (0<qm1.length)),qa1,qm1.length,qm1.length⟩ ro4 _ _ hQ0 hro4 (bO hqn1 h1') (bO (jQ hro4 (m:=1) (TH zy)) tG)) fun v5 G5 Ho5 hle5 hp=>?_;obtain ⟨rd5,rfl,hrd5,rfl⟩:=hp;replace hro4:=hro4.up hle5;replace hrs3:=hrs3.up hle5;replace hnr2:=hnr2.up hle5;replace hqa1:=hqa1.up hle5;replace hra1:=hra1.up hle5;replace hA:=hA.up hle5;replace hA':=hA'.up hle5;replace hQ0:=hQ0.up hle5;replace hy2:=hy2.up hle5;replace hR0:=hR0.up hle5;refine cX 5 ?_;refine aC 1 [60] ?_;refine fJ ?_;refine lW 2 [] ?_;refine dK [0,1,2,3,61,60] [(3,3),(2,2)] T.mixed [[0,60],[1,61]] ?_;refine bE 2 ?_;refine aC 1 [2] ?_;refine cX 3 ?_;refine aC 1 [3] ?_;refine aT ?_;refine dP [[4]] ?_;refine cT ?_;refine dO 2 [] ?_;refine Ip (.inr F9) (Ho:=Hp.only _ []) F9 (.agg 2 F9 F9 T.agg125) (.agg 3 F9 F9 T.agg125) (.tmp F9) (aU _ _) ?_;rotate_left;refine bL 3 [] ?_;refine dK [0,1,2,3,61,60] [(3,3),(2,2)] T.mixed [[0,60],[1,61]] ?_;refine bE 2 ?_;refine aC 1 [2] ?_;refine cX 3 ?_;refine aC 1 [3] ?_;refine aT ?_;refine dP [[4]] ?_;refine cT ?_;refine dO 2 [] ?_;refine Ip (.inr F9) (Ho:=Hp.only _ []) F9 (.agg 2 F9 F9 T.agg125) (.agg 3 F9 F9 T.agg125) (.tmp F9) (aU _ _) ?_;rotate_left
 · have he:=TK hxy hy0 sW hc1 hrt1 hrl1;refine ⟨rd5,rs3,F9,?_,?_,F9⟩
   · rw [←he.1];exact hrd5
   rw [←he.2];exact hrs3
 have he:=NN hxy hy0 sW hc1 hrl1;refine ⟨⟨(decide (n1≠n2) && decide (0<qm1.length)),qa1,qm1.length,qm1.length⟩,⟨(n1 && decide (0<rm1.length)),ra1,rm1.length,rm1.length⟩,F9,?_,?_,F9⟩
 · rw [←he.1];exact hQ0
 rw [←he.2];exact hR0
end
theorem gu (G:A3) (op:Int):Does Tryz.prog 161 [.int .i64 op] G [] (fun v G' Ho=>v=.bool (decide (op=3∨op=4))∧G'=G∧Ho=[]):=by
 refine D0 Tryz.func161 Tryz.ntmps161 fun w=>?_;refine aH 10 [] ?_;apply dZ 3 5 8 F9;intro hg1;refine aC 5 [] ?_;exact dI 3 0;intro hg1;refine aC 3 [] ?_;exact dI 3 0;refine aS 4 [] ?_;refine dA ?_;exact ⟨by simp,rfl,rfl⟩
def tK (op c:Int):Bool:=
 if op=5∨op=6 then decide (c≠0∧-512≤c∧c≤512) else if op=7∨op=8 then decide (1≤c∧c≤64) else decide (c=0)
theorem gv (G:A3) (i:Sl.Instr):Does Tryz.prog 162 [.agg (A2.enc i).toArray] G [] (fun v G' Ho=>v=.bool (decide (tK i.op i.c=true))∧G'=G∧Ho=[]):=by
 refine D0 Tryz.func162 Tryz.ntmps162 fun w=>?_;refine aH 2 [] ?_;refine eC 0 fun b1=>?_;refine aZ 18 [0] ?_;refine dB (fun hc1=>?_) fun hc1=>?_;refine aH 9 [1,0] ?_;apply bW 4 11 15 F9;intro hg1;refine aC 7 [0] ?_;exact dI 4 0;intro hg1;refine aC 4 [] ?_;exact dI 4 0;refine aC 1 [] ?_;apply bW 4 16 20 F9;intro hg1;refine aC 7 [0] ?_;exact dI 4 0;intro hg1;refine aC 4 [] ?_;exact dI 4 0;refine aS 6 [] ?_;refine dA ?_;rotate_left;refine bL 5 [] ?_;refine dB (fun hc2=>?_) fun hc2=>?_;refine aH 6 [0] ?_;apply bW 4 11 15 F9;intro hg1;refine aC 7 [0] ?_;exact dI 4 0;intro hg1;refine aC 4 [] ?_;exact dI 4 0;refine aC 1 [] ?_;apply bW 4 16 20 F9;intro hg1;refine aC 7 [0] ?_;exact dI 4 0;intro hg1;refine aC 4 [] ?_;exact dI 4 0;refine aS 6 [] ?_;refine dA ?_;rotate_left;refine bL 7 [] ?_;refine dB (fun hc3=>?_) fun hc3=>?_;refine aH 9 [1,0] ?_;apply bW 4 27 31 F9;intro hg1;refine aC 7 [0] ?_;exact dI 4 0;intro hg1;refine aC 4 [] ?_;exact dI 4 0;refine aS 6 [] ?_;refine dA ?_;rotate_left;refine bL 5 [] ?_;refine dB (fun hc4=>?_) fun hc4=>?_;refine aH 6 [0] ?_;apply bW 4 27 31 F9;intro hg1;refine aC 7 [0] ?_;exact dI 4 0;intro hg1;refine aC 4 [] ?_;exact dI 4 0;refine aS 6 [] ?_;refine dA ?_;rotate_left;refine bG 12 [0] ?_;refine dA ?_;rotate_left;all_goals refine ⟨?_,F9,F9⟩
 all_goals simp [tK, *]
 all_goals first | (split <;> first | rfl | omega) | omega | (simp only [Bool.and_assoc];rfl) | (simp only [Bool.and_assoc]) | skip
def tM (i:Sl.Instr):List Int:=if i.op=3∨i.op=4 then [i.a,i.b] else if 1≤i.op∧i.op≤8 then [i.a] else []
theorem IN (G:A3) (i:Sl.Instr):Does Tryz.prog 83 [.agg (A2.enc i).toArray] G [] (fun v G' Ho=>∃ a c junk,v=.slice a (tM i).length c∧A4 a c (tM i) junk∧Ho=[(1,a.map (·.block),Row 3 (tM i) junk)]∧G'=G):=by
 refine D0 Tryz.func83 Tryz.ntmps83 fun w=>?_;refine aH 2 [] ?_;refine eC 0 fun b1=>?_;refine aZ 18 [0] ?_;refine dB (fun hc1=>?_) fun hc1=>?_;refine aH 9 [1,0,0] ?_;refine cC (α:=Int) 1 [(Go.Sl.Instr.a i),(Go.Sl.Instr.b i)] F9 T.sl24 T.el3 F9 F9 F9 F9 F9 fun b2=>?_;refine aS 6 [] ?_;rotate_left;refine bL 5 [] ?_;refine dB (fun hc2=>?_) fun hc2=>?_;refine aH 6 [0,0] ?_;refine cC (α:=Int) 1 [(Go.Sl.Instr.a i),(Go.Sl.Instr.b i)] F9 T.sl24 T.el3 F9 F9 F9 F9 F9 fun b2=>?_;refine aS 6 [] ?_;rotate_left;refine bL 7 [] ?_;refine dB (fun hc3=>?_) fun hc3=>?_;refine aH 7 [1,0] ?_;refine cC (α:=Int) 1 [(Go.Sl.Instr.a i)] F9 T.sl24 T.el3 F9 F9 F9 F9 F9 fun b2=>?_;refine aS 6 [] ?_;rotate_left;refine bL 6 [] ?_;refine dB (fun hc4=>?_) fun hc4=>?_;refine aH 7 [1,0] ?_;refine cC (α:=Int) 1 [(Go.Sl.Instr.a i)] F9 T.sl24 T.el3 F9 F9 F9 F9 F9 fun b2=>?_;refine aS 6 [] ?_;rotate_left;refine bL 6 [] ?_;refine dB (fun hc5=>?_) fun hc5=>?_;refine aH 7 [1,0] ?_;refine cC (α:=Int) 1 [(Go.Sl.Instr.a i)] F9 T.sl24 T.el3 F9 F9 F9 F9 F9 fun b2=>?_;refine aS 6 [] ?_;rotate_left;refine bL 6 [] ?_;refine dB (fun hc6=>?_) fun hc6=>?_;refine aH 7 [1,0] ?_;refine cC (α:=Int) 1 [(Go.Sl.Instr.a i)] F9 T.sl24 T.el3 F9 F9 F9 F9 F9 fun b2=>?_;refine aS 6 [] ?_;rotate_left;refine bL 6 [] ?_;refine dB (fun hc7=>?_) fun hc7=>?_;refine aH 7 [1,0] ?_;refine cC (α:=Int) 1 [(Go.Sl.Instr.a i)] F9 T.sl24 T.el3 F9 F9 F9 F9 F9 fun b2=>?_;refine aS 6 [] ?_;rotate_left;refine bL 5 [] ?_;refine dB (fun hc8=>?_) fun hc8=>?_;refine aH 4 [0] ?_;refine cC (α:=Int) 1 [(Go.Sl.Instr.a i)] F9 T.sl24 T.el3 F9 F9 F9 F9 F9 fun b2=>?_;refine aS 6 [] ?_;rotate_left;refine bG 9 [] ?_;rotate_left
 rotate_right
 · have h:tM i=[]:=by unfold tM;rw [aD (by omega),aD (by omega)]
   refine Kt 1 (Row 3 ([]:List Int) []) ?_;refine nT [1] ?_;rw [h];exact ⟨_,_,_,F9,eG,F9,F9⟩
 all_goals first | refine cK (.inr F9) (Ho:=Hp.only _ [1]) F9 (.tmp F9) (aU _ _) ?_
 all_goals first
  | (have h:tM i=[i.a,i.b]:=by unfold tM;rw [aE (by omega)]
     rw [h];exact ⟨_,_,_,F9,fP Dv,F9,F9⟩)
  | (have h:tM i=[i.a]:=by unfold tM;rw [aD (by omega),aE (by omega)]
     rw [h];exact ⟨_,_,_,F9,fP Dv,F9,F9⟩)
  | skip
def tI (i:Sl.Instr) (regs:Int):Bool:=
 decide (1≤i.op∧i.op≤8∧0≤i.to∧i.to<regs∧(i.op=3∨i.op=4∨i.b=0)) && tK i.op i.c && (tM i).all fun r=>decide (0≤r∧r<regs)
theorem Jb {α:Type} [Inhabited α] (p:α→Bool) {l:List α} {k:Nat} (h:k<l.length):(l.take (k+1)).all p=((l.take k).all p && p (l[((k:Nat):Int).toNat]?.getD default)):=by
 have:l.take (k+1)=l.take k++[l[(k:Int).toNat]?.getD default]:=by
  rw [cG,aF,aA h];rfl
 rw [this,List.all_append];simp
theorem gw (G:A3) (i:Sl.Instr) (regs:Int):Does Tryz.prog 112 [.agg (A2.enc i).toArray,.int .i64 regs] G [] (fun v G' Ho=>v=.bool (decide (tI i regs=true))∧G'=G∧Ho=[]):=by
 refine D0 Tryz.func112 Tryz.ntmps112 fun w=>?_;refine aH 2 [] ?_;refine eC 0 fun b1=>?_;refine aL 10 [0] ?_;apply dZ 4 10 14 F9;intro hg1;refine aC 7 [0] ?_;exact dI 4 0;intro hg1;refine aC 4 [] ?_;exact dI 4 0;refine aC 1 [] ?_;apply dZ 4 15 19 F9;intro hg1;refine aC 7 [0] ?_;exact dI 4 0;intro hg1;refine aC 4 [] ?_;exact dI 4 0;refine aC 1 [] ?_;apply dZ 5 20 25 F9;intro hg1;refine aC 9 [0] ?_;exact dI 5 0;intro hg1;refine aC 5 [] ?_;exact dI 5 0;refine aC 1 [] ?_;apply dZ 10 26 36 F9;intro hg1;refine aC 5 [0] ?_;refine cF F9 (gu _ _) ?_;refine aC 1 [] ?_;refine aQ (fS F9) ?_;refine aC 2 [] ?_;apply bW 4 31 35 F9;intro hg1;refine aC 8 [0] ?_;exact dI 4 0;intro hg1;refine aC 5 [] ?_;exact dI 4 0;refine aC 1 [] ?_;exact dI 7 0;intro hg1;refine aC 5 [] ?_;refine Oq F9 F9 F9 ?_;refine Oq F9 F9 F9 ?_;refine Oq F9 F9 F9 ?_;refine aC 2 [] ?_;exact dI 10 0;refine aC 1 [] ?_;apply dZ 4 37 41 F9;intro hg1;refine aC 3 [0] ?_;refine cF F9 (gv _ _) ?_;refine aC 1 [] ?_;refine aQ (fS F9) ?_;refine aC 1 [] ?_;exact dI 4 0;intro hg1;refine aC 4 [] ?_;exact dI 4 0;refine aZ 2 [] ?_;refine dB (fun hc1=>?_) fun hc1=>?_;refine bG 7 [] ?_;refine dA ?_;rotate_left;refine aH 6 [0] ?_;refine bS 1 F9 (IN _ _) fun v1 G1 Ho1 hle1 hp=>?_;obtain ⟨ad1,cd1,junk1,rfl,hoa1,rfl,rfl⟩:=hp;refine aZ 5 [] ?_;rotate_left
 · refine ⟨?_,F9,F9⟩;have:tI i regs=false:=by
    unfold tI;rcases hc1 with ((((h | h) | h) | h) | h) | h
    all_goals first | (rw [cD sW];rfl) | simp [h]
   simp [this]
 have hasks:(tM i).length≤2:=by unfold tM;split <;> (try split) <;> simp
 refine iA (ι:=Nat) (fun k=>([(45,.int .i64 (k:Int)),(44,.int .i64 (↑(List.length (tM i)):Int)),(43,.slice ad1 (List.length (tM i)) cd1),(1,.int .i64 regs)],[(2,Option.map (fun x=>Go.Addr.block x) ad1,Row (α:=Int) 3 (tM i) (junk1)),(0,some b1,.cells (List.toArray (A2.enc i)) 91)])) (fun k=>k≤(tM i).length∧((tM i).take k).all (fun r=>decide (0≤r∧r<regs))=true) (fun k=>(tM i).length - k) (0) (⟨aN _,F9⟩) fun k=>fun hk=>?_;obtain ⟨hk1,hk2⟩:=hk;refine bL 6 [] ?_;refine dB (fun hc2=>?_) fun hc2=>?_;refine aH 6 [] ?_;refine iK (α:=Int) T.sl24 ?_;refine nG 2 0 T.one3 ?_;refine aL 8 [] ?_;apply dZ 4 51 55 F9;intro hg1;refine aC 7 [] ?_;exact dI 4 0;intro hg1;refine aC 4 [] ?_;exact dI 4 0;refine aZ 2 [] ?_;refine dB (fun hc3=>?_) fun hc3=>?_;refine bG 11 [] ?_;refine dA ?_;rotate_left;refine bG 7 [] ?_;rotate_left;refine bG 11 [] ?_;refine dA ?_;rotate_left
 · refine ⟨?_,F9,F9⟩;have hl:k<(tM i).length:=sW;have hx:(tM i)[(k:Int).toNat]?.getD default∈tM i:=by rw [aF,aA hl];simp
   have hf:((tM i).all fun r=>decide (0≤r∧r<regs))=false:=by
    rw [List.all_eq_false];exact ⟨_,hx,by simp only [aV];omega⟩
   have:tI i regs=false:=by unfold tI;rw [hf];simp
   simp [this]
 · refine cM (k+1) ?_ ?_
   · refine ⟨by omega,?_⟩;rw [Jb _ sW,hk2];simp only [pW,aV];omega
   omega
 refine ⟨?_,F9,F9⟩;have hk:k=(tM i).length:=sW;subst hk;rw [bD] at hk2;have:tI i regs=true:=by
  unfold tI;rw [hk2];simp only [not_or] at hc1;simp only [pX,aW,aV];refine ⟨by omega,?_⟩;have:=hc1.2;simpa using this
 simp [this]
structure PV where
 ins:Int
 regs:Int
 code:List Sl.Instr
 outs:List Int
abbrev I0(p:PV)(ac:Option Addr)(cc:Nat)(ao:Option Addr)(co:Nat):Array Value:=#[.int .i64 p.ins,.int .i64 p.regs,.slice ac p.code.length cc,.slice ao p.outs.length co]
def xH (p:PV):Bool:=decide (1≤p.ins∧p.ins≤p.regs∧p.regs≤128∧p.code.length≤16384∧1≤p.outs.length∧p.outs.length≤128) && p.outs.all fun r=>decide (0≤r∧r<p.regs)
def Cs (p:PV):Option Nat:=p.code.findIdx? fun i=>!tI i p.regs
def vC (p:PV):Int×Bool:=if xH p=false then (-1,true) else match Cs p with | some k=>(k,true) | none=>(0,false)
theorem Zd {α:Type} [Inhabited α] {p:α→Bool} {l:List α} {k:Nat} (h:k<l.length) (h1:(l.take k).all p=true) (h2:¬p (l[((k:Nat):Int).toNat]?.getD default)=true):l.findIdx? (fun i=>!p i)=some k:=by
 rw [nE];rw [aF,aA h,eH] at h2;refine ⟨h,by simpa using h2,fun j hj=>?_⟩;have hm:l[j]'(by omega)∈l.take k:=by rw [List.mem_take_iff_getElem];exact ⟨j,by omega,F9⟩
 have:=eN.1 h1 _ hm;simpa using this
theorem Ta {α:Type} {p:α→Bool} {l:List α} (h1:l.all p=true):l.findIdx? (fun i=>!p i)=none:=by
 rw [gT];intro x hx;simpa using eN.1 h1 x hx
theorem ZK (G:A3) (p:PV) (ac ao:Option Addr) (cc co:Nat) (hc:Arr G ac p.code) (ho:Arr G ao p.outs) (h1:p.code.length≤1099511627776) (h2:p.outs.length≤1099511627776) :
 Does Tryz.prog 56 [.agg (I0 p ac cc ao co)] G [] (fun v G' Ho=>v=.tuple #[.int .i64 (vC p).1,.int .i64 (if (vC p).2 then 80 else 0)]∧G'=G∧Ho=[]):=by
 refine D0 Tryz.func56 Tryz.ntmps56 fun w=>?_;refine aH 2 [] ?_;refine eC 0 fun b1=>?_;refine aL 11 [0] ?_;apply dZ 6 11 17 F9;intro hg1;refine aC 11 [0,0] ?_;exact dI 6 0;intro hg1;refine aC 6 [] ?_;exact dI 6 0;refine aC 1 [] ?_;apply dZ 4 18 22 F9;intro hg1;refine aC 7 [0] ?_;exact dI 4 0;intro hg1;refine aC 4 [] ?_;exact dI 4 0;refine aC 1 [] ?_;apply dZ 5 23 28 F9;intro hg1;refine aC 9 [0] ?_;exact dI 5 0;intro hg1;refine aC 5 [] ?_;exact dI 5 0;refine aC 1 [] ?_;apply dZ 5 29 34 F9;intro hg1;refine aC 9 [0] ?_;exact dI 5 0;intro hg1;refine aC 5 [] ?_;exact dI 5 0;refine aC 1 [] ?_;apply dZ 5 35 40 F9;intro hg1;refine aC 9 [0] ?_;exact dI 5 0;intro hg1;refine aC 5 [] ?_;exact dI 5 0;refine aZ 2 [] ?_;refine dB (fun hc1=>?_) fun hc1=>?_;refine bG 8 [] ?_;refine iB ?_;rotate_left;refine bL 12 [0] ?_;rotate_left
 · refine ⟨?_,F9,F9⟩;have:xH p=false:=by unfold xH;rw [cD sW];rfl
   simp [vC,this]
 refine iA (ι:=Nat) (fun k=>([(44,.int .i64 (k:Int)),(43,.int .i64 (↑p.outs.length:Int)),(42,.slice ao p.outs.length co),(1,.pointer (some ⟨b1,0,none⟩))],[(0,some b1,.cells (I0 p ac cc ao co) 26)])) (fun k=>k≤p.outs.length∧(p.outs.take k).all (fun r=>decide (0≤r∧r<p.regs))=true) (fun k=>p.outs.length - k) (0) (⟨aN _,F9⟩) fun k=>fun hk=>?_;obtain ⟨hk1,hk2⟩:=hk;refine bL 6 [] ?_;refine dB (fun hc2=>?_) fun hc2=>?_;refine aH 6 [] ?_;refine fV (α:=Int) T.sl24 ?_;refine jG 0 T.one3 ?_;refine aL 8 [] ?_;apply dZ 5 50 55 F9;intro hg1;refine aC 9 [0] ?_;exact dI 5 0;intro hg1;refine aC 5 [] ?_;exact dI 5 0;refine aZ 2 [] ?_;refine dB (fun hc3=>?_) fun hc3=>?_;refine bG 12 [] ?_;refine iB ?_;rotate_left;refine bG 7 [] ?_;rotate_left;refine bL 15 [0] ?_;rotate_left
 · refine ⟨?_,F9,F9⟩;have hl:k<p.outs.length:=sW;have hx:p.outs[(k:Int).toNat]?.getD default∈p.outs:=by rw [aF,aA hl];simp
   have hf:(p.outs.all fun r=>decide (0≤r∧r<p.regs))=false:=by
    rw [List.all_eq_false];exact ⟨_,hx,by simp only [aV];omega⟩
   have:xH p=false:=by unfold xH;rw [hf,Bool.and_false]
   simp [vC,this]
 · refine cM (k+1) ?_ ?_
   · refine ⟨by omega,?_⟩;rw [Jb _ sW,hk2];simp only [pW,aV];omega
   omega
 have hk:k=p.outs.length:=sW;subst hk;rw [bD] at hk2;have hh:xH p=true:=by
  unfold xH;rw [hk2,pX,aV];omega
 clear hk1 hk2 hc2;refine iA (ι:=Nat) (fun k=>([(60,.int .i64 (k:Int)),(59,.int .i64 (↑p.code.length:Int)),(58,.slice ac p.code.length cc),(1,.pointer (some ⟨b1,0,none⟩))],[(0,some b1,.cells (I0 p ac cc ao co) 26)])) (fun k=>k≤p.code.length∧(p.code.take k).all (fun i=>tI i p.regs)=true) (fun k=>p.code.length - k) (0) (⟨aN _,F9⟩) fun k=>fun hk=>?_;obtain ⟨hk1,hk2⟩:=hk;refine bL 6 [] ?_;refine dB (fun hc2=>?_) fun hc2=>?_;refine aH 7 [] ?_;refine fV (α:=Instr) T.sl23 ?_;refine lP T.agg91 ?_;refine aM 1 F9 T.zero91 fun b2=>?_;refine aL 9 [1,1,0] ?_;refine cF F9 (gw _ _ _) ?_;refine aQ (fS F9) ?_;refine aZ 2 [] ?_;refine dB (fun hc3=>?_) fun hc3=>?_;refine bG 13 [] ?_;refine iB ?_;rotate_left;refine bG 7 [] ?_;rotate_left;refine bG 12 [] ?_;refine iB ?_;rotate_left
 · refine ⟨?_,F9,F9⟩;have hl:k<p.code.length:=sW;have:Cs p=some k:=Zd hl hk2 hc3;simp [vC,hh,this]
 · refine cM (k+1) ?_ ?_
   · refine ⟨by omega,?_⟩;rw [Jb _ sW,hk2];simpa using hc3
   omega
 refine ⟨?_,F9,F9⟩;have hk:k=p.code.length:=sW;subst hk;rw [bD] at hk2;have:Cs p=none:=Ta hk2;simp [vC,hh,this]
def sY (p:PV):Bool:=!(vC p).2
theorem tU (i:Sl.Instr) (regs:Int):tI i regs=true↔(1≤i.op∧i.op≤8∧0≤i.to∧i.to<regs∧0≤i.a∧i.a<regs)∧
 (if i.op=3∨i.op=4 then 0≤i.b∧i.b<regs∧i.c=0 else i.b=0∧(if i.op=5∨i.op=6 then i.c≠0∧-512≤i.c∧i.c≤512 else if i.op=7∨i.op=8 then 1≤i.c∧i.c≤64 else i.c=0)):=by
 unfold tI tK tM;by_cases h3:i.op=3∨i.op=4
 · have h5:¬(i.op=5∨i.op=6):=sW;have h7:¬(i.op=7∨i.op=8):=sW;simp only [aE h3,aD h5,aD h7,kK,List.all_nil,pX,aW,aV];omega
 by_cases h1:1≤i.op∧i.op≤8
 · simp only [aD h3,aE h1,kK,List.all_nil,pX,aW,aV];by_cases h5:i.op=5∨i.op=6
   · simp only [aE h5,aV];omega
   by_cases h7:i.op=7∨i.op=8
   · simp only [aD h5,aE h7,aV];omega
   simp only [aD h5,aD h7,aV];omega
 simp only [aD h3,aD h1,List.all_nil,pX,aW,aV];constructor <;> (intro h;omega)
instance:DecidableEq PV:=fun a b=>by
 cases a;cases b;simp only [PV.mk.injEq];infer_instance
theorem Jc {α:Type} [Inhabited α] {l m:List α} {k:Nat} (hl:k<l.length) (hm:k<m.length) (h:l.take k=m.take k)
 (he:l[((k:Nat):Int).toNat]?.getD default=m[((k:Nat):Int).toNat]?.getD default):l.take (k+1)=m.take (k+1):=by
 rw [aF,aA hl,aA hm] at he;rw [cG,cG,h,aA hl,aA hm];simp only [eH] at he;rw [he]
structure Tab where
 held:List Int
 known:List (K4×Int)
 first:List (K4×Int)
 next:Int
def start (p:PV):List Int:=(List.range p.regs.toNat).map fun r=>if (p.ins:Int)<((r:Nat):Int) then p.ins else ((r:Nat):Int)
def holder (l:List Int) (v:Int):Int:=match l.findIdx? (fun x=>decide (x=v)) with | some k=>(k:Int) | none=>-1
def keyOf (held:List Int) (i:Sl.Instr):K4:=
 let a:=held[i.a.toNat]?.getD default
 if i.op=3∨i.op=4 then
  let b:=held[i.b.toNat]?.getD default
  if i.op=3∧b<a then ⟨i.op,b,a,i.c⟩ else ⟨i.op,a,b,i.c⟩
 else ⟨i.op,a,-1,i.c⟩
theorem Ze (i:Sl.Instr):(1<((tM i).length:Int))↔(i.op=3∨i.op=4):=by
 unfold tM;by_cases h:i.op=3∨i.op=4
 · simp [h]
 rw [aD h];split <;> simp [h]
def reckonP (t:Tab) (n:Int) (i:Sl.Instr):(Int×Int)×Tab:=
 if i.op=1 then ((t.held[i.a.toNat]?.getD default,-1),t)
 else match A8 t.known (keyOf t.held i) with
  | none=>((t.next,n),{ t with known:=t.known++[(keyOf t.held i,t.next)],first:=t.first++[(keyOf t.held i,n)],next:=t.next+1 })
  | some v=>((v,(A8 t.first (keyOf t.held i)).getD 0),t)
theorem Tb {xs:List (K4×Int)} {k:K4} {v:Int} (h:A8 xs k=none):A8 (xs++[(k,v)]) k=some v:=by
 rw [←zF xs k v h,xQ,aE rfl]
def askedP (held:List Int) (i:Sl.Instr):Sl.Instr:=
 { i with a:=holder held (held[i.a.toNat]?.getD default),b:=if i.op=3∨i.op=4 then holder held (held[i.b.toNat]?.getD default) else i.b }
def tR (s:Tab×List Sl.Instr) (n:Int) (i:Sl.Instr):Tab×List Sl.Instr:=
 let v:=(reckonP s.1 n i).1.1
 let t:=(reckonP s.1 n i).2
 let j:=askedP t.held i
 if t.held[i.to.toNat]?.getD default=v then (t,s.2)
 else ({ t with held:=t.held.set i.to.toNat v },s.2++[if 0≤holder t.held v then ⟨1,j.to,holder t.held v,0,0⟩ else j])
def uC (p:PV):Nat→Tab×List Sl.Instr
 | 0=>(⟨start p,[],[],p.ins+1⟩,[])
 | k+1=>tR (uC p k) k (p.code[((k:Nat):Int).toNat]?.getD default)
def wG (p:PV) (held:List Int):List Int:=p.outs.map fun r=>holder held (held[r.toNat]?.getD default)
def xT (p:PV):PV:=⟨p.ins,p.regs,(uC p p.code.length).2,wG p (uC p p.code.length).1.held⟩
theorem tB {p:PV} (h:sY p=true):1≤p.ins∧p.ins≤p.regs∧p.regs≤128∧p.code.length≤16384∧1≤p.outs.length∧p.outs.length≤128∧(∀ r∈p.outs,0≤r∧r<p.regs)∧(∀ i∈p.code,tI i p.regs=true):=by
 unfold sY vC at h;by_cases hh:xH p=false
 · rw [aE hh] at h;cases h
 rw [aD hh] at h;have hb:Cs p=none:=by
  cases hb:Cs p with
  | none=>rfl
  | some k=>rw [hb] at h;cases h
 have hh':xH p=true:=by simpa using hh
 unfold xH at hh';rw [aW,aV,eN] at hh';unfold Cs at hb;rw [gT] at hb;obtain ⟨⟨g1,g2,g3,g4,g5,g6⟩,g7⟩:=hh';refine ⟨g1,g2,g3,g4,g5,g6,fun r hr=>?_,fun i hi=>?_⟩
 · have:=g7 r hr;rw [aV] at this;exact this
 simpa using hb i hi
theorem Bz (t:Tab) (n:Int) (i:Sl.Instr):(reckonP t n i).2.held=t.held:=by
 unfold reckonP;split
 · rfl
 split <;> rfl
theorem Kz {t:Tab} {n:Int} {i:Sl.Instr} (h:∀ x,A8 t.known x=none→A8 t.first x=none):∀ x,A8 (reckonP t n i).2.known x=none→A8 (reckonP t n i).2.first x=none:=by
 unfold reckonP;split
 · exact h
 split
 · rename_i hk;intro x hx;rw [←zF _ _ _ hk,xQ] at hx;rw [←zF _ _ _ (h _ hk),xQ];split at hx
   · cases hx
   rename_i hne;rw [aD hne];exact h _ hx
 exact h
theorem yK {t:Tab} (h:0≤t.next) (n:Int) (i:Sl.Instr):0≤(reckonP t n i).2.next∧(reckonP t n i).2.next≤t.next+1:=by
 unfold reckonP;split
 · exact ⟨h,by show t.next≤_;omega⟩
 split
 · exact ⟨by show 0≤t.next+1;omega,jA _⟩
 exact ⟨h,by show t.next≤_;omega⟩
section
variable {t:Tab} {out:List Sl.Instr} {n:Int} {i:Sl.Instr}
theorem Gt (h:(reckonP t n i).2.held[(askedP (reckonP t n i).2.held i).to.toNat]?.getD default=(reckonP t n i).1.1):tR (t,out) n i=((reckonP t n i).2,out):=aE h
theorem Gu (h:¬(reckonP t n i).2.held[(askedP (reckonP t n i).2.held i).to.toNat]?.getD default=(reckonP t n i).1.1) (h2:0≤holder (reckonP t n i).2.held (reckonP t n i).1.1) :
 tR (t,out) n i=({ (reckonP t n i).2 with held:=(reckonP t n i).2.held.set (askedP (reckonP t n i).2.held i).to.toNat (reckonP t n i).1.1 },out++[⟨1,(askedP (reckonP t n i).2.held i).to,holder (reckonP t n i).2.held (reckonP t n i).1.1,0,0⟩]):=
 (aD h).trans (by rw [aE h2];rfl)
theorem Gw (h:¬(reckonP t n i).2.held[(askedP (reckonP t n i).2.held i).to.toNat]?.getD default=(reckonP t n i).1.1) (h2:¬0≤holder (reckonP t n i).2.held (reckonP t n i).1.1) :
 tR (t,out) n i=({ (reckonP t n i).2 with held:=(reckonP t n i).2.held.set (askedP (reckonP t n i).2.held i).to.toNat (reckonP t n i).1.1 },out++[askedP (reckonP t n i).2.held i]):=
 (aD h).trans (by rw [aD h2];rfl)
end
theorem Ca {l:List Int} {v:Int} (h:0≤holder l v):holder l v<l.length∧l[(holder l v).toNat]?.getD default=v:=by
 unfold holder at h ⊢;cases hk:l.findIdx? (fun x=>decide (x=v)) with
 | none=>rw [hk] at h;simp at h
 | some k =>
   rw [nE] at hk;obtain ⟨h1,h2,_⟩:=hk;simp only [aV] at h2;refine ⟨by show (k:Int)<_;omega,?_⟩;show l[(k:Int).toNat]?.getD default=v;rw [aF,aA h1];exact h2
theorem Zf {l:List Int} {v:Int} (h:¬0≤holder l v):holder l v=-1:=by
 unfold holder at h ⊢;cases hk:l.findIdx? (fun x=>decide (x=v)) with
 | none=>rfl
 | some k=>rw [hk] at h;exact absurd (rW k) h
theorem DF {l:List Int} {v:Int} (h:v∈l):0≤holder l v:=by
 unfold holder;cases hk:l.findIdx? (fun x=>decide (x=v)) with
 | none=>rw [gT] at hk;have:=hk v h;simp at this
 | some k=>exact rW k
theorem IP {l:List Int} {v n:Int} (hl:∀ x∈l,x<n) (h:n≤v):holder l v=-1:=by
 refine Zf fun hh=>?_;obtain ⟨h1,h2⟩:=Ca hh;have hm:v∈l:=by
  have hlt:(holder l v).toNat<l.length:=sW;rw [aA hlt,eH] at h2;rw [←h2];exact bZ hlt
 have:=hl v hm;omega
theorem get_mem {l:List Int} {r:Int} (h:0≤r∧r<l.length):l[r.toNat]?.getD default∈l:=by
 have hlt:r.toNat<l.length:=sW;rw [aA hlt];exact bZ hlt
theorem zI {l:List Int} {r:Int} (h:0≤r∧r<l.length):0≤holder l (l[r.toNat]?.getD default)∧holder l (l[r.toNat]?.getD default)<l.length∧
 l[(holder l (l[r.toNat]?.getD default)).toNat]?.getD default=l[r.toNat]?.getD default:=by
 have h0:=DF (get_mem h);exact ⟨h0,Ca h0⟩
structure D1 (t:Tab) (regs:Int):Prop where
 len:(t.held.length:Int)=regs
 held:∀ x∈t.held,x<t.next
 known:∀ k v,A8 t.known k=some v→v<t.next
theorem IQ {l:List Int} {i:Sl.Instr} (h:tI i l.length=true):keyOf l (askedP l i)=keyOf l i∧askedP l (askedP l i)=askedP l i∧tI (askedP l i) l.length=true:=by
 have h':=h;rw [tU] at h;obtain ⟨⟨h1,h2,h3,h4,h5,h6⟩,hb⟩:=h;obtain ⟨a1,a2,a3⟩:=zI (l:=l) (r:=i.a) ⟨h5,h6⟩;by_cases ht:i.op=3∨i.op=4
 · rw [aE ht] at hb;obtain ⟨b1,b2,b3⟩:=zI (l:=l) (r:=i.b) ⟨hb.1,hb.2.1⟩;have e:askedP l i=⟨i.op,i.to,holder l (l[i.a.toNat]?.getD default),holder l (l[i.b.toNat]?.getD default),i.c⟩:=by unfold askedP;rw [aE ht]
   refine ⟨?_,?_,?_⟩
   · rw [e];unfold keyOf;simp only [a3,b3]
   · rw [e];unfold askedP;simp only [a3,b3,aE ht]
   rw [e,tU,aE ht];exact ⟨⟨h1,h2,h3,h4,a1,a2⟩,b1,b2,hb.2.2⟩
 rw [aD ht] at hb;have e:askedP l i=⟨i.op,i.to,holder l (l[i.a.toNat]?.getD default),i.b,i.c⟩:=by unfold askedP;rw [aD ht]
 refine ⟨?_,?_,?_⟩
 · rw [e];unfold keyOf;simp only [a3,aD ht]
 · rw [e];unfold askedP;simp only [a3,aD ht]
 rw [e,tU,aD ht];exact ⟨⟨h1,h2,h3,h4,a1,a2⟩,hb⟩
theorem Jd {t:Tab} {regs:Int} (h:D1 t regs) (n:Int) (i:Sl.Instr) (ha:0≤i.a∧i.a<regs):D1 (reckonP t n i).2 regs∧(reckonP t n i).1.1<(reckonP t n i).2.next:=by
 unfold reckonP;split
 · exact ⟨h,h.held _ (get_mem (by rw [h.len];exact ha))⟩
 split
 · rename_i hk;refine ⟨⟨h.len,fun x hx=>?_,fun k v hv=>?_⟩,?_⟩
   · have:=h.held x hx;show x<t.next+1;omega
   · show v<t.next+1;have hv':A8 (t.known++[(keyOf t.held i,t.next)]) k=some v:=hv;rw [←zF _ _ _ hk,xQ] at hv';split at hv'
     · cases hv';omega
     have:=h.known k v hv';omega
   show t.next<t.next+1;omega
 rename_i v hk;exact ⟨h,h.known _ _ hk⟩
theorem FC {l:List Int} {k:Nat} {v regs:Int} (h:(l.length:Int)=regs):((l.set k v).length:Int)=regs:=by rw [aG];exact h
theorem Mq {p:PV} (h:1≤p.ins∧p.ins≤p.regs):D1 ⟨start p,[],[],p.ins+1⟩ p.regs:=by
 refine ⟨?_,fun x hx=>?_,fun k v hv=>by simp [A8] at hv⟩
 · show ((start p).length:Int)=_;simp [start];omega
 simp only [start,dY,iO] at hx;obtain ⟨r,_,rfl⟩:=hx;show _<p.ins+1;split <;> omega
def p2 (n:Nat):Int:=((2 ^ n:Nat):Int)
theorem Pg (n:Nat):0<p2 n:=by unfold p2;exact Int.ofNat_lt.2 (pM tG)
theorem XS (m n:Nat):p2 (m+n)=p2 m*p2 n:=by unfold p2;rw [oH,kC]
theorem au {m n:Nat} (h:m≤n):p2 m≤p2 n:=by unfold p2;exact Int.ofNat_le.2 (iR tG h)
def cst (i:Sl.Instr):Int:=if i.op=5∨i.op=6 then i.c else p2 i.c.toNat
theorem Zg {i:Sl.Instr} (h:i.op=5∨i.op=6):cst i=i.c:=aE h
theorem WI {i:Sl.Instr} (h:¬(i.op=5∨i.op=6)):cst i=p2 i.c.toNat:=aD h
def zJ (y:Int) (xs:List Int):Prop:=∀ i:Nat,i<xs.length→xs[i]?.getD 0 % y=0
instance (y:Int) (xs:List Int):Decidable (zJ y xs):=by unfold zJ;infer_instance
def xU (i:Sl.Instr) (rs:List (List Int)):Option (List Int):=
 let a:=rs[i.a.toNat]?.getD []
 if i.op=2 then some (a.map (fun x=>-1*x))
 else if i.op=3 then some (List.zipWith (fun x y=>x+1*y) a (rs[i.b.toNat]?.getD []))
 else if i.op=4 then some (List.zipWith (fun x y=>x+(-1)*y) a (rs[i.b.toNat]?.getD []))
 else if i.op=5∨i.op=7 then some (a.map (fun x=>cst i*x))
 else if i.op=6∨i.op=8 then (if zJ (cst i) a then some (a.map (· / cst i)) else none)
 else some a
def vN (p:PV) (gs:List (List Int)):List (List Int):=(List.range p.regs.toNat).map fun k=>if k<gs.length then gs[k]?.getD [] else List.replicate (gs[0]?.getD []).length 0
def wX (p:PV) (gs:List (List Int)):Nat→Option (List (List Int))
 | 0=>some (vN p gs)
 | k+1=>(wX p gs k).bind fun rs=>(xU (p.code[((k:Nat):Int).toNat]?.getD default) rs).map fun x=>rs.set (p.code[((k:Nat):Int).toNat]?.getD default).to.toNat x
def xI (p:PV) (rs:List (List Int)):List (List Int):=p.outs.map fun r=>rs[r.toNat]?.getD []
def tJ (p:PV) (gs:List (List Int)):Option (List (List Int)):=(wX p gs p.code.length).map (xI p)
theorem Dg {p:PV} {gs:List (List Int)} {k:Nat} {rs x:List (List Int)} {y:List Int} (h:wX p gs k=some rs) (hd:xU (p.code[((k:Nat):Int).toNat]?.getD default) rs=some y) :
 wX p gs (k+1)=some (rs.set (p.code[((k:Nat):Int).toNat]?.getD default).to.toNat y):=by
 unfold wX;rw [h];simp only [eZ,hd,fZ]
theorem Hh {p:PV} {gs:List (List Int)} {k:Nat} (h:wX p gs k=none) (j:Nat):wX p gs (k+j)=none:=by
 induction j with
 | zero=>exact h
 | succ j ih=>rw [←pT];unfold wX;rw [ih];rfl
theorem DG {p:PV} {gs:List (List Int)} {k:Nat} {rs:List (List Int)} (h:wX p gs k=some rs) (hd:xU (p.code[((k:Nat):Int).toNat]?.getD default) rs=none) (hk:k<p.code.length):tJ p gs=none:=by
 have h1:wX p gs (k+1)=none:=by unfold wX;rw [h];simp only [eZ,hd,lG]
 have h2:=Hh h1 (p.code.length - (k+1));rw [show k+1+(p.code.length - (k+1))=p.code.length by omega] at h2;unfold tJ;rw [h2];rfl
theorem NO:∀ c:Nat,c≤64→((p2 c).natAbs:Int)<pw 5:=fun c hc=>by
 have h1:=au hc;have h2:=Pg c;have h3:p2 64<pw 5:=by unfold p2 pw;decide
 omega
theorem tY {i:Sl.Instr} {regs:Int} (h:tI i regs=true):(1≤i.op∧i.op≤8)∧(0≤i.to∧i.to<regs)∧(0≤i.a∧i.a<regs)∧(i.op=3∨i.op=4→0≤i.b∧i.b<regs)∧tK i.op i.c=true∧
 (i.op≠1→i.op≠2→i.op≠3→i.op≠4→cst i≠0∧((cst i).natAbs:Int)<pw 5)∧(i.op=5∨i.op=6→-9223372036854775808≤i.c∧i.c≤9223372036854775807)∧(¬(i.op=5∨i.op=6)→0≤i.c∧i.c≤64):=by
 unfold tI at h;rw [aW,aW,aV,eN] at h;obtain ⟨⟨⟨g1,g2,g3,g4,g5⟩,g6⟩,g7⟩:=h;have hA:∀ r∈tM i,0≤r∧r<regs:=fun r hr=>by have:=g7 r hr;rwa [aV] at this
 have ha:i.a∈tM i:=by
  unfold tM;split
  · exact bF
  rw [aE ⟨g1,g2⟩];exact bF
 have hc:=g6;unfold tK at g6;have k1:i.op=5∨i.op=6→i.c≠0∧-512≤i.c∧i.c≤512:=fun h=>by rw [aE h,aV] at g6;exact g6
 have k2:¬(i.op=5∨i.op=6)→(i.op=7∨i.op=8→1≤i.c∧i.c≤64)∧(¬(i.op=7∨i.op=8)→i.c=0):=fun h=>by
  rw [aD h] at g6;refine ⟨fun h2=>?_,fun h2=>?_⟩
  · rw [aE h2,aV] at g6;exact g6
  rw [aD h2,aV] at g6;exact g6
 refine ⟨⟨g1,g2⟩,⟨g3,g4⟩,hA _ ha,fun h34=>hA _ WC,hc,fun n1 n2 n3 n4=>?_,fun h56=>by have:=k1 h56;omega,fun h56=>?_⟩
 · by_cases h56:i.op=5∨i.op=6
   · rw [Zg h56];have:=k1 h56;have h3:(65536:Int)<pw 5:=by unfold pw;decide
     exact ⟨this.1,by omega⟩
   rw [WI h56];have h2:=(k2 h56).1 sW;have:=Pg i.c.toNat;exact ⟨by omega,NO _ sW⟩
 by_cases h78:i.op=7∨i.op=8
 · have:=(k2 h56).1 h78;omega
 have:=(k2 h56).2 h78;omega
theorem vY (p:PV) (gs:List (List Int)):(vN p gs).length=p.regs.toNat:=by unfold vN;rw [aP,cB]
theorem Er {p:PV} {gs:List (List Int)} {k:Nat} (hk:k<p.regs.toNat):(vN p gs)[k]?.getD []=if k<gs.length then gs[k]?.getD [] else List.replicate (gs[0]?.getD []).length 0:=by
 unfold vN;rw [bK,fB hk];rfl
def TL (op c:Int) (a b:List Int):Option (List Int):=xU ⟨op,0,0,1,c⟩ [a,b]
theorem Je (i:Sl.Instr) (rs:List (List Int)):xU i rs=TL i.op i.c (rs[i.a.toNat]?.getD []) (rs[i.b.toNat]?.getD []):=rfl
theorem NQ (a b:List Int):List.zipWith (fun x y=>x+1*y) a b=List.zipWith (fun x y=>x+1*y) b a:=by
 rw [List.zipWith_comm];congr 1;funext x y;omega
theorem NR (c:Int) (a b:List Int):TL 3 c a b=TL 3 c b a:=by
 show some (List.zipWith (fun x y=>x+1*y) a b)=some (List.zipWith (fun x y=>x+1*y) b a);rw [NQ]
theorem Vt {op:Int} (h:¬(op=3∨op=4)) (c:Int) (a b b':List Int):TL op c a b=TL op c a b':=by
 have h3:¬op=3:=fun e=>h (.inl e);have h4:¬op=4:=fun e=>h (.inr e);unfold TL xU;simp only [h3,h4,lF];rfl
def Tc (E:Int→List Int) (k:K4):Option (List Int):=TL k.op k.c (E k.a) (E k.b)
theorem Td {E:Int→List Int} {held:List Int} {rs:List (List Int)} {regs:Int} {i:Sl.Instr} (hm:tI i regs=true) (hv:∀ r:Int,0≤r∧r<regs→rs[r.toNat]?.getD []=E (held[r.toNat]?.getD default)) :
 Tc E (keyOf held i)=xU i rs:=by
 obtain ⟨m1,m2,m3,m4,m5,m6,m7,m8⟩:=tY hm;rw [Je,hv _ m3];unfold keyOf;by_cases h34:i.op=3∨i.op=4
 · rw [hv _ (m4 h34)];simp only [aE h34];split
   · rename_i hsw;unfold Tc;simp only;rw [hsw.1];exact NR _ _ _
   rfl
 simp only [aD h34];exact Vt h34 _ _ _ _
def yU:List Sl.Instr→List (List Int)→Option (List (List Int))
 | [],rs=>some rs
 | i :: l,rs=>(xU i rs).bind fun x=>yU l (rs.set i.to.toNat x)
theorem Zh (l m:List Sl.Instr) (rs:List (List Int)):yU (l++m) rs=(yU l rs).bind (yU m):=by
 induction l generalizing rs with
 | nil=>rfl
 | cons i l ih =>
   show (xU i rs).bind (fun x=>yU (l++m) (rs.set i.to.toNat x))=_;show _=((xU i rs).bind fun x=>yU l (rs.set i.to.toNat x)).bind (yU m);cases xU i rs with
   | none=>rfl
   | some x=>exact ih _
theorem Ct {l:List Sl.Instr} {i:Sl.Instr} {rs:List (List Int)}:yU (l++[i]) rs=(yU l rs).bind fun r=>(xU i r).map fun x=>r.set i.to.toNat x:=by
 rw [Zh];congr 1;funext r;show (xU i r).bind (fun x=>yU [] (r.set i.to.toNat x))=_;cases xU i r <;> rfl
theorem zK (p:PV) (gs:List (List Int)):∀ k,k≤p.code.length→wX p gs k=yU (p.code.take k) (vN p gs)
 | 0,_=>by rw [bQ];rfl
 | k+1,h=>by
   have hk:k<p.code.length:=sW;have e:p.code.take (k+1)=p.code.take k++[p.code[(k:Int).toNat]?.getD default]:=by
    rw [nM hk,aF,aA hk];rfl
   rw [e,Ct,←zK p gs k sW];rfl
structure Val (t:Tab) (rs:List (List Int)) (E:Int→List Int) (regs:Int):Prop where
 len:(rs.length:Int)=regs
 reg:∀ r:Int,0≤r∧r<regs→rs[r.toNat]?.getD []=E (t.held[r.toNat]?.getD default)
 key:∀ k v,A8 t.known k=some v→Tc E k=some (E v)
 old:∀ k v,A8 t.known k=some v→k.a<t.next∧k.b<t.next
 pos:0≤t.next
theorem FD {t:Tab} {regs:Int} {i:Sl.Instr} (hs:D1 t regs) (hp:0≤t.next) (hm:tI i regs=true):(keyOf t.held i).a<t.next∧(keyOf t.held i).b<t.next:=by
 obtain ⟨m1,m2,m3,m4,m5,m6,m7,m8⟩:=tY hm;have hl:=hs.len;have ha:=hs.held _ (get_mem (l:=t.held) (r:=i.a) sW);unfold keyOf;by_cases h34:i.op=3∨i.op=4
 · have hb:=hs.held _ (get_mem (l:=t.held) (r:=i.b) (by have:=m4 h34;omega));simp only [aE h34];split
   · exact ⟨hb,ha⟩
   exact ⟨ha,hb⟩
 simp only [aD h34];exact ⟨ha,by show (-1:Int)<_;omega⟩
theorem Te {t:Tab} {rs:List (List Int)} {E:Int→List Int} {regs:Int} {i:Sl.Instr} (hs:D1 t regs) (hv:Val t rs E regs) (hm:tI i regs=true):xU (askedP t.held i) rs=xU i rs:=by
 obtain ⟨m1,m2,m3,m4,m5,m6,m7,m8⟩:=tY hm;have hl:=hs.len;obtain ⟨a1,a2,a3⟩:=zI (l:=t.held) (r:=i.a) sW;have ea:rs[(holder t.held (t.held[i.a.toNat]?.getD default)).toNat]?.getD []=rs[i.a.toNat]?.getD []:=by
  rw [hv.reg _ ⟨a1,by omega⟩,hv.reg _ m3,a3]
 rw [Je,Je i];unfold askedP;simp only;rw [ea];by_cases h34:i.op=3∨i.op=4
 · obtain ⟨b1,b2,b3⟩:=zI (l:=t.held) (r:=i.b) (by have:=m4 h34;omega);have eb:rs[(holder t.held (t.held[i.b.toNat]?.getD default)).toNat]?.getD []=rs[i.b.toNat]?.getD []:=by
    rw [hv.reg _ ⟨b1,by omega⟩,hv.reg _ (m4 h34),b3]
   rw [aE h34,eb]
 exact Vt h34 _ _ _ _
theorem DH {t:Tab} {rs:List (List Int)} {E:Int→List Int} {regs n:Int} {i:Sl.Instr} {x:List Int} (hs:D1 t regs) (hv:Val t rs E regs) (hm:tI i regs=true) (hd:xU i rs=some x) :
 ∃ E1,Val (reckonP t n i).2 rs E1 regs∧E1 (reckonP t n i).1.1=x:=by
 obtain ⟨m1,m2,m3,m4,m5,m6,m7,m8⟩:=tY hm;have hl:=hs.len;have hk:=Td hm hv.reg;unfold reckonP;by_cases h1:i.op=1
 · rw [aE h1];refine ⟨E,hv,?_⟩;have:xU i rs=some (rs[i.a.toNat]?.getD []):=by unfold xU;simp [h1]
   rw [this] at hd;cases hd;exact (hv.reg _ m3).symm
 rw [aD h1];cases hg:A8 t.known (keyOf t.held i) with
 | some v =>
   refine ⟨E,hv,?_⟩;have e:=hv.key _ _ hg;rw [hk,hd] at e;exact (kB e).symm
 | none =>
   have hold:∀ y:Int,y<t.next→(fun z=>if z=t.next then x else E z) y=E y:=fun y hy=>aD (by omega);have hev:∀ k:K4,k.a<t.next∧k.b<t.next→Tc (fun z=>if z=t.next then x else E z) k=Tc E k:=fun k hk=>by
    unfold Tc;rw [hold _ hk.1,hold _ hk.2]
   have hgm:∀ k,A8 (t.known++[(keyOf t.held i,t.next)]) k=if keyOf t.held i=k then some t.next else A8 t.known k:=fun k=>by
    rw [←zF _ _ _ hg,xQ];by_cases he:k=keyOf t.held i <;> simp [he,eq_comm]
   refine ⟨fun z=>if z=t.next then x else E z,⟨hv.len,fun r hr=>?_,fun k v hkv=>?_,fun k v hkv=>?_,by have:=hv.pos;show (0:Int)≤t.next+1;omega⟩,aE F9⟩
   · have:=hs.held _ (get_mem (l:=t.held) (r:=r) sW);exact (hv.reg r hr).trans (hold _ this).symm
   · have hkv:A8 (t.known++[(keyOf t.held i,t.next)]) k=some v:=hkv;rw [hgm] at hkv;split at hkv
     · rename_i he;cases hkv;subst he;rw [hev _ (FD hs hv.pos hm),hk,hd];exact congrArg some (aE F9).symm
     have hlt:=hs.known _ _ hkv;rw [hev _ (hv.old _ _ hkv),hv.key _ _ hkv];exact congrArg some (hold _ hlt).symm
   have hkv:A8 (t.known++[(keyOf t.held i,t.next)]) k=some v:=hkv;rw [hgm] at hkv;show k.a<t.next+1∧k.b<t.next+1;split at hkv
   · rename_i he;subst he;have:=FD hs hv.pos hm;omega
   have:=hv.old _ _ hkv;omega
theorem Jf {l:List (List Int)} {k:Nat} {x:List Int} {r:Int} (hr:0≤r∧r<l.length):(l.set k x)[r.toNat]?.getD []=if (k:Int)=r then x else l[r.toNat]?.getD []:=by
 have h1:r.toNat<l.length:=sW;rw [cI];by_cases h:(k:Int)=r
 · rw [aE (by omega),aE (by omega),aE h];rfl
 rw [aD (by omega),aD h]
theorem yV {l:List Int} {k:Nat} {x:Int} {r:Int} (hr:0≤r∧r<l.length):(l.set k x)[r.toNat]?.getD default=if (k:Int)=r then x else l[r.toNat]?.getD default:=by
 have h1:r.toNat<l.length:=sW;rw [cI];by_cases h:(k:Int)=r
 · rw [aE (by omega),aE (by omega),aE h];rfl
 rw [aD (by omega),aD h]
theorem Vu {l:List (List Int)} {k:Nat} (hk:k<l.length) {x:List Int} (h:l[k]?.getD []=x):l.set k x=l:=by
 rw [aA hk] at h;have h:l[k]=x:=h;rw [←h,List.set_getElem_self]
theorem NS {t:Tab} {rs r0:List (List Int)} {E:Int→List Int} {regs n:Int} {i:Sl.Instr} {x:List Int} {out:List Sl.Instr} (hs:D1 t regs) (hv:Val t rs E regs) (hm:tI i regs=true) (hr:yU out r0=some rs) (hd:xU i rs=some x) :
 yU (tR (t,out) n i).2 r0=some (rs.set i.to.toNat x)∧∃ E1,Val (tR (t,out) n i).1 (rs.set i.to.toNat x) E1 regs:=by
 obtain ⟨m1,m2,m3,m4,m5,m6,m7,m8⟩:=tY hm;obtain ⟨E1,hv1,hx⟩:=DH (n:=n) hs hv hm hd;have hh:=Bz t n i;have hl:=hs.len;have hrl:=hv.len;have hask:=Te hs hv hm;unfold tR;simp only;split
 · rename_i hc;have e:rs.set i.to.toNat x=rs:=Vu sW (by rw [hv1.reg _ m2,hc,hx]);rw [e];exact ⟨hr,E1,hv1⟩
 rename_i hc;refine ⟨?_,E1,⟨by rw [aG];exact hrl,fun r hr9=>?_,hv1.key,hv1.old,hv1.pos⟩⟩
 · rw [Ct,hr];show ((xU _ rs).map fun x=>rs.set _ x)=_;split
   · rename_i h0;obtain ⟨g1,g2⟩:=Ca h0;have e:xU ⟨1,(askedP (reckonP t n i).2.held i).to,holder (reckonP t n i).2.held (reckonP t n i).1.1,0,0⟩ rs=some x:=by
      show some (rs[(holder (reckonP t n i).2.held (reckonP t n i).1.1).toNat]?.getD [])=some x;rw [hv1.reg _ ⟨h0,by rw [hh] at g1 ⊢;omega⟩,g2,hx]
     rw [e];rfl
   rw [hh,hask,hd];rfl
 rw [Jf sW];show _=E1 (((reckonP t n i).2.held.set i.to.toNat (reckonP t n i).1.1)[r.toNat]?.getD default);rw [yV (by rw [hh];omega)];split
 · exact hx.symm
 exact hv1.reg r hr9
theorem IR {t:Tab} {rs r0:List (List Int)} {E:Int→List Int} {regs n:Int} {i:Sl.Instr} {out:List Sl.Instr} (hs:D1 t regs) (hv:Val t rs E regs) (hm:tI i regs=true) (hr:yU out r0=some rs) (hd:xU i rs=none) :
 yU (tR (t,out) n i).2 r0=none:=by
 obtain ⟨m1,m2,m3,m4,m5,m6,m7,m8⟩:=tY hm;have hh:=Bz t n i;have hl:=hs.len;have hask:=Te hs hv hm;have hk:=Td hm hv.reg;have h1:¬i.op=1:=fun h=>by
  have:xU i rs=some (rs[i.a.toNat]?.getD []):=by unfold xU;simp [h]
  rw [this] at hd;cases hd
 have hg:A8 t.known (keyOf t.held i)=none:=by
  cases hg:A8 t.known (keyOf t.held i) with
  | none=>rfl
  | some v=>have:=hv.key _ _ hg;rw [hk,hd] at this;cases this
 have hn:(reckonP t n i).1.1=t.next:=by unfold reckonP;rw [aD h1,hg]
 have hto:=hs.held _ (get_mem (l:=t.held) (r:=i.to) sW);have hho:=IP (l:=t.held) (v:=t.next) (n:=t.next) hs.held (jA _);unfold tR;simp only;rw [hn,hh,aD (by omega),hho,aD (by decide),Ct,hr];show ((xU _ rs).map fun x=>rs.set _ x)=_;rw [hask,hd];rfl
theorem DI {t:Tab} {regs n:Int} {i:Sl.Instr} {out:List Sl.Instr} (hs:D1 t regs) (hm:tI i regs=true):D1 (tR (t,out) n i).1 regs:=by
 obtain ⟨m1,m2,m3,m4,m5,m6,m7,m8⟩:=tY hm;obtain ⟨s1,s2⟩:=Jd hs n i m3;unfold tR;simp only;split
 · exact s1
 refine ⟨FC s1.len,fun x hx=>?_,s1.known⟩;rcases fI hx with h | h
 · exact s1.held x h
 rw [h];exact s2
theorem IS {t:Tab} {n:Int} {i:Sl.Instr} {out:List Sl.Instr} {r0:List (List Int)} (h:yU out r0=none):yU (tR (t,out) n i).2 r0=none:=by
 unfold tR;simp only;split
 · exact h
 rw [Ct,h];rfl
theorem IT {p:PV} {gs:List (List Int)} (h:1≤p.ins∧p.ins≤p.regs) (hg:(gs.length:Int)=p.ins) :
 Val ⟨start p,[],[],p.ins+1⟩ (vN p gs) (fun v=>if v<p.ins then gs[v.toNat]?.getD [] else List.replicate (gs[0]?.getD []).length 0) p.regs:=by
 refine ⟨by rw [vY];omega,fun r hr=>?_,fun k v hk=>(nomatch (show (none:Option Int)=some v from hk)),fun k v hk=>(nomatch (show (none:Option Int)=some v from hk)),by show (0:Int)≤p.ins+1;omega⟩;have e:(start p)[r.toNat]?.getD default=if p.ins<r then p.ins else r:=by
  unfold start;rw [bK,fB sW];show (if p.ins<((r.toNat:Nat):Int) then p.ins else ((r.toNat:Nat):Int))=_;rw [cW hr.1]
 show _=(fun v:Int=>if v<p.ins then gs[v.toNat]?.getD [] else List.replicate (gs[0]?.getD []).length 0) ((start p)[r.toNat]?.getD default);rw [Er sW,e];by_cases h1:r<p.ins
 · rw [aE (by omega)];show _=if (if p.ins<r then p.ins else r)<p.ins then _ else _;rw [aD (show ¬p.ins<r by omega),aE h1]
 rw [aD (by omega)];show _=if (if p.ins<r then p.ins else r)<p.ins then _ else _;rw [aD (by split <;> omega)]
theorem Zi {p:PV} {gs:List (List Int)} (hR:sY p=true) (hg:(gs.length:Int)=p.ins):∀ k,k≤p.code.length→
 D1 (uC p k).1 p.regs∧((∃ rs E,wX p gs k=some rs∧yU (uC p k).2 (vN p gs)=some rs∧Val (uC p k).1 rs E p.regs)∨(wX p gs k=none∧yU (uC p k).2 (vN p gs)=none))
 | 0,_=>by
   obtain ⟨f1,f2,f3,f4,f5,f6,f7,f8⟩:=tB hR;exact ⟨Mq ⟨f1,f2⟩,.inl ⟨_,_,F9,F9,IT ⟨f1,f2⟩ hg⟩⟩
 | k+1,h=>by
   obtain ⟨f1,f2,f3,f4,f5,f6,f7,f8⟩:=tB hR;obtain ⟨hs,ih⟩:=Zi hR hg k sW;have hm:tI (p.code[(k:Int).toNat]?.getD default) p.regs=true:=by
    refine f8 _ ?_;rw [aF,aA sW];exact bZ _
   refine ⟨DI hs hm,?_⟩;rcases ih with ⟨rs,E,h1,h2,h3⟩ | ⟨h1,h2⟩
   · cases hd:xU (p.code[(k:Int).toNat]?.getD default) rs with
     | some x =>
       obtain ⟨g1,E1,g2⟩:=NS (n:=k) hs h3 hm h2 hd;exact .inl ⟨_,E1,Dg (x:=[]) h1 hd,g1,g2⟩
     | none =>
       refine .inr ⟨?_,IR (n:=k) hs h3 hm h2 hd⟩;unfold wX;rw [h1];simp only [eZ,hd,lG]
   exact .inr ⟨Hh h1 1,IS h2⟩
theorem Mr {p:PV} {gs:List (List Int)} (hR:sY p=true) (hg:(gs.length:Int)=p.ins):tJ (xT p) gs=tJ p gs:=by
 obtain ⟨f1,f2,f3,f4,f5,f6,f7,f8⟩:=tB hR;obtain ⟨hs,ih⟩:=Zi hR hg p.code.length (aI _);have e:wX (xT p) gs (xT p).code.length=yU (uC p p.code.length).2 (vN p gs):=by
  rw [zK _ _ _ (aI _),bD];rfl
 unfold tJ;rw [e];rcases ih with ⟨rs,E,h1,h2,h3⟩ | ⟨h1,h2⟩
 · rw [h1,h2];show some _=some _;congr 1;show (wG p (uC p p.code.length).1.held).map _=p.outs.map _;unfold wG;rw [qN];refine jL fun r hr=>?_;have hl:=hs.len;obtain ⟨a1,a2,a3⟩:=zI (l:=(uC p p.code.length).1.held) (r:=r) (by have:=f7 r hr;omega);show rs[(holder _ _).toNat]?.getD []=_;rw [h3.reg _ ⟨a1,by omega⟩,a3,h3.reg _ (f7 r hr)]
 rw [h1,h2];rfl
section
variable {B:Bs} {e:A9} {D:List Deferred} {H:Hp} {G:A3}
theorem retagH {a:Act} {w:World} (hh:A6 B ⟨e,D,H,G⟩ a w) (t t':Nat) {k:Option Nat} {o:Obj} (ht:H.get t=some (k,o)) (hn:t≠t') (hk:H.get t'=none∨True):A6 B ⟨e,D,(t',k,o) :: (t,none,o) :: H,G⟩ a w:=by
 have key:∀ i b o',Hp.get ((t',k,o) :: (t,none,o) :: H) i=some (some b,o')→(i=t'∧H.get t=some (some b,o'))∨(i≠t'∧i≠t∧H.get i=some (some b,o')):=fun i b o' hx=>by
  rw [bC] at hx;split at hx
  · rename_i hi;left;refine ⟨hi.symm,?_⟩;rw [ht];exact hx
  rename_i hi;rw [bC] at hx;split at hx
  · simp at hx
  rename_i hi2;exact .inr ⟨fun h=>hi h.symm,fun h=>hi2 h.symm,hx⟩
 refine ⟨hh.size,hh.defers,hh.env,⟨?_,?_,hh.mem.imm,?_⟩,hh.upd,?_,hh.le,hh.new⟩
 · intro i b o' hx;rcases key i b o' hx with ⟨_,h⟩ | ⟨_,_,h⟩
   · exact hh.mem.own _ b o' h
   exact hh.mem.own _ b o' h
 · intro i i' b o1 o2 hx hy;rcases key i b o1 hx with ⟨h1,h2⟩ | ⟨h1,h1',h2⟩ <;> rcases key i' b o2 hy with ⟨h3,h4⟩ | ⟨h3,h3',h4⟩
   · rw [h1,h3]
   · exact absurd (hh.mem.one _ _ b _ _ h2 h4).symm h3'
   · exact absurd (hh.mem.one _ _ b _ _ h2 h4) h1'
   exact hh.mem.one _ _ b _ _ h2 h4
 · intro i b o' hx;rcases key i b o' hx with ⟨_,h⟩ | ⟨_,_,h⟩
   · exact hh.mem.off _ b o' h
   exact hh.mem.off _ b o' h
 intro i b o' hx;rcases key i b o' hx with ⟨_,h⟩ | ⟨_,_,h⟩
 · exact hh.mine _ b o' h
 exact hh.mine _ b o' h
theorem Ar.retag {x:Exit} {Q:Exit→Act→World→Prop} (t t':Nat) {k:Option Nat} {o:Obj} (ht:H.get t=some (k,o)) (hn:Nat.beq t t'=false) (h:Ar Q x B ⟨e,D,(t',k,o) :: (t,none,o) :: H,G⟩):Ar Q x B ⟨e,D,H,G⟩:=
 fun a w hh=>h a w (retagH hh t t' ht (fun e=>by subst e;simp at hn) (.inr trivial))
end
section
attribute [local irreducible] Ng pw uY p2
end
section
attribute [local irreducible] Ng pw uY p2
def XT (m N:Nat) (rs:List (List Int)):Prop:=∀ zs∈rs,zs.length=N∧Go.Sl.Below m zs
end
def B7 (G:A3) (l:List IV) (zs:List Int):Prop:=l.length=zs.length∧∀ i:Nat,i<l.length→C1 G (l[i]?.getD default) (zs[i]?.getD 0)
theorem B7.up {G G':A3} {l:List IV} {zs:List Int} (h:B7 G l zs) (hl:G.le G'):B7 G' l zs:=⟨h.1,fun i hi=>(h.2 i hi).up hl⟩
theorem B7.at {G:A3} {l:List IV} {zs:List Int} (h:B7 G l zs) {k:Int} (hk:0≤k∧k<l.length):C1 G (l[k.toNat]?.getD default) (zs[k.toNat]?.getD 0):=h.2 _ sW
theorem B7.set {G:A3} {l:List IV} {zs:List Int} (h:B7 G l zs) (k:Nat) {x:IV} {z:Int} (hx:C1 G x z):B7 G (l.set k x) (zs.set k z):=by
 refine ⟨by rw [aG,aG];exact h.1,fun i hi=>?_⟩;rw [aG] at hi;rw [cI,cI];have h1:=h.1;by_cases hk:k=i
 · subst hk;rw [aE rfl,aE rfl,aE hi,aE (by omega)];exact hx
 rw [aD hk,aD hk];exact h.2 i hi
theorem DJ (G:A3) (n:Nat):B7 G (List.replicate n (default:IV)) (List.replicate n 0):=by
 refine ⟨by rw [aJ,aJ],fun i hi=>?_⟩;rw [aJ] at hi;rw [fW,fW,aE hi,aE hi];exact C1.zero G
abbrev rY:=@DJ
def Below (m:Nat) (zs:List Int):Prop:=∀ z∈zs,(z.natAbs:Int)<pb m
theorem Below.at {m:Nat} {zs:List Int} (h:Below m zs) (k:Nat):((zs[k]?.getD 0).natAbs:Int)<pb m:=by
 rcases aK k zs.length with h1 | h1
 · rw [aA h1];exact h _ (bZ h1)
 rw [cA h1];exact yS m
theorem XU:((1:Int).natAbs:Int)<pb 1:=by unfold pb;decide
theorem XV (n:Nat):p2 n=((2 ^ n:Nat):Int):=rfl
theorem Ph {z:Int}:Zb z=0↔z=0:=by
 unfold Zb;split
 · simp [*]
 split <;> omega
theorem DK {x y:Int} (hy:y≠0):((x % y).natAbs:Int)<y.natAbs:=by
 have e1:=lI x hy;rcases Int.lt_or_gt_of_ne hy with h | h
 · have e2:=gL x (show 0 < -y by omega);rw [Int.emod_neg] at e2;omega
 have e2:=gL x h;omega
section
attribute [local irreducible] tA pb uY uD p2
theorem gx (G:A3) (n:Nat) (hn:n≤64) :
 Does Tryz.prog 221 [.int .i64 (n:Int)] G [] (fun v G' Ho=>∃ r:IV,v=.agg (A2.enc r).toArray∧C1 G' r (p2 n)∧Ho=[]):=by
 refine D0 Tryz.func221 Tryz.ntmps221 fun w=>?_;refine aH 2 [] ?_;refine aM 0 F9 T.zero125 fun b1=>?_;refine aL 4 [] ?_;refine bS 1 F9 (RI _ _ sW) fun v1 G1 Ho1 hle1 hp=>?_;obtain ⟨ro1,rfl,hro1,rfl⟩:=hp;refine aC 1 [] ?_;refine fR 7 F9 (show _=Value.int .i64 ((32*(n / 32)+n % 32:Nat):Int) by rw [oL]) ?_;refine bS 20 F9 (gq _ ro1 1 (n / 32) (n % 32) hro1 (bO (jQ hro1 XU) tG) (Nat.mod_lt _ tG) sW) fun v9 G9 Ho9 hle9 hp=>?_;obtain ⟨r9,rfl,hr9,rfl⟩:=hp;refine aC 3 [] ?_;refine aM 1 F9 T.zero125 fun b2=>?_;refine aS 11 [1,1,0] ?_;refine cK (.inr F9) (Ho:=Hp.only _ []) F9 (.agg 0 F9 F9 T.agg125) (aU _ _) ?_;exact ⟨r9,F9,C1.out hr9 (by rw [oL,dW,XV]),F9⟩
end
def near (a b:Int):Prop:=-16≤a∧a≤16∧-16≤b∧b≤16
instance (a b:Int):Decidable (near a b):=inferInstanceAs (Decidable (_∧_))
theorem aw (G:A3) (n:Int):Does Tryz.prog 128 [.int .i64 n] G [] (fun v G' Ho=>v=.bool (decide (-16≤n∧n≤16))∧G'=G∧Ho=[]):=by
 refine D0 Tryz.func128 Tryz.ntmps128 fun w=>?_;refine aH 10 [] ?_;apply bW 3 5 8 F9;intro hg1;refine aC 5 [] ?_;exact dI 3 0;intro hg1;refine aC 3 [] ?_;exact dI 3 0;refine aS 4 [] ?_;refine dA ?_;exact ⟨F9,F9,F9⟩
theorem gy (G:A3) (n:Int) (h:-9223372036854775807≤n):Does Tryz.prog 264 [.int .i64 n] G [] (fun v G' Ho=>v=.int .i64 (n.natAbs:Int)∧G'=G∧Ho=[]):=by
 refine D0 Tryz.func264 Tryz.ntmps264 fun w=>?_;refine bL 12 [] ?_;refine dB (fun hc1=>?_) fun hc1=>?_;refine aH 3 [] ?_;refine aQ (rD F9 sW) ?_;refine aS 5 [] ?_;refine dA ?_;rotate_left;refine bG 9 [] ?_;refine dA ?_;rotate_left
 · exact ⟨by congr 1;omega,F9,F9⟩
 exact ⟨by congr 1;omega,F9,F9⟩
theorem ay (G:A3) (a b:Int) (h1:-4611686018427387904≤a∧a≤4611686018427387904) (h2:-4611686018427387904≤b∧b≤4611686018427387904):Does Tryz.prog 227 [.int .i64 a,.int .i64 b] G [] (fun v G' Ho=>v=.int .i64 (Int.gcd a b:Int)∧G'=G∧Ho=[]):=by
 refine D0 Tryz.func227 Tryz.ntmps227 fun w=>?_;refine bL 7 [] ?_;refine iA (ι:=Int×Int) (fun (x,y)=>([(0,.int .i64 x),(1,.int .i64 y),(4,.int .i64 0)],[])) (fun (x,y)=>Int.gcd x y=Int.gcd a b∧(-4611686018427387904≤x∧x≤4611686018427387904)∧(-4611686018427387904≤y∧y≤4611686018427387904)) (fun (x,y)=>y.natAbs) ((a,b)) (⟨F9,h1,h2⟩) fun ⟨x,y⟩=>fun hk=>?_;obtain ⟨hg,hx,hy⟩:=hk;refine bL 7 [] ?_;refine dB (fun hc1=>?_) fun hc1=>?_;refine bL 3 [] ?_;refine dK [] [] T.mixed [[0],[1],[2]] ?_;refine eD 3 [] F9 (sN F9 F9 sW) ?_;refine dP [[4],[5]] ?_;refine cT ?_;refine sM ?_;rotate_left;refine aH 8 [] ?_;refine cF F9 (gy _ _ sW) ?_;refine aS 4 [] ?_;refine dA ?_;rotate_left
 · have e:=Int.natAbs_tmod x y;have hyp:0<y.natAbs:=sW;have e2:=Nat.mod_lt x.natAbs hyp;have e3:=Nat.mod_le x.natAbs y.natAbs;refine cM ((y,x.tmod y)) ?_ ?_
   · refine ⟨?_,hy,by omega⟩;rw [←hg];show Nat.gcd y.natAbs (x.tmod y).natAbs=Nat.gcd x.natAbs y.natAbs;rw [e,Nat.gcd_comm,←Nat.gcd_rec,Nat.gcd_comm]
   show (x.tmod y).natAbs<y.natAbs;omega
 refine ⟨?_,F9,F9⟩;rw [←hg];have e:y=0:=sW;subst e;rw [Int.gcd_zero_right]
theorem c72 (G:A3) (a b:Int):Does Tryz.prog 72 [.agg #[.int .i64 a,.int .i64 b]] G [] (fun v G' Ho=>v=.bool (decide (near a b))∧G'=G∧Ho=[]):=by
 refine D0 Tryz.func72 Tryz.ntmps72 fun w=>?_;refine aH 2 [] ?_;refine eC 0 fun b1=>?_;refine aL 7 [0] ?_;refine cF F9 (by apply aw <;> first | assumption | omega | rfl) ?_;refine aC 1 [] ?_;apply bW 4 6 10 F9;intro hg1;refine aC 5 [0] ?_;refine cF F9 (by apply aw <;> first | assumption | omega | rfl) ?_;refine aC 1 [] ?_;exact dI 4 0;intro hg1;refine aC 4 [] ?_;exact dI 4 0;refine aS 4 [] ?_;refine dA ?_;exact ⟨by congr 1;exact decide_eq_decide.mpr (by unfold near;omega),F9,F9⟩
theorem az (G:A3) (a b:Int):Does Tryz.prog 105 [.agg #[.int .i64 a,.int .i64 b]] G [] (fun v G' Ho=>v=.bool (decide (a=0∧b=0))∧G'=G∧Ho=[]):=by
 refine D0 Tryz.func105 Tryz.ntmps105 fun w=>?_;refine aH 2 [] ?_;refine eC 0 fun b1=>?_;refine aL 6 [0] ?_;refine aQ (bP (cs:=[_,_]) T.st52 F9 F9 F9) ?_;refine aQ (Nm [_,_] [_,_] T.ai52 F9 F9 F9 F9) ?_;refine aS 4 [] ?_;refine dA ?_;exact ⟨by congr 1;exact decide_eq_decide.mpr uE,F9,F9⟩
def vQ (a b:Int):Int:=if b<0∨(b=0∧a<0) then -(Int.gcd a b:Int) else (Int.gcd a b:Int)
def FE (a b:Int):Int×Int:=if a=0∧b=0 then (a,b) else (a.tdiv (vQ a b),b.tdiv (vQ a b))
theorem xJ (a g:Int):-(a.natAbs:Int)≤a.tdiv g∧a.tdiv g≤a.natAbs:=by
 have h:(a.tdiv g).natAbs=a.natAbs / g.natAbs:=mY a g;have h2:=Nat.div_le_self a.natAbs g.natAbs;omega
theorem bd (G:A3) (a b:Int) (h1:-4611686018427387904≤a∧a≤4611686018427387904) (h2:-4611686018427387904≤b∧b≤4611686018427387904):Does Tryz.prog 201 [.agg #[.int .i64 a,.int .i64 b]] G [] (fun v G' Ho=>v=.agg #[.int .i64 (FE a b).1,.int .i64 (FE a b).2]∧G'=G∧Ho=[]):=by
 refine D0 Tryz.func201 Tryz.ntmps201 fun w=>?_;have hga:=sU a b;have hgb:=sJ a b;have hgm:(Int.gcd a b:Int)≤4611686018427387904:=by
  by_cases h:a=0
  · subst h;rw [Int.gcd_zero_left];omega
  have:=Int.le_of_dvd (show 0<(a.natAbs:Int) by omega) (Int.dvd_natAbs.mpr hga);omega
 have q1:=xJ a (Int.gcd a b:Int);have q2:=xJ b (Int.gcd a b:Int);have q3:=xJ a (-(Int.gcd a b:Int));have q4:=xJ b (-(Int.gcd a b:Int));refine aH 2 [] ?_;refine eC 0 fun b1=>?_;refine aM 1 F9 T.zero52 fun b2=>?_;refine aL 8 [0,0] ?_;refine cF F9 (ay _ _ _ sW sW) ?_;refine aZ 12 [] ?_;refine dB (fun hc1=>?_) fun hc1=>?_;refine bG 9 [0,1] ?_;refine cK (.inr F9) (Ho:=Hp.only _ []) F9 (.agg 1 F9 F9 T.agg52) (aU _ _) ?_;rotate_left;refine bL 9 [0] ?_;refine dB (fun hc2=>?_) fun hc2=>?_;refine aH 5 [1] ?_;refine aQ (rD F9 sW) ?_;refine aZ 5 [] ?_;refine dK [0,1] [(1,9)] T.mixed [[0],[1,0],[2]] ?_;refine eD 3 [] F9 (oK F9 F9 sW sW) ?_;refine dP [[4],[5,0],[6]] ?_;refine eD 7 [] F9 (oK F9 F9 sW sW) ?_;refine eD 8 [] F9 (bP (cs:=[_,_]) T.st52 F9 F9 F9) ?_;refine bE 9 ?_;refine aC 1 [1] ?_;refine fJ ?_;refine dO 2 [] ?_;refine cK (.inr F9) (Ho:=Hp.only _ []) F9 (.agg 1 F9 F9 T.agg52) (aU _ _) ?_;rotate_left;refine aH 5 [0] ?_;apply bW 4 20 24 F9;intro hg1;refine aC 7 [0] ?_;exact dI 4 0;intro hg1;refine aC 4 [] ?_;exact dI 4 0;refine aZ 3 [] ?_;refine dB (fun hc3=>?_) fun hc3=>?_;refine aH 2 [] ?_;refine aQ (rD F9 sW) ?_;refine aZ 5 [] ?_;refine dK [0,1] [(1,9)] T.mixed [[0],[1,0],[2]] ?_;refine eD 3 [] F9 (oK F9 F9 sW sW) ?_;refine dP [[4],[5,0],[6]] ?_;refine eD 7 [] F9 (oK F9 F9 sW sW) ?_;refine eD 8 [] F9 (bP (cs:=[_,_]) T.st52 F9 F9 F9) ?_;refine bE 9 ?_;refine aC 1 [1] ?_;refine fJ ?_;refine dO 2 [] ?_;refine cK (.inr F9) (Ho:=Hp.only _ []) F9 (.agg 1 F9 F9 T.agg52) (aU _ _) ?_;rotate_left;refine bL 4 [] ?_;refine dK [0,1] [(1,9)] T.mixed [[0],[1,0],[2]] ?_;refine eD 3 [] F9 (oK F9 F9 sW sW) ?_;refine dP [[4],[5,0],[6]] ?_;refine eD 7 [] F9 (rO F9 F9 sW) ?_;refine eD 8 [] F9 (bP (cs:=[_,_]) T.st52 F9 F9 F9) ?_;refine bE 9 ?_;refine aC 1 [1] ?_;refine fJ ?_;refine dO 2 [] ?_;refine cK (.inr F9) (Ho:=Hp.only _ []) F9 (.agg 1 F9 F9 T.agg52) (aU _ _) ?_;rotate_left
 · obtain ⟨ea,eb⟩:=Int.gcd_eq_zero_iff.mp (show Int.gcd a b=0 by omega);exact ⟨by unfold FE;rw [aE ⟨ea,eb⟩],F9,F9⟩
 · have hn:¬(a=0∧b=0):=sW;exact ⟨by unfold FE vQ;rw [aD hn,aE (by omega)],F9,F9⟩
 · have hn:¬(a=0∧b=0):=sW;exact ⟨by unfold FE vQ;rw [aD hn,aE (by omega)],F9,F9⟩
 have hn:¬(a=0∧b=0):=fun h=>hc1 (by rw [h.1,h.2];rfl);exact ⟨by unfold FE vQ;rw [aD hn,aD (by omega),Int.tdiv_eq_ediv_of_nonneg (a:=b) sW],F9,F9⟩
def same (a b c d:Int):Prop:=FE a b=FE c d
instance (a b c d:Int):Decidable (same a b c d):=inferInstanceAs (Decidable (_=_))
theorem gz (G:A3) (a b c d:Int):Does Tryz.prog 154 [.agg #[.int .i64 a,.int .i64 b],.agg #[.int .i64 c,.int .i64 d]] G [] (fun v G' Ho=>v=.tuple #[.bool (decide (near a b∧near c d∧same a b c d)),.int .i64 (if near a b∧near c d then 0 else 2)]∧G'=G∧Ho=[]):=by
 refine D0 Tryz.func154 Tryz.ntmps154 fun w=>?_;refine aH 2 [] ?_;refine eC 0 fun b1=>?_;refine eC 1 fun b2=>?_;refine aL 8 [0] ?_;refine cF F9 Ij ?_;refine aQ (fS F9) ?_;refine aC 1 [] ?_;apply dZ 4 9 13 F9;intro hg1;refine aC 3 [1] ?_;refine cF F9 Ij ?_;refine aC 1 [] ?_;refine aQ (fS F9) ?_;refine aC 1 [] ?_;exact dI 4 0;intro hg1;refine aC 4 [] ?_;exact dI 4 0;refine aZ 2 [] ?_;refine dB (fun hc1=>?_) fun hc1=>?_;refine bG 8 [] ?_;refine iB ?_;rotate_left;refine bL 3 [] ?_;refine dK [0,1] [] T.mixed [[0,0],[2,1]] ?_;refine bE 1 ?_;refine cF F9 (bd _ _ _ Og Og) ?_;refine cX 3 ?_;refine cF F9 (bd _ _ _ Og Og) ?_;refine aT ?_;refine eD 4 [] F9 (Nm [_,_] [_,_] T.ai52 F9 F9 F9 F9) ?_;refine dP [[5],[6]] ?_;refine cT ?_;refine dO 2 [] ?_;refine iB ?_;rotate_left
 · exact ⟨by rw [aD (by unfold near at *;omega),cD (fun h=>absurd (And.intro h.1 h.2.1) Og)],rfl,rfl⟩
 refine ⟨?_,F9,F9⟩;rw [aE (by unfold near at *;omega)];congr 4;exact decide_eq_decide.mpr (by unfold same near at *;rw [Prod.ext_iff];simp;omega)
theorem FG {a b c d:Int} (h:near a b) (k:near c d):-256≤a*d∧a*d≤256:=by
 unfold near at *;have h1:(a*d).natAbs≤16*16:=by rw [gG];exact gV sW sW
 omega
theorem ia (G:A3) (a b c d:Int):Does Tryz.prog 229 [.agg #[.int .i64 a,.int .i64 b],.agg #[.int .i64 c,.int .i64 d]] G [] (fun v G' Ho=>v=.tuple #[.int .i64 (if near a b∧near c d then a*d - c*b else 0),.int .i64 (if near a b∧near c d then 0 else 2)]∧G'=G∧Ho=[]):=by
 refine D0 Tryz.func229 Tryz.ntmps229 fun w=>?_;refine aH 2 [] ?_;refine eC 0 fun b1=>?_;refine eC 1 fun b2=>?_;refine aL 8 [0] ?_;refine cF F9 Ij ?_;refine aQ (fS F9) ?_;refine aC 1 [] ?_;apply dZ 4 9 13 F9;intro hg1;refine aC 3 [1] ?_;refine cF F9 Ij ?_;refine aC 1 [] ?_;refine aQ (fS F9) ?_;refine aC 1 [] ?_;exact dI 4 0;intro hg1;refine aC 4 [] ?_;exact dI 4 0;refine aZ 2 [] ?_;refine dB (fun hc1=>?_) fun hc1=>?_;refine bG 8 [] ?_;refine iB ?_;rotate_left;refine aH 8 [0,1] ?_;refine aQ (mO F9 F9) ?_;refine aC 4 [1,0] ?_;refine aQ (mO F9 F9) ?_;refine aQ (Io F9 F9) ?_;refine aS 5 [] ?_;refine iB ?_;rotate_left
 · exact ⟨by rw [aD (by unfold near at *;omega),aD (by unfold near at *;omega)],F9,F9⟩
 have hn:near a b∧near c d:=Og;have m1:=FG hn.1 hn.2;have m2:=FG hn.2 hn.1;exact ⟨by rw [aE hn,aE hn,jV (a*d) sW,jV (c*b) sW,jV _ sW],F9,F9⟩
def Vv (p q:R2):Prop:=near p.a p.b∧near q.a q.b∧same p.a p.b q.a q.b
def Twin (l:List R2):Prop:=∃ j,j<l.length∧∃ i,i<j∧Vv (l[i]?.getD default) (l[j]?.getD default)
theorem be (G:A3) (a:Option Addr) (c:Nat) (l:List R2) (ha:Arr G a l) (h1:l.length≤1048576) (hc:l.length≤c):Does Tryz.prog 106 [.slice a l.length c] G [] (fun v G' Ho=>∃ (i j:Int) (b:Bool),v=.tuple #[.int .i64 i,.int .i64 j,.bool b]∧(b=true↔Twin l)∧G'=G∧Ho=[]):=by
 refine D0 Tryz.func106 Tryz.ntmps106 fun w=>?_;refine bL 16 [] ?_;refine iA (ι:=Nat) (fun j=>([(13,.int .i64 (j:Int)),(12,.int .i64 (l.length:Int)),(11,.slice a (List.length l) c),(0,.slice a (List.length l) c)],[])) (fun j=>j≤l.length∧(∀ j',j'<j→∀ i,i<j'→¬Vv (l[i]?.getD default) (l[j']?.getD default))) (fun j=>l.length - j) (0) (⟨aN _,fun j' h=>absurd h sW⟩) fun j=>fun hk=>?_;obtain ⟨hj,hno⟩:=hk;refine bL 6 [] ?_;refine dB (fun hc1=>?_) fun hc1=>?_;refine aH 7 [] ?_;refine fV (α:=R2) T.sl22 ?_;refine lP T.agg52 ?_;refine aM 0 F9 T.zero52 fun b1=>?_;refine aL 8 [0] ?_;refine aQ (Nl T.sl22 F9 F9 sW) ?_;refine aZ 5 [] ?_;rotate_left;refine bG 13 [] ?_;refine kT ?_;rotate_left
 · have haj:Arr G (C6 a c 0 2) (l.take j):=Iv ha j;have ej:(l.take j).length=j:=by rw [bH];omega
   refine iP 20 F9 (show _=Value.slice (C6 a c 0 2) (l.take j).length c by rw [ej];rfl) ?_;refine iA (ι:=Nat) (fun i=>([(22,.int .i64 (i:Int)),(0,.slice a l.length c),(11,.slice a l.length c),(12,.int .i64 (l.length:Int)),(20,.slice (Go.Sl.C6 a c 0 2) (List.length (List.take j l)) c),(21,.int .i64 (↑(Int.toNat (↑j:Int)):Int)),(5,.int .i64 (↑j:Int)),(6,.pointer (some ⟨b1,0,none⟩)),(13,.int .i64 (↑j:Int))],[(0,some b1,.cells (List.toArray (A2.enc (Option.getD l[Int.toNat (↑j:Int)]? default))) 52)])) (fun i=>i≤j∧(∀ i',i'<i→¬Vv (l[i']?.getD default) (l[j]?.getD default))) (fun i=>j - i) (0) (⟨aN _,fun i' h=>absurd h sW⟩) fun i=>fun hk=>?_;obtain ⟨hi,hni⟩:=hk;have eti:i<j→(l.take j)[(i:Int).toNat]?.getD default=l[i]?.getD default:=fun h=>by rw [nB,aE (by omega)];rfl
   have etj:l[(j:Int).toNat]?.getD default=l[j]?.getD default:=rfl;refine bL 6 [] ?_;refine dB (fun hc2=>?_) fun hc2=>?_;refine aH 7 [] ?_;refine fV (α:=R2) T.sl22 ?_;refine lP T.agg52 ?_;refine aM 1 F9 T.zero52 fun b2=>?_;refine aL 8 [1,1,0] ?_;refine cF F9 (by apply gz <;> first | assumption | omega | rfl) ?_;refine aZ 12 [] ?_;refine dB (fun hc3=>?_) fun hc3=>?_;refine bG 19 [] ?_;refine kT ?_;rotate_left;refine bG 7 [] ?_;rotate_left;refine bG 10 [] ?_;rotate_left
   · rw [eti sW] at hc3;exact ⟨_,_,true,F9,⟨fun _=>⟨j,by omega,i,by omega,hc3⟩,fun _=>rfl⟩,F9,F9⟩
   · refine cE 22 F9 (show _=Value.int .i64 ((i+1:Nat):Int) from F9) ?_;refine cM (i+1) ?_ ?_
     · refine ⟨by omega,fun i' h2=>?_⟩;rcases aK i' i with h | h
       · exact hni i' h
       have e:i'=i:=sW;subst e;intro hq;rw [eti sW] at hc3;exact hc3 hq
     omega
   refine cE 13 F9 (show _=Value.int .i64 ((j+1:Nat):Int) from F9) ?_;refine cM (j+1) ?_ ?_
   · refine ⟨by omega,fun j' h1 i h2=>?_⟩;rcases aK j' j with h | h
     · exact hno j' h i h2
     have e:j'=j:=sW;subst e;exact hni i sW
   omega
 refine ⟨0,0,false,F9,⟨fun h=>absurd h tG,fun ⟨j',h1,i',h2,h3⟩=>absurd h3 (hno j' sW i' h2)⟩,F9,F9⟩
def Nr (p:R2):Prop:=near p.a p.b∧¬(p.a=0∧p.b=0)
def uG (l:List R2):Prop:=1≤l.length∧l.length≤15∧(∀ i,i<l.length→Nr (l[i]?.getD default))∧¬Twin l
theorem ib (G:A3) (a:Option Addr) (c:Nat) (l:List R2) (ha:Arr G a l) (h1:l.length≤1048576) (hc:l.length≤c):Does Tryz.prog 144 [.slice a l.length c] G [] (fun v G' Ho=>∃ b:Bool,v=.bool b∧(b=true↔uG l)∧G'=G∧Ho=[]):=by
 refine D0 Tryz.func144 Tryz.ntmps144 fun w=>?_;refine aH 12 [] ?_;apply dZ 4 11 15 F9;intro hg1;refine aC 7 [] ?_;exact dI 4 0;intro hg1;refine aC 4 [] ?_;exact dI 4 0;refine aZ 2 [] ?_;refine dB (fun hc1=>?_) fun hc1=>?_;refine bG 7 [] ?_;refine dA ?_;rotate_left;refine bL 11 [] ?_;rotate_left
 · exact ⟨false,F9,⟨fun h=>absurd h tG,fun h=>absurd h.1 (by have:=h.2.1;omega)⟩,F9,F9⟩
 refine iA (ι:=Nat) (fun j=>([(18,.int .i64 (j:Int)),(0,.slice a l.length c),(17,.int .i64 (l.length:Int)),(16,.slice a (List.length l) c)],[])) (fun j=>j≤l.length∧(∀ i,i<j→Nr (l[i]?.getD default))) (fun j=>l.length - j) (0) (⟨aN _,fun j' h=>absurd h sW⟩) fun j=>fun hk=>?_;obtain ⟨hj,hno⟩:=hk;refine bL 6 [] ?_;refine dB (fun hc2=>?_) fun hc2=>?_;refine aH 6 [] ?_;refine fV (α:=R2) T.sl22 ?_;refine lP T.agg52 ?_;refine aM 0 F9 T.zero52 fun b1=>?_;refine aL 6 [0,0] ?_;refine cF F9 Ij ?_;refine aQ (fS F9) ?_;refine aC 1 [] ?_;apply dZ 3 25 28 F9;intro hg1;refine aC 3 [0] ?_;refine cF F9 (by apply az <;> first | assumption | omega | rfl) ?_;refine aC 1 [] ?_;exact dI 3 0;intro hg1;refine aC 3 [] ?_;exact dI 3 0;refine aZ 2 [] ?_;refine dB (fun hc3=>?_) fun hc3=>?_;refine bG 11 [] ?_;refine dA ?_;rotate_left;refine bG 7 [] ?_;rotate_left;refine aH 8 [] ?_;refine bS 0 F9 (be _ _ _ _ sX sW uI) fun v1 G1 Ho1 hle1 hp=>?_;obtain ⟨ti1,tj1,tb1,rfl,htb1,rfl,rfl⟩:=hp;refine aS 17 [] ?_;refine dA ?_;rotate_left
 · exact ⟨false,F9,⟨fun h=>absurd h tG,fun h=>absurd (h.2.2.1 j sW) (by show ¬Nr (l[(j:Int).toNat]?.getD default);unfold Nr;unfold near at *;omega)⟩,F9,F9⟩
 · refine cE 18 F9 (show _=Value.int .i64 ((j+1:Nat):Int) from F9) ?_;refine cM (j+1) ?_ ?_
   · refine ⟨by omega,fun i' h2=>?_⟩;rcases aK i' j with h | h
     · exact hno i' h
     have e:i'=j:=sW;subst e;show Nr (l[(i':Int).toNat]?.getD default);unfold Nr;unfold near at *;omega
   omega
 refine ⟨!tb1,F9,?_,F9,F9⟩;have e:(∀ i,i<l.length→Nr (l[i]?.getD default)):=fun i hi=>hno i sW;rw [pO,nQ,ne_eq,htb1];exact ⟨fun h=>⟨by omega,by omega,e,h⟩,fun h=>h.2.2.2⟩
instance (a b c d:Int):Decidable (if (a=0∧b=0)∨(c=0∧d=0) then (a=0∧b=0)∧(c=0∧d=0) else a*d - c*b=0):=by split <;> infer_instance
def TM (a b c d:Int):Prop:=if (a=0∧b=0)∨(c=0∧d=0) then (a=0∧b=0)∧(c=0∧d=0) else a*d - c*b=0
instance (a b c d:Int):Decidable (TM a b c d):=inferInstanceAs (Decidable (if (a=0∧b=0)∨(c=0∧d=0) then (a=0∧b=0)∧(c=0∧d=0) else a*d - c*b=0))
theorem Jg {y g:Int} (h:y*g<0) (hg:g<0):0<y:=by
 rcases sI y 0 with h1 | h1 | h1
 · have:=Int.mul_pos_of_neg_of_neg h1 hg;omega
 · subst h1;rw [eV] at h;omega
 exact h1
theorem Gz {y g:Int} (h:0<y*g) (hg:0<g):0<y:=by
 rcases sI y 0 with h1 | h1 | h1
 · have:=Int.mul_neg_of_neg_of_pos h1 hg;omega
 · subst h1;rw [eV] at h;omega
 exact h1
theorem Lb {a b:Int} (h:¬(a=0∧b=0)):∃ x y g:Int,FE a b=(x,y)∧g≠0∧x*g=a∧y*g=b∧Int.gcd x y=1∧(0<y∨(y=0∧0<x)):=by
 have hg0:0<Int.gcd a b:=by
  rcases gK (Int.gcd a b) with h0 | h0
  · exact absurd (Int.gcd_eq_zero_iff.mp h0) h
  exact h0
 have hgn:vQ a b≠0:=by unfold vQ;split <;> omega
 have habs:(vQ a b).natAbs=Int.gcd a b:=by unfold vQ;split <;> omega
 have d1:vQ a b ∣ a:=Int.natAbs_dvd.mp (by rw [habs];exact sU a b);have d2:vQ a b ∣ b:=Int.natAbs_dvd.mp (by rw [habs];exact sJ a b);have e1:=kO d1;have e2:=kO d2;refine ⟨a.tdiv (vQ a b),b.tdiv (vQ a b),vQ a b,by unfold FE;rw [aD h],hgn,e1,e2,?_,?_⟩
 · show Nat.gcd (a.tdiv (vQ a b)).natAbs (b.tdiv (vQ a b)).natAbs=1;rw [show (a.tdiv (vQ a b)).natAbs=a.natAbs / (vQ a b).natAbs from mY _ _,show (b.tdiv (vQ a b)).natAbs=b.natAbs / (vQ a b).natAbs from mY _ _,habs];exact Nat.coprime_div_gcd_div_gcd hg0
 generalize hx:a.tdiv (vQ a b)=x at *;generalize hy:b.tdiv (vQ a b)=y at *;rcases sI b 0 with hb | hb | hb
 · left;refine Jg (g:=vQ a b) sW ?_;unfold vQ;rw [aE (.inl hb)];omega
 · right;have hy0:y=0:=by
    rcases Int.mul_eq_zero.mp (show y*vQ a b=0 by omega) with h1 | h1
    · exact h1
    exact absurd h1 hgn
   refine ⟨hy0,?_⟩;rcases (show a<0∨0≤a by omega) with ha | ha
   · refine Jg (g:=vQ a b) sW ?_;unfold vQ;rw [aE (.inr ⟨hb,ha⟩)];omega
   refine Gz (g:=vQ a b) sW ?_;unfold vQ;rw [aD (by omega)];omega
 left;refine Gz (g:=vQ a b) sW ?_;unfold vQ;rw [aD (by omega)];omega
theorem IU {x y u v:Int} (h1:Int.gcd x y=1) (h2:Int.gcd u v=1) (s1:0<y∨(y=0∧0<x)) (s2:0<v∨(v=0∧0<u)) (h:x*v=u*y):x=u∧y=v:=by
 have e:x.natAbs*v.natAbs=u.natAbs*y.natAbs:=by rw [←gG,←gG,h]
 have c1:Nat.Coprime x.natAbs y.natAbs:=h1;have c2:Nat.Coprime u.natAbs v.natAbs:=h2;have p1:x.natAbs ∣ u.natAbs:=c1.dvd_of_dvd_mul_right (e▸Nat.dvd_mul_right _ _);have p2:u.natAbs ∣ x.natAbs:=c2.dvd_of_dvd_mul_right (e▸Nat.dvd_mul_right _ _);have p3:y.natAbs ∣ v.natAbs:=c1.symm.dvd_of_dvd_mul_left (e▸Nat.dvd_mul_left _ _);have p4:v.natAbs ∣ y.natAbs:=c2.symm.dvd_of_dvd_mul_left (e▸Nat.dvd_mul_left _ _);have q1:=Nat.dvd_antisymm p1 p2;have q2:=Nat.dvd_antisymm p3 p4;have hyv:y=v:=sW;refine ⟨?_,hyv⟩;subst hyv;rcases s1 with s | s
 · exact pF sW h
 omega
theorem NT (a b c d:Int):same a b c d↔TM a b c d:=by
 unfold same TM;by_cases hp:a=0∧b=0
 · by_cases hq:c=0∧d=0
   · rw [aE (.inl hp)];obtain ⟨rfl,rfl⟩:=hp;obtain ⟨rfl,rfl⟩:=hq;exact ⟨fun _=>⟨⟨F9,F9⟩,F9,F9⟩,fun _=>rfl⟩
   rw [aE (.inl hp)];refine ⟨fun h=>?_,fun h=>absurd h.2 hq⟩;obtain ⟨u,v,k,e2,hk,_,_,_,s2⟩:=Lb hq;have e1:FE a b=(0,0):=by unfold FE;rw [aE hp,hp.1,hp.2]
   rw [e1,e2] at h;injection h with h3 h4;omega
 obtain ⟨x,y,g,e1,hg,f1,f2,c1,s1⟩:=Lb hp;by_cases hq:c=0∧d=0
 · rw [aE (.inr hq)];refine ⟨fun h=>?_,fun h=>absurd h.1 hp⟩;have e2:FE c d=(0,0):=by unfold FE;rw [aE hq,hq.1,hq.2]
   rw [e1,e2] at h;injection h with h3 h4;omega
 obtain ⟨u,v,k,e2,hk,f3,f4,c2,s2⟩:=Lb hq;rw [aD (fun h=>h.elim hp hq),e1,e2];have key:a*d - c*b=(x*v - u*y)*(g*k):=by
  rw [←f1,←f2,←f3,←f4,kU];congr 1 <;> ac_rfl
 constructor
 · intro h;injection h with h3 h4;rw [key,h3,h4,sH,eV]
 intro h;rw [key] at h;have hgk:g*k≠0:=fun h0=>(Int.mul_eq_zero.mp h0).elim hg hk;have h5:x*v - u*y=0:=(Int.mul_eq_zero.mp h).resolve_right hgk;obtain ⟨r1,r2⟩:=IU c1 c2 s1 s2 sW;rw [r1,r2]
section
attribute [local irreducible] tA pb uY uD p2
theorem bg (G:A3) (x:IV) (z n:Int) (hx:C1 G x z) (h1:x.n≤536870912) (hn:-9223372036854775808≤n∧n≤9223372036854775807) :
 Does Tryz.prog 207 [.agg (A2.enc x).toArray,.int .i64 n] G [] (fun v G' Ho=>∃ r:IV,v=.agg (A2.enc r).toArray∧C1 G' r (z*n)∧Ho=[]):=by
 have hn3:(n.natAbs:Int)<pb 3:=by
  have e:pb 3=79228162514264337593543950336:=by unfold pb;decide
  omega
 obtain ⟨n1,a,k1,ca⟩:=x;refine D0 Tryz.func207 Tryz.ntmps207 fun w=>?_;refine aH 2 [] ?_;refine eC 0 fun b1=>?_;refine aM 1 F9 T.zero125 fun b2=>?_;refine aZ 3 [] ?_;refine dK [0,1] [(1,4)] T.mixed [[0,0],[1]] ?_;refine bE 2 ?_;refine bS 2 F9 (RI _ _ sW) fun v1 G1 Ho1 hle1 hp=>?_;obtain ⟨ro,rfl,hro,rfl⟩:=hp;replace hx:=hx.up hle1;refine cX 3 ?_;refine bS 2 F9 (gp _ _ _ _ _ hx hro h1 (bO (jQ hro hn3) tG)) fun v2 G2 Ho2 hle2 hp=>?_;obtain ⟨rm,rfl,hrm,rfl⟩:=hp;replace hro:=hro.up hle2;replace hx:=hx.up hle2;refine cX 4 ?_;refine aC 1 [1] ?_;refine fJ ?_;refine dO 2 [] ?_;refine cK (.inr F9) (Ho:=Hp.only _ []) F9 (.agg 1 F9 F9 T.agg125) (aU _ _) ?_;exact ⟨rm,F9,hrm,F9⟩
end
section
attribute [local irreducible] tA pb uY uD p2
def yE (a b:Int) (n:Nat):List Int:=(List.range n).map fun j=>a ^ j*b ^ (n - 1 - j)
theorem bj (G:A3) (a b:Int) (n:Nat) (hp:near a b) (hn:n≤15) :
 Does Tryz.prog 157 [.agg #[.int .i64 a,.int .i64 b],.int .i64 n] G [] (fun v G' Ho=>∃ (s:Option Addr) (r:List IV) (c':Nat),v=.tuple #[.slice s r.length c',.int .i64 0]∧Arr G' s r∧B7 G' r (yE a b n)∧r.length≤c'∧Ho=[]):=by
 refine D0 Tryz.func157 Tryz.ntmps157 fun w=>?_;have hpn:¬((¬near a b∨(n:Int)<0)∨16<(n:Int)):=Og;refine aH 2 [] ?_;refine eC 0 fun b1=>?_;refine aL 8 [0] ?_;refine cF F9 Ij ?_;refine aQ (fS F9) ?_;refine aC 1 [] ?_;apply dZ 3 14 17 F9;intro hg1;refine aC 5 [] ?_;exact dI 3 0;intro hg1;refine aC 3 [] ?_;exact dI 3 0;refine aC 1 [] ?_;apply dZ 3 18 21 F9;intro hg1;refine aC 5 [] ?_;exact dI 3 0;intro hg1;refine aC 3 [] ?_;exact dI 3 0;refine aL 8 [0] ?_;refine gN (α:=IV) 1 F9 T.sl68 T.el125 F9 F9 sW sW fun b2=>?_;refine aL 5 [] ?_;refine bS 2 F9 (RI _ 1 tG) fun v1 G1 Ho1 hle1 hp=>?_;obtain ⟨ro1,rfl,hro1,rfl⟩:=hp;refine bS 2 F9 (RI _ 1 tG) fun v2 G2 Ho2 hle2 hp=>?_;obtain ⟨ro2,rfl,hro2,rfl⟩:=hp;replace hro1:=hro1.up hle2;refine aM 2 F9 T.zero125 fun b3=>?_;refine aM 3 F9 T.zero125 fun b4=>?_;refine aZ 13 [2,3] ?_;refine iP 6 F9 (show _=Value.slice (some ⟨b2,0,none⟩) (List.replicate n (default:IV)).length n by simp) ?_;have e2:(List.replicate n (default:IV)).length=n:=aJ ..;refine kE (ι:=Nat×A3×List IV×IV×(Option Addr×Nat×List Value)) (fun (k,Gx,r,x,(o,d,j))=>([(28,.int .i64 (k:Int)),(6,.slice o r.length d),(27,.int .i64 (↑(List.length (List.replicate (Int.toNat (↑n:Int)) default)):Int)),(8,.pointer (some (Addr.mk b4 0 none))),(7,.pointer (some (Addr.mk b3 0 none))),(5,.int .i64 0),(4,.slice none 0 0),(2,.pointer (some ⟨b1,0,none⟩)),(1,.int .i64 (↑n:Int))],[(1,o.map (·.block),Row 125 r j),(2,some b3,.cells (A2.enc x).toArray 125),(3,some b4,.cells (List.toArray (A2.enc ro2)) 125),(0,some b1,.cells #[.int .i64 a,.int .i64 b] 52)])) (fun (k,Gx,r,x,(o,d,j))=>Gx) (fun (k,Gx,r,x,(o,d,j))=>k≤n∧G2.le Gx∧r.length=n∧B7 Gx r ((List.range n).map fun i=>if i<k then a ^ i else 0)∧C1 Gx x (a ^ k)∧A4 o d r j) (fun (k,Gx,r,x,(o,d,j))=>n - k) ((0,G2,List.replicate n default,ro1,(some ⟨b2,0,none⟩,n,[]))) (⟨aN _,bN _,aJ ..,by have e:(List.range n).map (fun i=>if i<0 then a ^ i else 0)=List.replicate n (0:Int):=by { apply gD <;> simp };rw [e];exact rY _ _,by rw [lC];exact hro1,.inr ⟨b2,F9,by rw [aJ];rfl,by omega,by simp only [maxLen];omega⟩⟩) F9 ⟨F9,F9,F9,F9,F9,F9,F9,F9,F9,H2⟩ ⟨F9,F9,F9,F9,H2⟩ fun ⟨k,Gx,r,x,(o,d,j)⟩=>fun hk=>?_;obtain ⟨hk1,hk2,hk3,hk4,hk5,hob⟩:=hk;have e1:(List.replicate ((n:Int)).toNat (default:IV)).length=n:=EN;have e0:(List.replicate n (default:IV)).length=n:=aJ ..;have hx3:k≤15→((a ^ k).natAbs:Int)<pb 3:=fun h=>by
  have e:pb 3=79228162514264337593543950336:=by unfold pb;decide
  have e2:(a ^ k).natAbs≤16 ^ 15:=by
   rw [pC];exact bO (oP (show a.natAbs≤16 by unfold near at hp;omega) k) (iR sW h)
  have e3:(16:Nat) ^ 15=1152921504606846976:=tG;omega
 have hxn:x.n≤536870912:=bO (jQ hk5 (hx3 sW)) tG;refine bL 6 [] ?_;refine dB (fun hc1=>?_) fun hc1=>?_;refine aH 15 [2] ?_;refine iK (α:=IV) T.sl68 ?_;rotate_left;refine bL 14 [] ?_;rotate_left
 · refine dJ (z:=x) 1 T.size125 F9 F9 F9 sX sW F9 fun h9=>?_;refine aL 6 [2,0] ?_;refine bS 4 F9 (bg _ _ _ a hk5 hxn Xu) fun v3 G3 Ho3 hle3 hp=>?_;obtain ⟨rt,rfl,hrt,rfl⟩:=hp;replace hk4:=hk4.up hle3;replace hk5:=hk5.up hle3;refine aS 8 [2] ?_;have hle3':Gx.le G3:=hle3;refine cE 28 F9 (show _=Value.int .i64 ((k+1:Nat):Int) from F9) ?_;refine cE 6 F9 (show _=Value.slice o (r.set (k:Int).toNat x).length d by rw [aG]) ?_;refine cM ((k+1,G3,r.set (k:Int).toNat x,rt,(o,d,j))) ?_ ?_
   · refine ⟨by omega,aO hk2 hle3',by rw [aG];exact hk3,?_,by rw [gU];exact hrt,h9⟩;have h8:=hk4.set k hk5;rw [aF];have e:((List.range n).map fun i=>if i<k then a ^ i else 0).set k (a ^ k)=(List.range n).map fun i=>if i<k+1 then a ^ i else 0:=by
      apply gD
      · simp
      intro i h1 h2;rw [List.getElem_set];simp only [gB,kY];by_cases h:k=i
      · subst h;simp
      rw [aD h];by_cases h7:i<k
      · rw [aE h7,aE (by omega)]
      rw [aD h7,aD (by omega)]
     rw [e] at h8;exact h8
   show n - (k+1)<n - k;omega
 have hkn:k=n:=sW;subst hkn;have hl1:(List.range k).map (fun i=>if i<k then a ^ i else (0:Int))=(List.range k).map fun m=>if ((m:Nat):Int)≤(k:Int) - 1 then a ^ m else a ^ m*b ^ (k - 1 - m):=by
  apply jL;intro m hm;rw [iO] at hm;rw [aE hm,aE (by omega)]
 rw [hl1] at hk4;refine Wc.lg (ι:=Int×A3×List IV×IV) (fun (i,Gy,q,y)=>([(10,.int .i64 i),(6,.slice o q.length d),(8,.pointer (some (Addr.mk b4 0 none))),(5,.int .i64 0),(4,.slice none 0 0),(2,.pointer (some ⟨b1,0,none⟩))],[(1,o.map (·.block),Row 125 q j),(3,some b4,.cells (A2.enc y).toArray 125),(2,some b3,.cells (List.toArray (A2.enc x)) 125),(0,some b1,.cells #[.int .i64 a,.int .i64 b] 52)])) (fun (i,Gy,q,y)=>Gy) (fun (i,Gy,q,y)=>-1≤i∧i<k∧Gx.le Gy∧q.length=k∧B7 Gy q ((List.range k).map fun m=>if ((m:Nat):Int)≤i then a ^ m else a ^ m*b ^ (k - 1 - m))∧C1 Gy y (b ^ ((k:Int) - 1 - i).toNat)∧A4 o d q j) (fun (i,Gy,q,y)=>(i+1).toNat) (((k:Int) - 1,Gx,r,ro2)) (⟨by omega,by omega,bN _,hk3,hk4,by rw [show ((k:Int) - 1 - ((k:Int) - 1)).toNat=0 by omega,lC];exact hro2.up hk2,hob⟩) fun ⟨i,Gy,q,y⟩=>fun hk=>?_;obtain ⟨hi1,hi2,hi3,hi4,hi5,hi6,hi7⟩:=hk;rcases qO i 0 with hi0 | hi0
 · have hi9:i=-1:=sW;subst hi9;have hl2:(List.range k).map (fun m=>if ((m:Nat):Int)≤-1 then a ^ m else a ^ m*b ^ (k - 1 - m))=yE a b k:=by
    unfold yE;apply jL;intro m hm;rw [aD (by omega)]
   rw [hl2] at hi5;refine bG 21 [0] ?_;refine dD 1 F9 hi7 fun G8 hle8 hA8=>?_;refine iB ?_;exact ⟨_,_,_,F9,hA8,hi5.up hle8,hi7.le,F9⟩
 obtain ⟨m,rfl⟩:∃ m:Nat,i=(m:Int):=⟨i.toNat,by omega⟩
 have hmk:m<k:=sW;have hbe:C1 Gy (q[(m:Int).toNat]?.getD default) (a ^ m):=by
  have h9:=hi5.2 m sW;rw [bK,fB hmk] at h9;rw [aF];simpa using h9
 have hsm:∀ (c:Int) (e:Nat),-16≤c∧c≤16→e≤15→((c ^ e).natAbs:Int)<pb 3:=fun c e hc he=>by
  have e0:pb 3=79228162514264337593543950336:=by unfold pb;decide
  have e2:(c ^ e).natAbs≤16 ^ 15:=by
   rw [pC];exact bO (oP (show c.natAbs≤16 by omega) e) (iR sW he)
  have e3:(16:Nat) ^ 15=1152921504606846976:=tG;omega
 have hlq:=jQ hbe (hsm a m Xu sW);have hly:=jQ hi6 (hsm b _ Xu sW);have hyn:y.n≤536870912:=bO hly tG;refine bL 13 [1] ?_;refine dK [0,2,3,1] [(1,9),(3,9),(2,9),(0,9)] T.mixed [[0],[1],[2],[3]] ?_;refine fO (α:=IV) 4 T.sl68 ?_;refine eD 5 [1] F9 (Ku 1 T.agg125 F9 F9 sX sW) ?_;refine dP [[6,3]] ?_;refine bE 7 ?_;refine bS 4 F9 (gp _ _ _ _ _ hbe hi6 (bO hlq tG) (bO hly tG)) fun v3 G3 Ho3 hle3 hp=>?_;obtain ⟨rm3,rfl,hrm3,rfl⟩:=hp;replace hi5:=hi5.up hle3;replace hi6:=hi6.up hle3;replace hbe:=hbe.up hle3;refine aT ?_;refine fO (α:=IV) 8 T.sl68 ?_;refine bE 9 ?_;refine dJ (z:=rm3) 1 T.size125 F9 F9 F9 sX sW F9 fun h9=>?_;refine fJ ?_;refine lK 5 [3,0] ?_;refine bS 4 F9 (bg _ _ _ b sX hyn Xu) fun v4 G4 Ho4 hle4 hp=>?_;obtain ⟨rt4,rfl,hrt4,rfl⟩:=hp;replace hrm3:=hrm3.up hle4;replace hi5:=hi5.up hle4;replace hi6:=hi6.up hle4;replace hbe:=hbe.up hle4;refine aS 9 [3] ?_;refine cE 6 F9 (show _=Value.slice o (q.set (m:Int).toNat rm3).length d by rw [aG]) ?_;refine cM (((m:Int) - 1,_,q.set (m:Int).toNat rm3,rt4)) ?_ ?_
 · refine ⟨by omega,by omega,aO hi3 (aO sX sX),by rw [aG];exact hi4,?_,?_,h9⟩
   · have h8:=hi5.set m hrm3;rw [aF];have e:((List.range k).map fun q=>if ((q:Nat):Int)≤(m:Int) then a ^ q else a ^ q*b ^ (k - 1 - q)).set m (a ^ m*b ^ ((k:Int) - 1 - (m:Int)).toNat)=(List.range k).map fun q=>if ((q:Nat):Int)≤(m:Int) - 1 then a ^ q else a ^ q*b ^ (k - 1 - q):=by
      apply gD
      · simp
      intro i h1 h2;rw [List.getElem_set];simp only [gB,kY];by_cases h:m=i
      · subst h;rw [aE rfl,aD (by omega)];congr 2;omega
      rw [aD h];by_cases h7:(i:Int)≤(m:Int)
      · rw [aE h7,aE (by omega)]
      rw [aD h7,aD (by omega)]
     rw [e] at h8;exact h8
   have e:((k:Int) - 1 - ((m:Int) - 1)).toNat=((k:Int) - 1 - (m:Int)).toNat+1:=sW;rw [e,gU];exact hrt4
 show ((m:Int) - 1+1).toNat<((m:Int)+1).toNat;omega
end
section
attribute [local irreducible] tA pb uY uD p2 uG yE
def D4 (G:A3) (s:SV) (zs:List Int):Prop:=∃ l:List IV,l.length=s.n∧s.n≤s.c∧Arr G s.a l∧B7 G l zs
theorem D4.up {G G':A3} {s:SV} {zs:List Int} (h:D4 G s zs) (hl:G.le G'):D4 G' s zs:=by
 obtain ⟨l,h1,h2,h3,h4⟩:=h;exact ⟨l,h1,h2,h3.up hl,h4.up hl⟩
def C0 (G:A3) (l:List SV) (rs:List (List Int)):Prop:=l.length=rs.length∧∀ i:Nat,i<l.length→D4 G (l[i]?.getD default) (rs[i]?.getD [])
theorem C0.up {G G':A3} {l:List SV} {rs:List (List Int)} (h:C0 G l rs) (hl:G.le G'):C0 G' l rs:=⟨h.1,fun i hi=>(h.2 i hi).up hl⟩
theorem C0.nil (G:A3):C0 G [] []:=⟨F9,fun i hi=>by simp at hi⟩
theorem C0.snoc {G:A3} {l:List SV} {rs:List (List Int)} (h:C0 G l rs) {s:SV} {zs:List Int} (hs:D4 G s zs):C0 G (l++[s]) (rs++[zs]):=by
 refine ⟨by rw [aB,aB,h.1];rfl,fun i hi=>?_⟩;rw [aB,jW] at hi;rcases aK i l.length with h1 | h1
 · rw [bJ h1,bJ (by rw [←h.1];exact h1)];exact h.2 i h1
 have:i=l.length:=sW;subst this;rw [cL (aI _),cL (by rw [h.1];exact aI _),iW,h.1,iW];exact hs
theorem WJ (G:A3) (a:Option Addr) (c:Nat) (l:List R2) (ha:Arr G a l) (h1:l.length≤1048576) (hc:l.length≤c) (hR:uG l):Does Tryz.prog 144 [.slice a l.length c] G [] (fun v G' Ho=>v=.bool true∧G'=G∧Ho=[]):=
 (ib G a c l ha h1 hc).mono fun v G' Ho _ ⟨b,e1,e2,e3,e4⟩=>⟨by rw [e1,e2.2 hR],e3,e4⟩
def xK (l:List R2):List (List Int):=l.map fun p=>yE p.a p.b l.length
theorem NU (G:A3) (a:Option Addr) (c:Nat) (l:List R2) (ha:Arr G a l) (h1:l.length≤1048576) (hc:l.length≤c) (hR:uG l) (hr1:l.length≤15) (hr2:∀ i,i<l.length→Nr (l[i]?.getD default)) :
 Does Tryz.prog 158 [.slice a l.length c] G [] (fun v G' Ho=>∃ (s:Option Addr) (r:List SV) (c':Nat),v=.tuple #[.slice s r.length c',.int .i64 0]∧Arr G' s r∧C0 G' r (xK l)∧r.length≤c'∧Ho=[]):=by
 refine D0 Tryz.func158 Tryz.ntmps158 fun w=>?_;refine eF 9 (Row 68 ([]:List SV) []) ?_;refine aH 10 [] ?_;refine cF F9 (WJ _ _ _ l sX sW hc hR) ?_;refine aZ 20 [0] ?_;refine kE (ι:=Nat×A3×List SV×(Option Addr×Nat×List Value)) (fun (i,Gx,r,(o,d,j))=>([(14,.int .i64 (i:Int)),(4,.slice o r.length d),(13,.int .i64 (l.length:Int)),(12,.slice a (List.length l) c),(3,.int .i64 0),(2,.slice none 0 0),(0,.slice a (List.length l) c)],[(9,o.map (·.block),Row 68 r j)])) (fun (i,Gx,r,(o,d,j))=>Gx) (fun (i,Gx,r,(o,d,j))=>i≤l.length∧G.le Gx∧r.length=i∧C0 Gx r ((xK l).take i)∧A4 o d r j) (fun (i,Gx,r,(o,d,j))=>l.length - i) ((0,G,[],(none,0,[]))) (⟨aN _,bN _,F9,by rw [bQ];exact C0.nil _,eG⟩) F9 ⟨F9,F9,F9,F9,F9,F9,F9,H2⟩ ⟨F9,H2⟩ fun ⟨i,Gx,r,(o,d,j)⟩=>fun hk=>?_;obtain ⟨hi1,hi2,hi3,hi4,hi5⟩:=hk;replace ha:=ha.up hi2;rcases aK i l.length with hil | hil
 · have hnear:near (l[(i:Int).toNat]?.getD default).a (l[(i:Int).toNat]?.getD default).b:=(hr2 i hil).1;refine aH 13 [1] ?_;refine fV (α:=R2) T.sl22 ?_;refine lP T.agg52 ?_;refine aM 10 F9 T.zero52 fun b1=>?_;refine aL 8 [10,10] ?_;refine bS 11 F9 (bj _ _ _ l.length hnear sW) fun v1 G1 Ho1 hle1 hp=>?_;obtain ⟨ps1,pr1,pc1,rfl,hpA1,hpB1,hpL1,rfl⟩:=hp;replace ha:=ha.up hle1;refine aL 10 [] ?_;refine cC (α:=SV) 11 [⟨_,_,_⟩] F9 T.sl237 T.el68 F9 F9 F9 F9 F9 fun b2=>?_;refine kM (α:=SV) 9 T.sl237 T.el68 (cQ 11 F9) fun a1 c1 junk1 ho1=>?_;refine aS 8 [] ?_;refine cE 14 F9 (show _=Value.int .i64 ((i+1:Nat):Int) from F9) ?_;refine cM ((i+1,_,r++[⟨ps1,pr1.length,pc1⟩],(a1,c1,junk1))) ?_ ?_
   · refine ⟨by omega,aO hi2 sX,by rw [aB,hi3];rfl,?_,ho1⟩;have e:(xK l).take (i+1)=(xK l).take i++[yE (l[(i:Int).toNat]?.getD default).a (l[(i:Int).toNat]?.getD default).b l.length]:=by
      rw [cG];congr 1;unfold xK;rw [bK,aF,aA hil];rfl
     rw [e];exact (hi4.up sX).snoc ⟨pr1,F9,hpL1,hpA1,hpB1⟩
   show l.length - (i+1)<l.length - i;omega
 have hie:i=l.length:=sW;subst hie;have e:(xK l).take l.length=xK l:=fM (by unfold xK;rw [aP];exact aI _);rw [e] at hi4;refine bG 20 [0] ?_;refine dD 9 F9 hi5 fun G8 hle8 hA8=>?_;refine iB ?_;exact ⟨_,_,_,F9,hA8,hi4.up hle8,hi5.le,F9⟩
end
section
attribute [local irreducible] tA Ng pb pw uY uD p2 uG yE
def small (z:Int):Prop:=z.natAbs<18446744073709551616
end
section
attribute [local irreducible] tA Ng pb pw uY uD p2 uG yE
end
theorem Pj {p:PV} {gs os:List (List Int)} (h:tJ p gs=some os):os.length=p.outs.length:=by
 unfold tJ at h;obtain ⟨rs,h1,h2⟩:=jO.1 h;subst h2;unfold xI;rw [aP]
theorem Dh (l:List R2):(xK l).length=l.length:=by unfold xK;rw [aP]
theorem Tf {a b:Int} {n:Nat} (h:near a b) (hn:n≤15):(yE a b n).length=n∧Go.Sl.Below 4 (yE a b n):=by
 refine ⟨by unfold yE;rw [aP,cB],fun z hz=>?_⟩;unfold yE at hz;obtain ⟨k,hk,rfl⟩:=dY.1 hz;have hk:=iO.1 hk;have e4:pw 4=18446744073709551616:=by unfold pw;decide
 have e:(a ^ k*b ^ (n - 1 - k)).natAbs≤16 ^ 15:=by
  rw [gG,pC,pC];refine bO (gV (oP (show a.natAbs≤16 by unfold near at h;omega) k) (oP (show b.natAbs≤16 by unfold near at h;omega) _)) ?_;rw [←oH];exact iR sW sW
 have e3:(16:Nat) ^ 15=1152921504606846976:=tG;omega
theorem DL {l:List R2} (h1:l.length≤15) (hr:∀ i,i<l.length→near (l[i]?.getD default).a (l[i]?.getD default).b):XT 4 l.length (xK l):=fun zs hz=>by
 unfold xK at hz;obtain ⟨p,hp,rfl⟩:=dY.1 hz;obtain ⟨i,hi,rfl⟩:=gF.1 hp;have:=hr i hi;rw [aA hi] at this;have this:near l[i].a l[i].b:=this;exact Tf this h1
def uU (n j:Nat):List Int:=(List.replicate n 0).set j 1
theorem Pk (n j m:Nat) (hm:1≤m):Go.Sl.Below m (uU n j):=by
 have h1:pw 1=65536:=by unfold pw;decide
 refine Go.Sl.Below.mono (m:=1) (fun z hz=>?_) hm;unfold uU at hz;rcases fI hz with h | h
 · rw [jF h,h1];decide
 rw [h,h1];decide
def uP (p:PV) (l:List R2):Prop:=sY p=true∧p.ins=l.length∧p.outs.length=l.length∧tJ p (xK l)=some ((List.range l.length).map (uU l.length))
instance (p:PV) (l:List R2):Decidable (uP p l):=inferInstanceAs (Decidable (_∧_))
section
attribute [local irreducible] tA Ng pb pw uY uD p2 yE xK tJ sY
end
theorem bn (G:A3) (k:Int):Does Tryz.prog 103 [.int .i64 k] G [] (fun v G' Ho=>v=.bool (decide (1≤k∧k≤8))∧G'=G∧Ho=[]):=by
 refine D0 Tryz.func103 Tryz.ntmps103 fun w=>?_;refine dN ?_;refine dL F9 ?_;refine aC 1 [] ?_;refine eT ?_;refine cN ?_;refine dN ?_;refine dL F9 ?_;refine aC 3 [] ?_;apply bW 3 5 8 F9;intro hg1;refine aC 5 [] ?_;exact dI 3 0;intro hg1;refine aC 3 [] ?_;exact dI 3 0;refine aC 1 [] ?_;refine eT ?_;refine cN ?_;refine nH ?_;refine dA ?_;exact ⟨F9,F9,F9⟩
theorem ic (G:A3) (a:Option Addr) (c:Nat) (l:List R2) (ha:Arr G a l) (h1:l.length≤1048576):Does Tryz.prog 153 [.slice a l.length c,.func (.func 105) #[] #[]] G [] (fun v G' Ho=>∃ z:Int,v=.int .i64 z∧(0≤z↔∃ i,i<l.length∧((l[i]?.getD default).a=0∧(l[i]?.getD default).b=0))∧G'=G∧Ho=[]):=by
 refine D0 Tryz.func153 Tryz.ntmps153 fun w=>?_;refine dN ?_;refine dL F9 ?_;refine aC 1 [] ?_;refine eT ?_;refine cN ?_;refine dN ?_;refine dN ?_;refine dL F9 ?_;refine aC 3 [] ?_;refine eT ?_;refine cN ?_;refine Wc.block ?_;refine iA (ι:=Nat) (fun j=>([(8,.int .i64 (j:Int)),(0,.slice a l.length c),(1,.func (.func 105) #[] #[]),(7,.int .i64 (l.length:Int))],[])) (fun j=>j≤l.length∧∀ i,i<j→¬((l[i]?.getD default).a=0∧(l[i]?.getD default).b=0)) (fun j=>l.length - j) (0) (⟨aN _,fun j' h=>absurd h sW⟩) fun j=>fun hk=>?_;obtain ⟨hj,hno⟩:=hk;refine dN ?_;refine dL F9 ?_;refine aC 1 [] ?_;refine eT ?_;refine cN ?_;refine dN ?_;refine dB (fun hc1=>?_) fun hc1=>?_;refine kN ?_;refine cN ?_;refine dN ?_;refine Wc.block ?_;refine dN ?_;refine dL F9 ?_;refine aC 2 [] ?_;refine eT ?_;refine cN ?_;refine dN ?_;refine dL F9 ?_;refine aC 3 [] ?_;refine fV (α:=R2) T.sl22 ?_;refine lP T.agg52 ?_;rotate_left;refine Wc.exit ?_;refine rM ?_;refine rM ?_;refine EO ?_;refine cN ?_;refine dN ?_;refine dL F9 ?_;refine aC 1 [] ?_;refine eT ?_;refine cN ?_;refine nH ?_;refine dA ?_;rotate_left
 · refine fA (fst:=[]) (cap:=[]) 2 F9 T.fn105 F9 F9 (az _ (l[(j:Int).toNat]?.getD default).a (l[(j:Int).toNat]?.getD default).b) (tC H2) fun v1 G1 Ho1 hle1 hp=>?_;obtain ⟨rfl,rfl,rfl⟩:=hp;refine eT ?_;refine cN ?_;refine dB (fun hc2=>?_) fun hc2=>?_;refine dN ?_;refine dL F9 ?_;refine aC 2 [] ?_;refine eT ?_;refine cN ?_;refine nH ?_;refine Km ?_;refine qR ?_;refine qR ?_;refine Km ?_;refine qR ?_;refine dA ?_;rotate_left;refine kN ?_;refine sM ?_;refine cN ?_;refine dL F9 ?_;refine aC 2 [] ?_;refine eT ?_;rotate_left
   · exact ⟨(j:Int),F9,⟨fun _=>⟨j,by omega,hc2⟩,fun _=>by omega⟩,F9,F9⟩
   refine cE 8 F9 (show _=Value.int .i64 ((j+1:Nat):Int) from F9) ?_;refine cM (j+1) ?_ ?_
   · refine ⟨by omega,fun i' h2=>?_⟩;rcases aK i' j with h | h
     · exact hno i' h
     have e:i'=j:=sW;subst e;exact hc2
   omega
 exact ⟨-1,F9,⟨fun h=>absurd h sW,fun ⟨i,hi,h⟩=>absurd h (hno i sW)⟩,F9,F9⟩
theorem ie (G:A3) (a:Option Addr) (c:Nat) (l:List R2) (ha:Arr G a l) (h1:l.length≤1048576):Does Tryz.prog 104 [.slice a l.length c,.func (.func 105) #[] #[]] G [] (fun v G' Ho=>∃ b:Bool,v=.bool b∧(b=true↔∃ i,i<l.length∧((l[i]?.getD default).a=0∧(l[i]?.getD default).b=0))∧G'=G∧Ho=[]):=by
 refine D0 Tryz.func104 Tryz.ntmps104 fun w=>?_;refine dN ?_;refine dL F9 ?_;refine aC 1 [] ?_;refine eT ?_;refine cN ?_;refine dN ?_;refine dL F9 ?_;refine aC 2 [] ?_;refine bS 0 F9 (ic _ _ _ _ sX sW) fun v1 G1 Ho1 hle1 hp=>?_;obtain ⟨tz1,rfl,htz1,rfl,rfl⟩:=hp;refine aC 2 [] ?_;refine eT ?_;refine cN ?_;refine nH ?_;refine dA ?_;exact ⟨decide (0≤tz1),F9,by rw [aV];exact htz1,F9,F9⟩
theorem c33 (G:A3) (a:Option Addr) (c:Nat) (l:List R2) (ha:Arr G a l) (hl:l.length≤1048576) :
 Does Tryz.prog 33 [.slice a l.length c] G [] (fun v G' Ho=>∃ s d j,v=.slice s l.length d∧A4 s d l j∧G'=G∧Ho=[(0,s.map (·.block),Row 52 l j)]):=by
 refine D0 Tryz.func33 Tryz.ntmps33 fun w=>?_;by_cases hne:a=none
 · subst hne;have hl0:l=[]:=by
    rcases ha.2 with h0 | ⟨_,_,h,_⟩
    · exact List.length_eq_zero_iff.mp h0
    cases h
   subst hl0;refine eF 0 (Row 52 ([]:List R2) []) ?_;refine aH 9 [] ?_;refine aQ (jT T.sl22 F9 F9) ?_;refine aZ 2 [] ?_;refine dB (fun hc1=>?_) fun hc1=>?_;refine bG 7 [] ?_;rotate_left;refine aH 4 [] ?_;refine rN 1 F9 T.sl22 fun b1=>?_;refine aC 1 [] ?_;rotate_left;refine cK (.inr F9) (Ho:=[(0,none,Row 52 ([]:List R2) [])]) F9 (.tmp F9) ⟨F9,H2⟩ ?_
   · exact ⟨none,0,[],F9,eG,F9,F9⟩
   exact absurd F9 hc1
 refine aH 9 [] ?_;refine aQ (jT T.sl22 F9 F9) ?_;refine aL 7 [0] ?_;refine rN 0 F9 T.sl22 fun b1=>?_;refine aC 1 [] ?_;refine oY 0 (Row 52 ([]:List R2) []) F9 F9 ?_;refine cP (α:=R2) (xs:=[]) (ys:=l) (junk:=[]) 0 F9 T.sl22 T.el52 F9 F9 F9 (.inr ⟨b1,F9,F9,aI _,aN _⟩) (lQ ha) (by rw [cH];omega) KU fun a1 c1 junk1 ho1=>?_;rw [gA] at ho1 ⊢;refine aS 4 [] ?_;refine cK (.inr F9) (Ho:=[(0,a1.map (·.block),Row 52 l junk1)]) F9 (.tmp F9) ⟨F9,H2⟩ ?_;exact ⟨a1,c1,junk1,F9,ho1,F9,F9⟩
structure PH where
 ins:Int
 regs:Int
 ac:Option Addr
 cn:Nat
 cc:Nat
 ao:Option Addr
 on:Nat
 oc:Nat
instance:Inhabited PH:=⟨⟨0,0,none,0,0,none,0,0⟩⟩
instance:A2 PH:=⟨4,fun x=>[.int .i64 x.ins,.int .i64 x.regs,.slice x.ac x.cn x.cc,.slice x.ao x.on x.oc],fun _=>rfl,fun _=>rfl⟩
end Go.Proofs.YtkdelpdbjfpgmaaGreatDoor
