/- uP of the proof (part 4): what the rows' text needs of the texts that lead to it. -/
import Derived.Test.YtkdelpdbjfpgmaaGreatDoorMHc
set_option linter.unusedVariables false
set_option linter.unusedSimpArgs false
set_option linter.unusedSectionVars false
set_option maxHeartbeats 4000000
set_option maxRecDepth 100000
namespace Go.Proofs.YtkdelpdbjfpgmaaGreatDoor
open Go Go.Sl
theorem ak (G:A3) (x:Int) (h0:0<x) (h1:x<4294967296):Does Tryz.prog 249 [.int .u32 x] G [] (fun v G' Ho=>∃ sh:Nat,v=.int .i64 (sh:Int)∧sh<32∧2147483648≤((2 ^ sh:Nat):Int)*x∧((2 ^ sh:Nat):Int)*(x+1)≤4294967296∧G'=G∧Ho=[]):=by
 obtain ⟨sh,h2,h3,h4,h5⟩:=IR h0 h1;exact (gf G x sN sN).mono fun v G' Ho _ ⟨e1,e2,e3⟩=>⟨sh,by rw [e1,h3],h2,h4,h5,e2,e3⟩
theorem WJ (G:A3) (a:Option Addr) (ca:Nat) (la:List A5) (s:Nat) (ha:Arr G a la) (da:A7 la) (h1:la.length≤1073741824) (hs:s<32) :
 Does Tryz.prog 250 [.slice a la.length ca,.int .i64 (s:Int)] G [] (fun v G' Ho=>∃ r,v=.tuple #[r,.int .i64 0]∧D2 G' r (((2 ^ s:Nat):Int)*sQ la) (la.length+1)∧Ho=[]):=by
 have h:=aj G a ca la 0 s ha da h1 hs sN;rw [show 32*0+s=s by omega,Nw,dP] at h;exact h
section
attribute [local irreducible] sQ pb uJ tT
theorem gh (G:A3) (a b:Option Addr) (ca cb:Nat) (la lb:List A5) (ha:Arr G a la) (hb:Arr G b lb) (da:A7 la) (ta:E7 la) (db:A7 lb) (h1:la.length≤536870912) (h2:lb.length≤536870912) (h3:la.length≤ca) (h4:lb.length≤cb) (hB:0<sQ lb) :
 Does Tryz.prog 222 [.slice a la.length ca,.slice b lb.length cb] G [] (fun v G' Ho=>∃ q r,v=.tuple #[q,r,.int .i64 0]∧D2 G' q (sQ la / sQ lb) la.length∧D2 G' r (sQ la % sQ lb) lb.length∧Ho=[]):=by
 have hA:=uB da;refine D0 Tryz.func222 Tryz.ntmps222 fun w=>?_;refine aI 10 [] ?_;refine bV 0 U (Np _ _ _ _ sO sN tY) fun v1 G1 Ho1 hle1 hp=>?_;obtain ⟨ta1,tm1,rfl,hta1,hte1,htr1,htl1,rfl,rfl⟩:=hp;refine bB 3 [] ?_;have dm:=wT hte1 db;have tp:=Eu hte1 htr1;have hV:=xA hte1 htr1;have hpos:0<tm1.length:=by
  rcases gD tm1.length with h | h
  · have h5:=dO h;rw [h5,uD] at hV;omega
  exact h
 by_cases hlt:sQ la<sQ tm1
 · have hcmp:uJ (sQ la) (sQ tm1)=-1:=Jj hlt;refine aI 16 [0] ?_;refine cI U (Zg _ _ _ _ _ _ _ sO sO sO sO sN sN sN sN) ?_;refine aL 7 [1] ?_;refine bV 0 U (XS _ _ _ _ sO Mr Mr) fun v2 G2 Ho2 hle2 hp=>?_;obtain ⟨na2,nm2,rfl,hna2,hne2,hnt2,hnl2,rfl⟩:=hp;replace ha:=ha.up hle2;replace hb:=hb.up hle2;replace hta1:=hta1.up hle2;refine aS 7 [] ?_;refine kQ ?_;refine ⟨_,_,U,⟨none,[],U,kC _,A7.nil,E7.nil,?_,aM _⟩,Ev (oC hna2 hne2 hnt2 da ?_ (aH _)) db ?_,U⟩
   · rw [uD,qG hA sN]
   · rw [rY hA sN]
   exact gE _ hB
 have hcmp:¬uJ (sQ la) (sQ tm1)<0:=fun h=>hlt (Zj h);by_cases hone:tm1.length=1
 · have hv1:=MQ hone;have hr1:=vP dm 0;have e1:(tm1[(0:Int).toNat]?.getD default).v=lg tm1 0:=rfl;have hb0:0<(tm1[(0:Int).toNat]?.getD default).v∧(tm1[(0:Int).toNat]?.getD default).v<4294967296:=by rw [e1];omega
   refine aI 16 [0] ?_;refine cI U (Zg _ _ _ _ _ _ _ sO sO sO sO sN sN sN sN) ?_;refine aL 19 [0,1] ?_;refine fR (α:=A5) T.sl123 ?_;refine cD U (bW T.one215 U (gB sO sN 0 U U)) ?_;refine bV 0 U (fx _ _ _ _ _ sO sO sN sN sN) fun v2 G2 Ho2 hle2 hp=>?_;obtain ⟨dq2,dz2,dm2,rfl,⟨dqa2,dqm2,rfl,hdqa2,hdql2,hdqt2,hdqv2,hdqn2⟩,hdv2,hd02,hd12,rfl⟩:=hp;replace ha:=ha.up hle2;replace hb:=hb.up hle2;replace hta1:=hta1.up hle2;refine aL 13 [] ?_;refine cZ (α:=A5) 0 [⟨dm2⟩] U T.sl123 T.el215 U U U U U fun b1=>?_;have hdl:A7 [(⟨dm2⟩:A5)]:=A7.one sN;refine fG 0 U (fK (xs:=[(⟨dm2⟩:A5)]) Ea) fun G9 hle9 hA9=>?_;replace hdqa2:=hdqa2.up hle9;refine bV 1 U (XS _ _ _ _ sO Mr Mr) fun v3 G3 Ho3 hle3 hp=>?_;obtain ⟨na3,nm3,rfl,hna3,hne3,hnt3,hnl3,rfl⟩:=hp;replace hA9:=hA9.up hle3;replace hdqa2:=hdqa2.up hle3;refine aS 7 [] ?_;refine kQ ?_;have hdu:=(rA (a:=sQ la) (b:=sQ lb) (r:=dm2) (q:=dz2) hB).2 ⟨by rw [cG,←hV,hv1,←e1];omega,hd02,by rw [←hV,hv1,←e1];exact hd12⟩;refine ⟨_,_,U,⟨dqa2,dqm2,U,hdqa2,hdql2,hdqt2,by rw [hdqv2,hdu.1],hdqn2⟩,Ev (oC hna3 hne3 hnt3 hdl (by rw [Er,hdu.2]) (aH _)) db (gE _ hB),U⟩
 obtain ⟨m,hm⟩:∃ m,tm1.length=m+2:=⟨tm1.length - 2,by omega⟩
 have hx:=vP dm (m+1);have ex:(tm1[((tm1.length:Int) - 1).toNat]?.getD default).v=lg tm1 (m+1):=by unfold lg;rw [show ((tm1.length:Int) - 1).toNat=((m+1:Nat):Int).toNat by omega]
 have hx1:lg tm1 (m+1)≠0:=by
  rcases tp with h | h
  · rw [h] at hm;simp at hm
  unfold lg;rw [aE,show m+1=tm1.length - 1 by omega];exact h
 have hxb:0<(tm1[((tm1.length:Int) - 1).toNat]?.getD default).v∧(tm1[((tm1.length:Int) - 1).toNat]?.getD default).v<4294967296:=by rw [ex];omega
 refine aI 16 [0] ?_;refine cI U (Zg _ _ _ _ _ _ _ sO sO sO sO sN sN sN sN) ?_;refine aL 23 [0,0] ?_;refine fR (α:=A5) T.sl123 ?_;refine jC 0 T.one215 ?_;refine bV 0 U (ak _ _ sN sN) fun v2 G2 Ho2 hle2 hp=>?_;obtain ⟨sh,rfl,hsh,hs1,hs2,rfl,rfl⟩:=hp;refine aL 7 [] ?_;refine bV 0 U (WJ _ _ _ _ sh sO sO sN sN) fun v3 G3 Ho3 hle3 hp=>?_;obtain ⟨sr3,rfl,⟨sa3,sm3,rfl,hsa3,hsl3,hst3,hsv3,hsn3⟩,rfl⟩:=hp;replace ha:=ha.up hle3;replace hb:=hb.up hle3;replace hta1:=hta1.up hle3;refine aL 11 [] ?_;refine bV 0 U (WJ _ _ _ _ sh sO sO sN sN) fun v4 G4 Ho4 hle4 hp=>?_;obtain ⟨sr4,rfl,⟨sa4,sm4,rfl,hsa4,hsl4,hst4,hsv4,hsn4⟩,rfl⟩:=hp;replace hsa3:=hsa3.up hle4;replace ha:=ha.up hle4;replace hb:=hb.up hle4;replace hta1:=hta1.up hle4;refine aL 10 [] ?_;refine cZ (α:=A5) 0 [⟨0⟩] U T.sl123 T.el215 U U U U U fun b1=>?_;have hP:0<((2 ^ sh:Nat):Int):=(zE (s:=sh) sN).choose_spec.2.2;obtain ⟨hvl,hvt⟩:=NG hP hm dm hsl3 hst3 (by rw [←ex];exact hs1) (by rw [←ex];exact hs2) hsv3;have hge:sQ sm3≤sQ sm4:=by
  rw [hsv3,hsv4];exact bU sN (dQ hP)
 have huv:sm3.length≤sm4.length:=by
  rcases aK sm4.length sm3.length with h | h
  · have:=zS hsl4 hsl3 hst3 h;omega
  exact h
 refine Jl (α:=A5) (xs:=sm4) (ys:=[(⟨0⟩:A5)]) 40 U T.sl123 T.el215 U U (lM sO) sN (dT 0 U) sY (by simp only [bA,cE];omega) (by simp only [bA,cE,maxLen];omega) fun b2 c2 j2 ho2=>?_;have hstart:=IS hsl4 hsl3 hst3 sN huv;have huA:sQ (sm4++[(⟨0⟩:A5)])=sQ sm4:=by rw [uQ,Er];show _+_*0=_;omega
 have dU:A7 (sm4++[(⟨0⟩:A5)]):=hsl4.append (A7.one sY);have lU:(sm4++[(⟨0⟩:A5)]).length=sm4.length+1:=by rw [aB];rfl
 change sQ ((sm4++[(⟨0⟩:A5)]).drop _)<_ at hstart;generalize sm4++[(⟨0⟩:A5)]=uL at *;refine aL 16 [] ?_;refine gG (α:=A5) 41 U T.sl123 T.el215 U U sN sN fun b3=>?_;refine bB 15 [] ?_;obtain ⟨N,hN⟩:∃ N,N=uL.length - sm3.length:=⟨_,U⟩
 have hM:((uL.length:Int) - (sm3.length:Int)).toNat=N:=sN;rw [hM];have hNs:sm4.length+1 - sm3.length=N:=sN;rw [hNs] at hstart;have hown:∀ r:List A5,r.length=N→A4 (some ⟨b3,0,none⟩) N r []:=fun r hr=>.inr ⟨b3,U,by rw [hr];rfl,by omega,by simp only [maxLen];omega⟩;have hc2:uL.length≤c2:=ho2.le;have hownU:∀ r:List A5,r.length=uL.length→A4 (some ⟨b2,0,none⟩) c2 r j2:=fun r hr=>by
  rcases ho2 with ⟨h,_⟩ | ⟨b',e,h5,h6,h7⟩
  · cases h
  exact .inr ⟨b',e,by rw [hr];exact h5,by rw [hr];exact h6,h7⟩
 refine iV 16 U (show _=Value.slice (some ⟨b3,0,none⟩) (List.replicate N (default:A5)).length N by rw [aJ]) ?_;refine iV 17 U (show _=Value.int .i64 ((N:Int) - 1) by congr 1;omega) ?_;refine gX (ι:=Nat×List A5×List A5) (fun (k,q,R)=>([(17,.int .i64 ((k:Int) - 1)),(16,.slice (some ⟨b3,0,none⟩) q.length N),(13,.slice (some ⟨b2,0,none⟩) R.length c2),(15,.int .i64 (sm3.length:Int)),(11,.slice sa3 (List.length sm3) (List.length sm3)),(10,.int .i64 (↑sh:Int)),(6,.int .i64 0),(5,.slice none 0 0),(4,.slice none 0 0)],[(41,some b3,Row 215 q []),(40,some b2,Row 215 R j2),(0,some b1,Row (α:=Go.Sl.A5) 215 ([Go.Sl.A5.mk 0]) ([]))])) (fun (k,q,R)=>k≤N∧q.length=N∧A7 q∧R.length=uL.length∧A7 R∧sQ sm4=sQ q*sQ sm3+sQ R∧sQ (R.drop k)<sQ sm3∧∀ j,j<k→lg q j=0) (fun (k,q,R)=>k) ((N,List.replicate N (default:A5),uL)) (⟨aH _,aJ,nV N,U,dU,by rw [show sQ (List.replicate N (default:A5))=0 from Bg N,eN,kY,huA],hstart,fun j _=>Jk N j⟩) fun ⟨k,q,R⟩=>fun hk=>?_;obtain ⟨hk1,hqN,hdq,hRn,hdR,hval,hRlt,hqz⟩:=hk;have hoq:=hown q hqN;have hoR:=hownU R hRn;rcases gD k with rfl | hkp
 · rw [nJ] at hRlt;refine aI 17 [0] ?_;refine fG 41 U hoq (fun G8 hle8 hAq=>fG 40 U hoR (fun G9 hle9 hAR=>?_));replace hAq:=hAq.up hle9;refine bV 42 U (gd _ _ _ _ sh sO sO sN sN sN) fun v5 G5 Ho5 hle5 hp=>?_;obtain ⟨sr5,rfl,⟨sa5,sm5,rfl,hsa5,hsl5,hst5,hsv5,hsn5⟩,rfl⟩:=hp;replace hAR:=hAR.up hle5;replace hAq:=hAq.up hle5;refine aL 10 [] ?_;refine bV 42 U (Np _ _ _ _ sO sN tY) fun v6 G6 Ho6 hle6 hp=>?_;obtain ⟨ta6,tm6,rfl,hta6,hte6,htr6,htl6,rfl,rfl⟩:=hp;refine aS 7 [] ?_;refine kQ ?_;have hRn0:=uB hdR;rw [hsv3,hsv4,hV] at hval;rw [hsv3,hV] at hRlt;obtain ⟨hd1,hd2,_⟩:=SZ hP hval hRn0 hRlt;exact ⟨_,_,U,oC hta6 hte6 htr6 hdq hd2 sN,Ev ⟨sa5,sm5,U,hsa5,hsl5,hst5,by rw [hsv5,hd1],aH _⟩ db (gE _ hB),U⟩
 obtain ⟨i,rfl⟩:∃ i,k=i+1:=⟨k - 1,by omega⟩
 have ei:(((i+1:Nat):Int) - 1).toNat=i:=sN;refine aI 21 [1] ?_;refine aQ (LN T.sl123 U U U sN sN sN) ?_;refine aC 1 [] ?_;have hroom:=NI (n:=m+2) hdR hsl3 (show i<R.length by omega) hvl sN hRlt;obtain ⟨p,hp⟩:∃ p,p=R.take i:=⟨_,U⟩
 obtain ⟨ww,hw⟩:∃ ww,ww=(R.drop i).take (m+3):=⟨_,U⟩
 obtain ⟨z,hz⟩:∃ z,z=R.drop (i+(m+3)):=⟨_,U⟩
 have hsplit:R=p++(ww++z):=by rw [hp,hw,hz];exact NH R i (m+3)
 have lp:p.length=i:=by rw [hp,bG];omega
 have lw:ww.length=m+3:=by rw [hw,bG,gK];omega
 have dw:A7 ww:=by rw [hw];exact (As hdR i).take _
 obtain ⟨hr1,hr2⟩:=hroom;rw [show m+2+1=m+3 by omega] at hr1 hr2;rw [←hw] at hr1;rw [←hz] at hr2;refine fO 93 U (show _=Value.slice (some ⟨b2,p.length,none⟩) ww.length (c2 - i) by
  rw [ei,lp,lw];show Value.slice (if c2=i then (some ⟨b2,0,none⟩:Option Addr) else (some ⟨b2,0,none⟩:Option Addr).map (·.add (i*1))) _ _=_;rw [aD (by omega),fU,Bx,Nat.mul_one,cR];congr 1;omega) ?_
 refine oW 40 (Row 215 (p++(ww++z)) j2) U (by rw [←hsplit]) ?_;refine bV 40 U (gb _ b2 p ww z j2 _ _ _ sm3 m sO dw hsl3 sN lw hvl hvt hr1) fun r9 G9 Ho9 hle9 hp9=>?_;obtain ⟨w9,g9,rfl,rfl,rfl,hg1,hg2,hwl,hwd,hwv,hwlt⟩:=hp9;refine iE (α:=A5) T.sl123 ?_;refine dC (z:=_) 41 T.size215 U U U sO sN U fun ho1=>?_;refine aS 8 [] ?_;have lz:z.length=R.length - (i+(m+3)):=by rw [hz,gK]
 have dz:A7 z:=by rw [hz];exact As hdR _
 have dp:A7 p:=by rw [hp];exact hdR.take _
 have hwin:=SS p ww w9 z sN;rw [←hsplit,lp,hwv,show sQ ww - g9*sQ sm3 - sQ ww=-(g9*sQ sm3) by omega] at hwin;have lR:(p++(w9++z)).length=uL.length:=by rw [aB,aB];omega
 refine cJ 17 U (show _=Value.int .i64 ((i:Int) - 1) by congr 1;omega) ?_;refine gC 41 (Row 215 (q.set i (⟨g9⟩:A5)) []) U (by rw [ei]) ?_;refine cJ 16 U (show _=Value.slice (some ⟨b3,0,none⟩) (q.set i (⟨g9⟩:A5)).length N by rw [aG]) ?_;refine cJ 13 U (show _=Value.slice (some ⟨b2,0,none⟩) (p++(w9++z)).length c2 by rw [lR,hRn]) ?_;refine cK ((i,q.set i (⟨g9⟩:A5),p++(w9++z))) ?_ ?_
 · refine ⟨by omega,by rw [aG];exact hqN,uC hdq _ ⟨hg1,hg2⟩,lR,dp.append (hwd.append dz),MZ (q:=0) sN (hqz i sN) hval hwin,?_,fun j hj=>by rw [zD sN];exact hqz j sN⟩;rw [oF sN,eX sN,fV,uQ,hr2,bS,fI];exact hwlt
 show i<i+1;omega
end
theorem DS {neg:Bool} {m:List A5} (hd:A7 m) (ht:E7 m):D9 (neg && decide (0<m.length)) m (if neg=true then -sQ m else sQ m):=by
 refine ⟨hd,ht,fun e=>by rw [e];simp,?_⟩;by_cases h:0<m.length
 · simp [h]
 have e:m=[]:=dO sN;rw [e];simp [uD]
theorem NJ {G:A3} {b:Option Addr} {c:Nat} {m:List A5} (neg:Bool) (hA:Arr G b m) (hd:A7 m) (ht:E7 m) (hc:m.length≤c) {z:Int} (hz:z=if neg=true then -sQ m else sQ m):C1 G ⟨neg && decide (0<m.length),b,m.length,c⟩ z:=
 ⟨m,U,hc,hA,hz▸DS hd ht⟩
abbrev nN:=@NJ
theorem C1.len {G:A3} {x:IV} {z:Int} (h:C1 G x z) {m:Nat} (hz:(z.natAbs:Int)<pb m):x.n≤m:=by
 obtain ⟨l,h1,_,_,h4⟩:=h;rw [←h1];exact h4.len hz
abbrev jI:=@C1.len
theorem C1.out {G:A3} {x:IV} {z z':Int} (h:C1 G x z) (e:z=z'):C1 G x z':=e▸h
def Zk (z:Int):Int:=if z=0 then 0 else if z<0 then -1 else 1
section
attribute [local irreducible] sQ pb uJ tT
theorem Al (G:A3) (neg:Bool) (a:Option Addr) (n c:Nat) (hn:n≤1099511627776) :
 Does Tryz.prog 133 [.bool neg,.slice a n c] G [] (fun v G' Ho=>v=.agg #[.bool (neg && decide (0<n)),.slice a n c]∧G'=G∧Ho=[]):=by
 refine D0 Tryz.func133 Tryz.ntmps133 fun w=>?_;have e:((0:Int)<(n:Int))=(0<n):=by rw [eq_iff_iff];omega
 cases neg
 · refine aI 2 [] ?_;refine aO 0 U T.zero125 fun b1=>?_;refine aL 11 [] ?_;refine aQ (bP (cs:=[_,_]) T.st125 U U U) ?_;refine aS 4 [0] ?_;refine cH (.inr U) (Ho:=Hp.only _ []) U (.agg 0 U U T.agg125) (aV _ _) ?_;exact ⟨by simp only [Bool.false_and],U,U⟩
 refine aI 2 [] ?_;refine aO 0 U T.zero125 fun b1=>?_;refine aL 14 [] ?_;refine aQ (bP (cs:=[_,_]) T.st125 U U U) ?_;refine aS 4 [0] ?_;refine cH (.inr U) (Ho:=Hp.only _ []) U (.agg 0 U U T.agg125) (aV _ _) ?_;exact ⟨by simp only [e,pP],U,U⟩
theorem gi (G:A3) (neg:Bool) (a:Option Addr) (c:Nat) (l:List A5) (ha:Arr G a l) (hd:A7 l) (hb:l.length≤1073741824) (hc:l.length≤c) :
 Does Tryz.prog 139 [.bool neg,.slice a l.length c] G [] (fun v G' Ho=>∃ r:IV,v=.agg (A2.enc r).toArray∧C1 G' r (if neg=true then -sQ l else sQ l)∧Ho=[]):=by
 refine D0 Tryz.func139 Tryz.ntmps139 fun w=>?_;refine aI 2 [] ?_;refine aO 0 U T.zero125 fun b1=>?_;refine aL 6 [] ?_;refine bV 1 U (XS _ _ _ _ sO Mr Mr) fun v1 G1 Ho1 hle1 hp=>?_;obtain ⟨na1,nm1,rfl,hna1,hne1,hnt1,hnl1,rfl⟩:=hp;replace ha:=ha.up hle1;refine cI U (Al _ _ _ _ _ sN) ?_;refine aS 4 [0] ?_;refine cH (.inr U) (Ho:=Hp.only _ []) U (.agg 0 U U T.agg125) (aV _ _) ?_;refine ⟨⟨neg && decide (0<nm1.length),na1,nm1.length,nm1.length⟩,U,nN neg hna1 (wT hne1 hd) (Eu hne1 hnt1) (aH _) (by rw [xA hne1 hnt1]),U⟩
theorem am (G:A3) (neg:Bool) (a:Option Addr) (c:Nat) (l:List A5) (z:Int) (h:D9 neg l z) (h1:l.length≤1073741824) :
 Does Tryz.prog 180 [.agg #[.bool neg,.slice a l.length c]] G [] (fun v G' Ho=>v=.int .i64 (Zk z)∧G'=G∧Ho=[]):=by
 have hz:=h.zero_iff;have hn:=h.neg_iff;refine D0 Tryz.func180 Tryz.ntmps180 fun w=>?_;by_cases h0:l.length=0
 · have hz0:=hz.1 h0;refine aI 2 [] ?_;refine dV 0 fun b1=>?_;refine aS 23 [0,1] ?_;refine cV ?_;exact ⟨by rw [hz0];rfl,U,U⟩
 have hz0:z≠0:=fun e=>h0 (hz.2 e);by_cases hs:z<0
 · rw [hn,bL hs];refine aI 2 [] ?_;refine dV 0 fun b1=>?_;refine aS 31 [0,0,0,1] ?_;refine cV ?_;exact ⟨by unfold Zk;rw [aD hz0,aF hs],U,U⟩
 rw [hn,cA hs];refine aI 2 [] ?_;refine dV 0 fun b1=>?_;refine aS 32 [0,0,0,0] ?_;refine cV ?_;exact ⟨by unfold Zk;rw [aD hz0,aD hs],U,U⟩
theorem an (G:A3) (x:IV) (z:Int) (hx:C1 G x z) (h1:x.n≤1073741824) :
 Does Tryz.prog 176 [.agg (A2.enc x).toArray] G [] (fun v G' Ho=>∃ r:IV,v=.agg (A2.enc r).toArray∧C1 G' r (-z)∧G'=G∧Ho=[]):=by
 obtain ⟨neg,a,n,c⟩:=x;obtain ⟨l,hl,hlc,hA,hI⟩:=hx;simp only at hl hlc hA hI h1;subst hl;show Does Tryz.prog 176 [.agg #[.bool neg,.slice a l.length c]] G [] _;refine D0 Tryz.func176 Tryz.ntmps176 fun w=>?_;refine aI 2 [] ?_;refine dV 0 fun b1=>?_;refine aO 1 U T.zero125 fun b2=>?_;refine aL 9 [0,0] ?_;refine cI U (Al _ _ _ _ _ sN) ?_;refine aS 4 [1] ?_;refine cH (.inr U) (Ho:=Hp.only _ []) U (.agg 1 U U T.agg125) (aV _ _) ?_;refine ⟨⟨!neg && decide (0<l.length),a,l.length,c⟩,U,nN (!neg) hA hI.digs hI.top hlc ?_,U,U⟩;rw [hI.val];cases neg <;> simp
theorem gj (G:A3) (x:IV) (z:Int) (hx:C1 G x z) (h1:x.n≤1073741824) :
 Does Tryz.prog 223 [.agg (A2.enc x).toArray] G [] (fun v G' Ho=>∃ r:IV,v=.agg (A2.enc r).toArray∧C1 G' r (z.natAbs:Int)∧G'=G∧Ho=[]):=by
 obtain ⟨neg,a,n,c⟩:=x;obtain ⟨l,hl,hlc,hA,hI⟩:=hx;simp only at hl hlc hA hI h1;subst hl;show Does Tryz.prog 223 [.agg #[.bool neg,.slice a l.length c]] G [] _;refine D0 Tryz.func223 Tryz.ntmps223 fun w=>?_;refine aI 2 [] ?_;refine dV 0 fun b1=>?_;refine aO 1 U T.zero125 fun b2=>?_;refine aL 6 [0] ?_;refine cI U (Al _ _ _ _ _ sN) ?_;refine aS 4 [1] ?_;refine cH (.inr U) (Ho:=Hp.only _ []) U (.agg 1 U U T.agg125) (aV _ _) ?_;refine ⟨⟨false && decide (0<l.length),a,l.length,c⟩,U,nN false hA hI.digs hI.top hlc ?_,U,U⟩;rw [aD (by decide),hI.abs]
theorem Zl (G:A3) (x:IV) (z:Int) (hx:C1 G x z) (h1:x.n≤1073741824) :
 Does Tryz.prog 180 [.agg (A2.enc x).toArray] G [] (fun v G' Ho=>v=.int .i64 (Zk z)∧G'=G∧Ho=[]):=by
 obtain ⟨n1,a,k1,ca⟩:=x;obtain ⟨la,hl,hlc,hA,hI⟩:=hx;simp only at hl hlc hA hI h1;subst hl;exact am G n1 a ca la z hI h1
theorem aq (G:A3) (x y:IV) (zx zy:Int) (hx:C1 G x zx) (hy:C1 G y zy) (h1:x.n≤1073741824) (h2:y.n≤1073741824) :
 Does Tryz.prog 137 [.agg (A2.enc x).toArray,.agg (A2.enc y).toArray] G [] (fun v G' Ho=>v=.int .i64 (uJ zx zy)∧G'=G∧Ho=[]):=by
 obtain ⟨n1,a,k1,ca⟩:=x;obtain ⟨n2,b,k2,cb⟩:=y;obtain ⟨la,hl,hlc,hA,hI⟩:=hx;obtain ⟨lb,hl',hlc',hA',hI'⟩:=hy;simp only at hl hlc hA hI hl' hlc' hA' hI' h1 h2;subst hl hl';have da:=hI.digs;have db:=hI'.digs;have ta:=hI.top;have tb:=hI'.top;have va:=hI.abs;have vb:=hI'.abs;have na:=hI.neg_iff;have nb:=hI'.neg_iff;have cs:∀ u v:Int,u<v→uJ u v=-1:=fun u v h=>Jj h;have cg:∀ u v:Int,v<u→uJ u v=1:=fun u v h=>Ny h;show Does Tryz.prog 137 [.agg #[.bool n1,.slice a la.length ca],.agg #[.bool n2,.slice b lb.length cb]] G [] _;refine D0 Tryz.func137 Tryz.ntmps137 fun w=>?_;by_cases sx:zx<0 <;> by_cases sy:zy<0
 · rw [na,nb,bL sx,bL sy];refine aI 2 [] ?_;refine dV 0 fun b1=>?_;refine dV 1 fun b2=>?_;refine aL 25 [0,1,1,1,0] ?_;refine cI U (Zg _ _ _ _ _ _ _ sO sO sO sO sN sN sN sN) ?_;refine aS 6 [] ?_;refine cV ?_;exact ⟨by rw [Pm (x:=sQ lb) (y:=sQ la) (u:=zx) (v:=zy) sN sN],U,U⟩
 · rw [na,nb,bL sx,cA sy];refine aI 2 [] ?_;refine dV 0 fun b1=>?_;refine dV 1 fun b2=>?_;refine aS 35 [0,1,0,0,1] ?_;refine cV ?_;exact ⟨by rw [cs zx zy sN],U,U⟩
 · rw [na,nb,cA sx,bL sy];refine aI 2 [] ?_;refine dV 0 fun b1=>?_;refine dV 1 fun b2=>?_;refine aS 41 [0,0,0,0,1,1] ?_;refine cV ?_;exact ⟨by rw [cg zx zy sN],U,U⟩
 rw [na,nb,cA sx,cA sy];refine aI 2 [] ?_;refine dV 0 fun b1=>?_;refine dV 1 fun b2=>?_;refine aL 42 [0,0,0,0,1,0,0,1] ?_;refine cI U (Zg _ _ _ _ _ _ _ sO sO sO sO sN sN sN sN) ?_;refine aS 4 [] ?_;refine cV ?_;exact ⟨by rw [Pm (x:=sQ la) (y:=sQ lb) (u:=zx) (v:=zy) sN sN],U,U⟩
theorem gk (G:A3) (x y:IV) (zx zy:Int) (hx:C1 G x zx) (hy:C1 G y zy) (h1:x.n≤536870912) (h2:y.n≤536870912) :
 Does Tryz.prog 75 [.agg (A2.enc x).toArray,.agg (A2.enc y).toArray] G [] (fun v G' Ho=>∃ r:IV,v=.agg (A2.enc r).toArray∧C1 G' r (zx*zy)∧Ho=[]):=by
 obtain ⟨n1,a,k1,ca⟩:=x;obtain ⟨n2,b,k2,cb⟩:=y;obtain ⟨la,hl,hlc,hA,hI⟩:=hx;obtain ⟨lb,hl',hlc',hA',hI'⟩:=hy;simp only at hl hlc hA hI hl' hlc' hA' hI' h1 h2;subst hl hl';have da:=hI.digs;have db:=hI'.digs;have ta:=hI.top;have tb:=hI'.top;show Does Tryz.prog 75 [.agg #[.bool n1,.slice a la.length ca],.agg #[.bool n2,.slice b lb.length cb]] G [] _;refine D0 Tryz.func75 Tryz.ntmps75 fun w=>?_;refine aI 2 [] ?_;refine dV 0 fun b1=>?_;refine dV 1 fun b2=>?_;refine aO 2 U T.zero125 fun b3=>?_;refine bB 3 [] ?_;refine dE [0,1,2] [(2,11)] T.mixed [[0],[1,0],[2],[3,1]] ?_;refine dW 4 [] U (FE T.u4 U U) ?_;refine dK [[5],[6,0],[7],[8,1]] ?_;refine bQ 9 ?_;refine bV 3 U (fw _ _ _ _ _ _ _ sO sO sO sO sN sN) fun v1 G1 Ho1 hle1 hp=>?_;obtain ⟨⟨ra1,rm1,rfl,hra1,hrl1,hrt1,hrv1,hrn1⟩,rfl⟩:=hp;replace hA:=hA.up hle1;replace hA':=hA'.up hle1;refine cS 10 ?_;refine cI U (Al _ _ _ _ _ sN) ?_;refine cS 11 ?_;refine aC 1 [2] ?_;refine fD ?_;refine eE 2 [] ?_;refine cH (.inr U) (Ho:=Hp.only _ []) U (.agg 2 U U T.agg125) (aV _ _) ?_;refine ⟨⟨decide (n1≠n2) && decide (0<rm1.length),ra1,rm1.length,rm1.length⟩,U,nN (decide (n1≠n2)) hra1 hrl1 hrt1 (aH _) ?_,U⟩;rw [hrv1,hI.val,hI'.val];cases n1 <;> cases n2 <;> simp [gN,iY]
end
theorem NK {n:Int} (h:-9223372036854775808≤n∧n<0):IntKind.u64.wrap (0 - IntKind.u64.wrap n)=-n:=by
 rw [nW,nW];omega
theorem TA (u:Int):sQ [(⟨u % 4294967296⟩:A5),⟨u / 4294967296⟩]=u:=by
 rw [uU,uU,uD];show u % 4294967296+4294967296*(u / 4294967296+4294967296*0)=u;omega
theorem NL {u:Int} (h:0≤u∧u<18446744073709551616):A7 [(⟨u % 4294967296⟩:A5),⟨u / 4294967296⟩]:=by
 intro d hd;simp only [iP,List.mem_nil_iff,or_false] at hd;rcases hd with rfl | rfl
 · exact Hb u
 show 0≤u / 4294967296∧u / 4294967296<4294967296;omega
theorem C1.lt {G:A3} {x:IV} {z:Int} (h:C1 G x z):(z.natAbs:Int)<pb x.n:=by
 obtain ⟨l,h1,_,_,h4⟩:=h;rw [←h4.abs,←h1];exact wK h4.digs
section
attribute [local irreducible] sQ pb uJ tT
theorem RH (G:A3) (n:Int) (hn:-9223372036854775808≤n∧n≤9223372036854775807) :
 Does Tryz.prog 78 [.int .i64 n] G [] (fun v G' Ho=>∃ r:IV,v=.agg (A2.enc r).toArray∧C1 G' r n∧Ho=[]):=by
 refine D0 Tryz.func78 Tryz.ntmps78 fun w=>?_;refine aI 2 [] ?_;refine aO 0 U T.zero125 fun b1=>?_;refine aL 5 [] ?_;refine aQ (cP U T.u214 U) ?_;refine bB 3 [] ?_;refine pI (ι:=Int) (fun u=>([(0,.int .i64 n),(2,.pointer (some ⟨b1,0,none⟩)),(3,.int .u64 u)],[(0,some b1,.cells #[.bool false,.slice none 0 0] 125)])) (fun u=>0≤u∧u<18446744073709551616∧n=if decide (n<0)=true then -u else u) ?_ fun u=>fun (hk:0≤u∧u<18446744073709551616∧n=if decide (n<0)=true then -u else u)=>?_
 · by_cases hneg:n<0
   · refine aI 9 [1] ?_;refine aQ (oS U) ?_;refine aS 2 [] ?_;refine cJ 3 U (show _=Value.int .u64 (-n) by rw [NK ⟨hn.1,hneg⟩]) ?_;refine mM (-n) ?_;exact ⟨by omega,by omega,by rw [aF (by simpa using hneg)];omega⟩
   refine bE 8 [0] ?_;refine cJ 3 U (show _=Value.int .u64 n by rw [kN _ sN]) ?_;refine mM (n) ?_;exact ⟨by omega,by omega,by rw [aD (by simpa using hneg)]⟩
 obtain ⟨hu0,hu1,hun⟩:=hk;refine aI 5 [] ?_;refine aQ (iQ U T.u215 U) ?_;refine aC 1 [] ?_;refine aQ (gJ U U sN) ?_;refine aQ (kM U T.u215 U sN) ?_;refine cZ (α:=A5) 1 [⟨u % 4294967296⟩,⟨u / 4294967296⟩] U T.sl123 T.el215 U U U U U fun b2=>?_;have hd:=NL ⟨hu0,hu1⟩;refine fG 1 U (fK (xs:=[(⟨u % 4294967296⟩:A5),⟨u / 4294967296⟩]) Ea) fun G9 hle9 hA9=>?_;refine bV 2 U (gi _ _ _ _ _ sO sO Mr Mr) fun v1 G1 Ho1 hle1 hp=>?_;obtain ⟨r1,rfl,hr1,rfl⟩:=hp;replace hA9:=hA9.up hle1;refine aS 4 [0] ?_;refine cH (.inr U) (Ho:=Hp.only _ []) U (.agg 0 U U T.agg125) (aV _ _) ?_;exact ⟨_,U,C1.out hr1 (by rw [TA];exact hun.symm),U⟩
theorem XT (G:A3) (x y:IV) (zx zy:Int) (hx:C1 G x zx) (hy:C1 G y zy) (h1:x.n≤536870912) (h2:y.n≤536870912) :
 Does Tryz.prog 138 [.agg (A2.enc x).toArray,.agg (A2.enc y).toArray] G [] (fun v G' Ho=>∃ r:IV,v=.agg (A2.enc r).toArray∧C1 G' r (zx+zy)∧Ho=[]):=by
 obtain ⟨n1,a,k1,ca⟩:=x;obtain ⟨n2,b,k2,cb⟩:=y;obtain ⟨la,hl,hlc,hA,hI⟩:=hx;obtain ⟨lb,hl',hlc',hA',hI'⟩:=hy;simp only at hl hlc hA hI hl' hlc' hA' hI' h1 h2;subst hl hl';have da:=hI.digs;have db:=hI'.digs;have ta:=hI.top;have tb:=hI'.top;have len_le:∀ {l m:List A5},A7 l→A7 m→E7 m→sQ m≤sQ l→m.length≤l.length:=fun {l m} hl hm tm h=>by
  rcases aK l.length m.length with h1 | h1
  · have:=zS hl hm tm h1;omega
  exact h1
 show Does Tryz.prog 138 [.agg #[.bool n1,.slice a la.length ca],.agg #[.bool n2,.slice b lb.length cb]] G [] _;refine D0 Tryz.func138 Tryz.ntmps138 fun w=>?_;by_cases hs:n1=n2
 · refine aI 2 [] ?_;refine dV 0 fun b1=>?_;refine dV 1 fun b2=>?_;refine aO 2 U T.zero125 fun b3=>?_;refine aL 9 [0,1] ?_;refine aQ (Vk T.u4 U U) ?_;refine bB 4 [1] ?_;refine dE [0,1,2] [(2,8)] T.mixed [[0],[1,0],[2],[3,0],[4],[5,1]] ?_;refine bQ 6 ?_;refine bV 3 U (fv _ _ _ _ _ _ _ sO sO sO sO sN sN) fun v1 G1 Ho1 hle1 hp=>?_;obtain ⟨⟨ra1,rm1,rfl,hra1,hrl1,hrt1,hrv1,hrn1⟩,rfl⟩:=hp;replace hA:=hA.up hle1;replace hA':=hA'.up hle1;refine cS 7 ?_;refine cI U (Al _ _ _ _ _ sN) ?_;refine cS 8 ?_;refine aC 1 [2] ?_;refine fD ?_;refine eE 3 [] ?_;refine cH (.inr U) (Ho:=Hp.only _ []) U (.agg 2 U U T.agg125) (aV _ _) ?_;all_goals
    refine ⟨⟨n1 && decide (0<rm1.length),ra1,rm1.length,rm1.length⟩,U,nN n1 hra1 hrl1 hrt1 (aH _) ?_,U⟩;rw [hrv1,hI.val,hI'.val];revert hs;cases n1 <;> cases n2 <;> simp <;> omega
 by_cases hle:sQ lb≤sQ la
 · have hcmp:¬uJ (sQ la) (sQ lb)<0:=fun h=>by have:=Zj h;omega
   have hll:=len_le da db tb hle;refine aI 2 [] ?_;refine dV 0 fun b1=>?_;refine dV 1 fun b2=>?_;refine aO 2 U T.zero125 fun b3=>?_;refine aL 9 [0,1] ?_;refine aQ (Vk T.u4 U U) ?_;refine aL 12 [0,0,1] ?_;refine cI U (Zg _ _ _ _ _ _ _ sO sO sO sO sN sN sN sN) ?_;refine aL 12 [0,0,1] ?_;refine bV 3 U (ai _ _ _ _ _ _ _ sO sO sO sO sN sN sN sN sN) fun v1 G1 Ho1 hle1 hp=>?_;obtain ⟨rq1,rfl,⟨ra1,rm1,rfl,hra1,hrl1,hrt1,hrv1,hrn1⟩,rfl⟩:=hp;replace hA:=hA.up hle1;replace hA':=hA'.up hle1;refine aL 12 [0] ?_;refine cI U (Al _ _ _ _ _ sN) ?_;refine aS 4 [2] ?_;refine cH (.inr U) (Ho:=Hp.only _ []) U (.agg 2 U U T.agg125) (aV _ _) ?_;refine ⟨⟨n1 && decide (0<rm1.length),ra1,rm1.length,rm1.length⟩,U,nN n1 hra1 hrl1 hrt1 (aH _) ?_,U⟩;rw [hrv1,hI.val,hI'.val];revert hs;cases n1 <;> cases n2 <;> simp <;> omega
 have hcmp:uJ (sQ la) (sQ lb)=-1:=Jj sN;have hle':sQ la≤sQ lb:=sN;have hll:=len_le db da ta hle';refine aI 2 [] ?_;refine dV 0 fun b1=>?_;refine dV 1 fun b2=>?_;refine aO 2 U T.zero125 fun b3=>?_;refine aL 9 [0,1] ?_;refine aQ (Vk T.u4 U U) ?_;refine aL 12 [0,0,1] ?_;refine cI U (Zg _ _ _ _ _ _ _ sO sO sO sO sN sN sN sN) ?_;refine aL 17 [1,1,0,0,1,0,1] ?_;refine bV 3 U (ai _ _ _ _ _ _ _ sO sO sO sO sN sN sN sN sN) fun v1 G1 Ho1 hle1 hp=>?_;obtain ⟨rq1,rfl,⟨ra1,rm1,rfl,hra1,hrl1,hrt1,hrv1,hrn1⟩,rfl⟩:=hp;replace hA:=hA.up hle1;replace hA':=hA'.up hle1;refine aL 12 [0] ?_;refine cI U (Al _ _ _ _ _ sN) ?_;refine aS 4 [2] ?_;refine cH (.inr U) (Ho:=Hp.only _ []) U (.agg 2 U U T.agg125) (aV _ _) ?_;refine ⟨⟨n2 && decide (0<rm1.length),ra1,rm1.length,rm1.length⟩,U,nN n2 hra1 hrl1 hrt1 (aH _) ?_,U⟩;rw [hrv1,hI.val,hI'.val];revert hs;cases n1 <;> cases n2 <;> simp <;> omega
theorem ar (G:A3) (x y:IV) (zx zy:Int) (hx:C1 G x zx) (hy:C1 G y zy) (h1:x.n≤536870912) (h2:y.n≤536870912) :
 Does Tryz.prog 177 [.agg (A2.enc x).toArray,.agg (A2.enc y).toArray] G [] (fun v G' Ho=>∃ r:IV,v=.agg (A2.enc r).toArray∧C1 G' r (zx - zy)∧Ho=[]):=by
 refine D0 Tryz.func177 Tryz.ntmps177 fun w=>?_;refine aI 2 [] ?_;refine dV 0 fun b1=>?_;refine dV 1 fun b2=>?_;refine aO 2 U T.zero125 fun b3=>?_;refine bB 3 [] ?_;refine dE [0,1,2] [(2,4)] T.mixed [[0,0],[1,1]] ?_;refine bQ 2 ?_;refine bV 3 U (an _ _ _ hy sN) fun v1 G1 Ho1 hle1 hp=>?_;obtain ⟨nr1,rfl,hnr1,rfl,rfl⟩:=hp;refine cS 3 ?_;have hn1:nr1.n≤y.n:=jI hnr1 (by rw [Int.natAbs_neg];exact C1.lt hy);refine bV 20 U (XT _ x nr1 zx (-zy) hx hnr1 h1 sN) fun v2 G2 Ho2 hle2 hp=>?_;obtain ⟨r2,rfl,hr2,rfl⟩:=hp;refine cS 4 ?_;refine aC 1 [2] ?_;refine fD ?_;refine eE 2 [] ?_;refine cH (.inr U) (Ho:=Hp.only _ []) U (.agg 2 U U T.agg125) (aV _ _) ?_;exact ⟨r2,U,C1.out hr2 (Int.sub_eq_add_neg).symm,U⟩
theorem au (d s:Nat):pb d*((2 ^ s:Nat):Int)=((2 ^ (32*d+s):Nat):Int):=by
 unfold pb;rw [←jX];congr 1;rw [show (4294967296:Nat)=2 ^ 32 by decide,←Nat.pow_mul,←oD]
theorem gn (G:A3) (x:IV) (zx:Int) (d s:Nat) (hx:C1 G x zx) (h1:x.n≤536870912) (hs:s<32) (hd:d≤1000) :
 Does Tryz.prog 247 [.agg (A2.enc x).toArray,.int .i64 ((32*d+s:Nat):Int)] G [] (fun v G' Ho=>∃ r:IV,v=.tuple #[.agg (A2.enc r).toArray,.int .i64 0]∧C1 G' r (zx*((2 ^ (32*d+s):Nat):Int))∧Ho=[]):=by
 obtain ⟨n1,a,k1,ca⟩:=x;obtain ⟨la,hl,hlc,hA,hI⟩:=hx;simp only at hl hlc hA hI h1;subst hl;have da:=hI.digs;show Does Tryz.prog 247 [.agg #[.bool n1,.slice a la.length ca],.int .i64 ((32*d+s:Nat):Int)] G [] _;refine D0 Tryz.func247 Tryz.ntmps247 fun w=>?_;refine aI 2 [] ?_;refine dV 0 fun b1=>?_;refine aO 1 U T.zero125 fun b2=>?_;refine aL 8 [0] ?_;refine bV 2 U (aj _ _ _ _ d s sO sO sN hs hd) fun v1 G1 Ho1 hle1 hp=>?_;obtain ⟨rq1,rfl,⟨ra1,rm1,rfl,hra1,hrl1,hrt1,hrv1,hrn1⟩,rfl⟩:=hp;replace hA:=hA.up hle1;refine aL 22 [0,0] ?_;refine cI U (Al _ _ _ _ _ sN) ?_;refine aS 5 [1] ?_;refine gZ (.inr U) (Ho:=Hp.only _ []) U (.agg 1 U U T.agg125) (.tmp U) (aV _ _) ?_;refine ⟨⟨n1 && decide (0<rm1.length),ra1,rm1.length,rm1.length⟩,U,nN n1 hra1 hrl1 hrt1 (aH _) ?_,U⟩;rw [hrv1,hI.val,au];cases n1
 · rw [aD (by decide),aD (by decide),cG]
 rw [aF rfl,aF rfl,gN,cG]
end
end Go.Proofs.YtkdelpdbjfpgmaaGreatDoor
namespace Go.Sl
open Go
section
variable {B:Bs} {e:A9} {D:List Deferred} {H:Hp} {G:A3}
theorem retagH {a:Act} {w:World} (hh:A6 B ⟨e,D,H,G⟩ a w) (t t':Nat) {k:Option Nat} {o:Obj} (ht:H.get t=some (k,o)) (hn:t≠t') (hk:H.get t'=none∨True):A6 B ⟨e,D,(t',k,o) :: (t,none,o) :: H,G⟩ a w:=by
 have key:∀ i b o',Hp.get ((t',k,o) :: (t,none,o) :: H) i=some (some b,o')→(i=t'∧H.get t=some (some b,o'))∨(i≠t'∧i≠t∧H.get i=some (some b,o')):=fun i b o' hx=>by
  rw [bH] at hx;split at hx
  · rename_i hi;left;refine ⟨hi.symm,?_⟩;rw [ht];exact hx
  rename_i hi;rw [bH] at hx;split at hx
  · simp at hx
  rename_i hi2;exact .inr ⟨fun h=>hi h.symm,fun h=>hi2 h.symm,hx⟩
 refine ⟨hh.size,hh.defers,hh.env,⟨?_,?_,hh.mem.imm,?_⟩,hh.upd,?_,hh.le,hh.new⟩
 · intro i b o' hx;rcases key i b o' hx with ⟨_,h⟩ | ⟨_,_,h⟩
   · exact hh.mem.own _ b o' h
   exact hh.mem.own _ b o' h
 · intro i i' b o1 o2 hx hy;rcases key i b o1 hx with ⟨h1,h2⟩ | ⟨h1,h1',h2⟩ <;> rcases key i' b o2 hy with ⟨h3,h4⟩ | ⟨h3,h3',h4⟩
   · rw [h1,h3]
   · exact absurd (hh.mem.one _ _ b _ _ h2 h4).symm h3'
   · exact absurd (hh.mem.one _ _ b _ _ h2 h4) h1'
   exact hh.mem.one _ _ b _ _ h2 h4
 · intro i b o' hx;rcases key i b o' hx with ⟨_,h⟩ | ⟨_,_,h⟩
   · exact hh.mem.off _ b o' h
   exact hh.mem.off _ b o' h
 intro i b o' hx;rcases key i b o' hx with ⟨_,h⟩ | ⟨_,_,h⟩
 · exact hh.mine _ b o' h
 exact hh.mine _ b o' h
theorem Ar.retag {x:Exit} {Q:Exit→Act→World→Prop} (t t':Nat) {k:Option Nat} {o:Obj} (ht:H.get t=some (k,o)) (hn:Nat.beq t t'=false) (h:Ar Q x B ⟨e,D,(t',k,o) :: (t,none,o) :: H,G⟩):Ar Q x B ⟨e,D,H,G⟩:=
 fun a w hh=>h a w (retagH hh t t' ht (fun e=>by subst e;simp at hn) (.inr trivial))
end
end Go.Sl
namespace Go.Proofs.YtkdelpdbjfpgmaaGreatDoor
open Go Go.Sl
theorem NM (z:Int):-1≤Zk z∧Zk z≤1:=by unfold Zk;split;exact ⟨by omega,by omega⟩;split <;> exact ⟨by omega,by omega⟩
theorem TB (z:Int):-9223372036854775808≤Zk z∧Zk z≤9223372036854775807:=by have:=NM z;omega
theorem TC (z:Int):((Zk z).natAbs:Int)<pb 1:=by have:=NM z;have:pb 1=4294967296:=sY;omega
theorem TD (z:Int):Zk z*z=z.natAbs:=by
 unfold Zk;split
 · omega
 split <;> omega
theorem FQ {x y q r:Int} (hy:y≠0) (h:x=q*y+r) (h0:0≤r) (h1:r<y.natAbs):q=x / y∧r=x % y:=by
 rcases Int.lt_or_gt_of_ne hy with hn | hp
 · have:=(Int.ediv_emod_unique' (a:=x) (b:=y) (r:=r) (q:=q) hn).2 ⟨by rw [cG y q];omega,h0,by omega⟩;exact ⟨this.1.symm,this.2.symm⟩
 have:=(rA (a:=x) (b:=y) (r:=r) (q:=q) hp).2 ⟨by rw [cG y q];omega,h0,by omega⟩;exact ⟨this.1.symm,this.2.symm⟩
theorem NN {n1 n2:Bool} {x y la lb lq lr:Int} (hx:x=if n1=true then -la else la) (hy:y=if n2=true then -lb else lb) (hv:la=lq*lb+lr) :
 x=(if decide (n1≠n2)=true then -lq else lq)*y+(if n1=true then -lr else lr):=by
 subst hx hy hv;cases n1 <;> cases n2 <;> simp [gN,iY,Int.neg_add]
theorem TE {x y q r:Int} (h:x=q*y+r):x=(q - Zk y)*y+(r+y.natAbs):=by
 have:=TD y;rw [kR,this];omega
theorem TF {n1:Bool} {m:List A5} {q x y:Int} (hx:x=q*y+(if n1=true then -sQ m else sQ m)) (hy:y≠0) (hl:sQ m<y.natAbs) (h:(n1 && decide (0<m.length))=true) (ht:E7 m) (hd:A7 m) :
 q - Zk y=x / y∧(if n1=true then -sQ m else sQ m)+(y.natAbs:Int)=x % y:=by
 rw [aU,aT] at h;have hp:=Pg hd ht (fun e=>by have:=h.2;rw [e] at this;simp at this);have e:=h.1;subst e;rw [aF rfl] at hx ⊢;exact FQ hy (TE hx) sN sN
theorem NO {n1:Bool} {m:List A5} {q x y:Int} (hx:x=q*y+(if n1=true then -sQ m else sQ m)) (hy:y≠0) (hl:sQ m<y.natAbs) (h:(n1 && decide (0<m.length))=false) (hd:A7 m) :
 q=x / y∧(if n1=true then -sQ m else sQ m)=x % y:=by
 have hn:=uB hd;refine FQ hy hx ?_ ?_
 · cases n1 with
   | false=>rw [aD (by decide)];exact hn
   | true =>
     have h0:m=[]:=by
      rw [pP,pR] at h;exact dO sN
     rw [aF rfl,h0,uD];omega
 split <;> omega
section
attribute [local irreducible] sQ pb uJ tT
theorem gp (G:A3) (x y:IV) (zx zy:Int) (hx:C1 G x zx) (hy:C1 G y zy) (h1:x.n≤268435456) (h2:y.n≤268435456) (hy0:zy≠0) :
 Does Tryz.prog 179 [.agg (A2.enc x).toArray,.agg (A2.enc y).toArray] G [] (fun v G' Ho=>∃ q r:IV,v=.tuple #[.agg (A2.enc q).toArray,.agg (A2.enc r).toArray,.int .i64 0]∧C1 G' q (zx / zy)∧C1 G' r (zx % zy)∧Ho=[]):=by
 obtain ⟨n1,a,k1,ca⟩:=x;obtain ⟨n2,b,k2,cb⟩:=y;obtain ⟨la,hl,hlc,hA,hI⟩:=hx;obtain ⟨lb,hl',hlc',hA',hI'⟩:=hy;simp only at hl hlc hA hI hl' hlc' hA' hI' h1 h2;subst hl hl';have da:=hI.digs;have db:=hI'.digs;have ta:=hI.top;have tb:=hI'.top;have h1':la.length≤536870912:=sN;have h2':lb.length≤536870912:=sN;have va:=hI.abs;have vb:=hI'.abs;have hlt:=wK db;have hB:0<sQ lb:=sN;show Does Tryz.prog 179 [.agg #[.bool n1,.slice a la.length ca],.agg #[.bool n2,.slice b lb.length cb]] G [] _;refine D0 Tryz.func179 Tryz.ntmps179 fun w=>?_;refine aI 2 [] ?_;refine dV 0 fun b1=>?_;refine dV 1 fun b2=>?_;refine aO 2 U T.zero125 fun b3=>?_;refine aO 3 U T.zero125 fun b4=>?_;refine aL 9 [0,1] ?_;refine bV 4 U (gh _ _ _ _ _ _ _ sO sO da ta db h1' h2' hlc hlc' hB) fun v1 G1 Ho1 hle1 hp=>?_;obtain ⟨_,_,rfl,⟨qa1,qm1,rfl,hqa1,hql1,hqt1,hqv1,hqn1⟩,⟨ra1,rm1,rfl,hra1,hrl1,hrt1,hrv1,hrn1⟩,rfl⟩:=hp;replace hA:=hA.up hle1;replace hA':=hA'.up hle1;refine bB 19 [0] ?_;refine pI (ι:=Nat×Nat) (fun (p,q)=>([(10,.pointer (some ⟨p,0,none⟩)),(11,.pointer (some ⟨q,0,none⟩)),(6,.int .i64 0),(5,.pointer (some (Addr.mk b4 0 none))),(4,.pointer (some (Addr.mk b3 0 none))),(3,.pointer (some ⟨b2,0,none⟩))],[(60,some p,.cells #[.bool (decide (n1≠n2) && decide (0<qm1.length)),.slice qa1 qm1.length qm1.length] 125),(61,some q,.cells #[.bool (n1 && decide (0<rm1.length)),.slice ra1 rm1.length rm1.length] 125),(3,some b4,.cells #[.bool Bool.false,.slice none 0 0] 125),(2,some b3,.cells #[.bool Bool.false,.slice none 0 0] 125),(1,some b2,.cells #[.bool n2,.slice b (List.length lb) cb] 125),(0,some b1,.cells #[.bool n1,.slice a (List.length la) ca] 125)])) (fun (p,q)=>True) ?_ fun ⟨p,q⟩=>fun (hk:True)=>?_
 · refine dE [0,1,2,3] [] T.mixed [[0],[1,0],[2],[3,1]] ?_;refine dW 4 [] U (FE T.u4 U U) ?_;refine dK [[5],[7],[8,0],[9]] ?_;refine Gm.o3 6 11 12 ?_ ?_ ?_;refine cI U (Al _ _ _ _ _ sN) ?_;refine bC ?_;refine Gm.o3 10 11 12 ?_ ?_ ?_;refine cI U (Al _ _ _ _ _ sN) ?_;refine bC ?_;refine oG 11 12 ?_ ?_;refine aO 4 U T.zero125 fun b5=>?_;refine cS 12 ?_;refine aO 5 U T.zero125 fun b6=>?_;refine cS 13 ?_;refine aC 1 [4] ?_;refine cS 14 ?_;refine aC 1 [5] ?_;refine fD ?_;rotate_left;refine aO 4 U T.zero125 fun b5=>?_;refine cS 11 ?_;refine aO 5 U T.zero125 fun b6=>?_;refine cS 13 ?_;refine aC 1 [5] ?_;refine cS 14 ?_;refine aC 1 [4] ?_;refine fD ?_;rotate_left;refine aO 4 U T.zero125 fun b5=>?_;refine bC ?_;refine oG 10 12 ?_ ?_;refine cI U (Al _ _ _ _ _ sN) ?_;refine cS 12 ?_;refine aO 5 U T.zero125 fun b6=>?_;refine cS 13 ?_;refine aC 1 [4] ?_;refine cS 14 ?_;refine aC 1 [5] ?_;refine fD ?_;rotate_left;refine aO 5 U T.zero125 fun b6=>?_;refine cS 10 ?_;refine cI U (Al _ _ _ _ _ sN) ?_;refine cS 13 ?_;refine aC 1 [4] ?_;refine cS 14 ?_;refine aC 1 [5] ?_;refine fD ?_;rotate_left;refine aO 4 U T.zero125 fun b5=>?_;refine bC ?_;refine oG 10 11 ?_ ?_;refine cI U (Al _ _ _ _ _ sN) ?_;refine cS 11 ?_;refine aO 5 U T.zero125 fun b6=>?_;refine cS 13 ?_;refine aC 1 [5] ?_;refine cS 14 ?_;refine aC 1 [4] ?_;refine fD ?_;rotate_left;refine aO 5 U T.zero125 fun b6=>?_;refine cS 10 ?_;refine cI U (Al _ _ _ _ _ sN) ?_;refine cS 13 ?_;refine aC 1 [5] ?_;refine cS 14 ?_;refine aC 1 [4] ?_;refine fD ?_;rotate_left;refine aO 4 U T.zero125 fun b5=>?_;refine bC ?_;refine oG 6 12 ?_ ?_;refine cI U (Al _ _ _ _ _ sN) ?_;refine bC ?_;refine oG 10 12 ?_ ?_;refine cI U (Al _ _ _ _ _ sN) ?_;refine cS 12 ?_;refine aO 5 U T.zero125 fun b6=>?_;refine cS 13 ?_;refine aC 1 [4] ?_;refine cS 14 ?_;refine aC 1 [5] ?_;refine fD ?_;rotate_left;refine aO 5 U T.zero125 fun b6=>?_;refine cS 10 ?_;refine cI U (Al _ _ _ _ _ sN) ?_;refine cS 13 ?_;refine aC 1 [4] ?_;refine cS 14 ?_;refine aC 1 [5] ?_;refine fD ?_;rotate_left;refine aO 5 U T.zero125 fun b6=>?_;refine cS 6 ?_;refine cI U (Al _ _ _ _ _ sN) ?_;refine cS 10 ?_;refine cI U (Al _ _ _ _ _ sN) ?_;refine cS 13 ?_;refine aC 1 [4] ?_;refine cS 14 ?_;refine aC 1 [5] ?_;refine fD ?_;rotate_left;refine aO 4 U T.zero125 fun b5=>?_;refine bC ?_;refine oG 6 11 ?_ ?_;refine cI U (Al _ _ _ _ _ sN) ?_;refine bC ?_;refine oG 10 11 ?_ ?_;refine cI U (Al _ _ _ _ _ sN) ?_;refine cS 11 ?_;refine aO 5 U T.zero125 fun b6=>?_;refine cS 13 ?_;refine aC 1 [5] ?_;refine cS 14 ?_;refine aC 1 [4] ?_;refine fD ?_;rotate_left;refine aO 5 U T.zero125 fun b6=>?_;refine cS 10 ?_;refine cI U (Al _ _ _ _ _ sN) ?_;refine cS 13 ?_;refine aC 1 [5] ?_;refine cS 14 ?_;refine aC 1 [4] ?_;refine fD ?_;rotate_left;refine aO 5 U T.zero125 fun b6=>?_;refine cS 6 ?_;refine cI U (Al _ _ _ _ _ sN) ?_;refine cS 10 ?_;refine cI U (Al _ _ _ _ _ sN) ?_;refine cS 13 ?_;refine aC 1 [5] ?_;refine cS 14 ?_;refine aC 1 [4] ?_;refine fD ?_;rotate_left;all_goals first | (refine Ar.retag 4 60 U U (Ar.retag 5 61 U U (nZ (b5,b6) F9 U ?_ ?_)) <;> (repeat (first | exact F9 | refine ⟨U,?_⟩));done) | (refine Ar.retag 5 60 U U (Ar.retag 4 61 U U (nZ (b6,b5) F9 U ?_ ?_)) <;> (repeat (first | exact F9 | refine ⟨U,?_⟩));done)
 have hxy:=NN hI.val hI'.val (show sQ la=sQ qm1*sQ lb+sQ rm1 by rw [hqv1,hrv1,cG];exact (Int.mul_ediv_add_emod (sQ la) (sQ lb)).symm);have hrlt:sQ rm1<sQ lb:=by rw [hrv1];exact gE _ hB
 have hQ0:=nN (decide (n1≠n2)) hqa1 hql1 hqt1 (aH _) U;have hy2:C1 G1 ⟨n2,b,lb.length,cb⟩ zy:=⟨lb,U,hlc',hA',hI'⟩
 have hR0:=nN n1 hra1 hrl1 hrt1 (aH _) U;refine bI 7 [61] ?_;refine lJ U (fun hc1=>?_) fun hc1=>?_;refine dJ ?_;refine dE [0,1,2,3,61,60] [(61,4)] T.mixed [[0,61],[1,1]] ?_;refine bQ 2 ?_;refine bV 62 U (gj _ ⟨n2,b,lb.length,cb⟩ zy hy2 (bO h2' sY)) fun v2 G2 Ho2 hle2 hp=>?_;obtain ⟨nr2,rfl,hnr2,rfl,rfl⟩:=hp;refine cS 3 ?_;refine bV 62 U (XT _ ⟨(n1 && decide (0<rm1.length)),ra1,rm1.length,rm1.length⟩ nr2 _ _ hR0 hnr2 (bO hrn1 h2') (bO (jI hnr2 (m:=lb.length) sN) h2')) fun v3 G3 Ho3 hle3 hp=>?_;obtain ⟨rs3,rfl,hrs3,rfl⟩:=hp;replace hnr2:=hnr2.up hle3;replace hqa1:=hqa1.up hle3;replace hra1:=hra1.up hle3;replace hA:=hA.up hle3;replace hA':=hA'.up hle3;replace hQ0:=hQ0.up hle3;replace hy2:=hy2.up hle3;replace hR0:=hR0.up hle3;refine cS 4 ?_;refine aC 1 [61] ?_;refine fD ?_;refine cN ?_;refine dE [0,1,2,3,60,61] [(60,5)] T.mixed [[0,60],[1,1]] ?_;refine bQ 2 ?_;refine cI U (am _ _ _ _ _ zy hI' sN) ?_;refine cS 3 ?_;refine bV 62 U (RH _ _ (TB zy)) fun v4 G4 Ho4 hle4 hp=>?_;obtain ⟨ro4,rfl,hro4,rfl⟩:=hp;replace hrs3:=hrs3.up hle4;replace hnr2:=hnr2.up hle4;replace hqa1:=hqa1.up hle4;replace hra1:=hra1.up hle4;replace hA:=hA.up hle4;replace hA':=hA'.up hle4;replace hQ0:=hQ0.up hle4;replace hy2:=hy2.up hle4;replace hR0:=hR0.up hle4;refine cS 4 ?_;refine bV 62 U (ar _ ⟨(decide (n1≠n2) && decide (0<qm1.length)),qa1,qm1.length,qm1.length⟩ ro4 _ _ hQ0 hro4 (bO hqn1 h1') (bO (jI hro4 (m:=1) (TC zy)) sY)) fun v5 G5 Ho5 hle5 hp=>?_;obtain ⟨rd5,rfl,hrd5,rfl⟩:=hp;replace hro4:=hro4.up hle5;replace hrs3:=hrs3.up hle5;replace hnr2:=hnr2.up hle5;replace hqa1:=hqa1.up hle5;replace hra1:=hra1.up hle5;replace hA:=hA.up hle5;replace hA':=hA'.up hle5;replace hQ0:=hQ0.up hle5;replace hy2:=hy2.up hle5;replace hR0:=hR0.up hle5;refine cS 5 ?_;refine aC 1 [60] ?_;refine fD ?_;refine lS 2 [] ?_;refine dE [0,1,2,3,61,60] [(3,3),(2,2)] T.mixed [[0,60],[1,61]] ?_;refine bQ 2 ?_;refine aC 1 [2] ?_;refine cS 3 ?_;refine aC 1 [3] ?_;refine bC ?_;refine dK [[4]] ?_;refine dG ?_;refine eE 2 [] ?_;refine Iy (.inr U) (Ho:=Hp.only _ []) U (.agg 2 U U T.agg125) (.agg 3 U U T.agg125) (.tmp U) (aV _ _) ?_;rotate_left;refine bI 3 [] ?_;refine dE [0,1,2,3,61,60] [(3,3),(2,2)] T.mixed [[0,60],[1,61]] ?_;refine bQ 2 ?_;refine aC 1 [2] ?_;refine cS 3 ?_;refine aC 1 [3] ?_;refine bC ?_;refine dK [[4]] ?_;refine dG ?_;refine eE 2 [] ?_;refine Iy (.inr U) (Ho:=Hp.only _ []) U (.agg 2 U U T.agg125) (.agg 3 U U T.agg125) (.tmp U) (aV _ _) ?_;rotate_left
 · have he:=TF hxy hy0 sN hc1 hrt1 hrl1;refine ⟨rd5,rs3,U,?_,?_,U⟩
   · rw [←he.1];exact hrd5
   rw [←he.2];exact hrs3
 have he:=NO hxy hy0 sN hc1 hrl1;refine ⟨⟨(decide (n1≠n2) && decide (0<qm1.length)),qa1,qm1.length,qm1.length⟩,⟨(n1 && decide (0<rm1.length)),ra1,rm1.length,rm1.length⟩,U,?_,?_,U⟩
 · rw [←he.1];exact hQ0
 rw [←he.2];exact hR0
end
theorem gq (G:A3) (op:Int):Does Tryz.prog 161 [.int .i64 op] G [] (fun v G' Ho=>v=.bool (decide (op=3∨op=4))∧G'=G∧Ho=[]):=by
 refine D0 Tryz.func161 Tryz.ntmps161 fun w=>?_;refine aI 10 [] ?_;apply dS 3 5 8 U;intro hg1;refine aC 5 [] ?_;exact dB 3 0;intro hg1;refine aC 3 [] ?_;exact dB 3 0;refine aS 4 [] ?_;refine cV ?_;exact ⟨by simp,rfl,rfl⟩
def tD (op c:Int):Bool:=
 if op=5∨op=6 then decide (c≠0∧-512≤c∧c≤512) else if op=7∨op=8 then decide (1≤c∧c≤64) else decide (c=0)
theorem gr (G:A3) (i:Sl.Instr):Does Tryz.prog 162 [.agg (A2.enc i).toArray] G [] (fun v G' Ho=>v=.bool (decide (tD i.op i.c=true))∧G'=G∧Ho=[]):=by
 refine D0 Tryz.func162 Tryz.ntmps162 fun w=>?_;refine aI 2 [] ?_;refine dV 0 fun b1=>?_;refine bB 18 [0] ?_;refine cW (fun hc1=>?_) fun hc1=>?_;refine aI 9 [1,0] ?_;apply bX 4 11 15 U;intro hg1;refine aC 7 [0] ?_;exact dB 4 0;intro hg1;refine aC 4 [] ?_;exact dB 4 0;refine aC 1 [] ?_;apply bX 4 16 20 U;intro hg1;refine aC 7 [0] ?_;exact dB 4 0;intro hg1;refine aC 4 [] ?_;exact dB 4 0;refine aS 6 [] ?_;refine cV ?_;rotate_left;refine bI 5 [] ?_;refine cW (fun hc2=>?_) fun hc2=>?_;refine aI 6 [0] ?_;apply bX 4 11 15 U;intro hg1;refine aC 7 [0] ?_;exact dB 4 0;intro hg1;refine aC 4 [] ?_;exact dB 4 0;refine aC 1 [] ?_;apply bX 4 16 20 U;intro hg1;refine aC 7 [0] ?_;exact dB 4 0;intro hg1;refine aC 4 [] ?_;exact dB 4 0;refine aS 6 [] ?_;refine cV ?_;rotate_left;refine bI 7 [] ?_;refine cW (fun hc3=>?_) fun hc3=>?_;refine aI 9 [1,0] ?_;apply bX 4 27 31 U;intro hg1;refine aC 7 [0] ?_;exact dB 4 0;intro hg1;refine aC 4 [] ?_;exact dB 4 0;refine aS 6 [] ?_;refine cV ?_;rotate_left;refine bI 5 [] ?_;refine cW (fun hc4=>?_) fun hc4=>?_;refine aI 6 [0] ?_;apply bX 4 27 31 U;intro hg1;refine aC 7 [0] ?_;exact dB 4 0;intro hg1;refine aC 4 [] ?_;exact dB 4 0;refine aS 6 [] ?_;refine cV ?_;rotate_left;refine bE 12 [0] ?_;refine cV ?_;rotate_left;all_goals refine ⟨?_,U,U⟩
 all_goals simp [tD, *]
 all_goals first | (split <;> first | rfl | omega) | omega | (simp only [Bool.and_assoc];rfl) | (simp only [Bool.and_assoc]) | skip
def tC (i:Sl.Instr):List Int:=if i.op=3∨i.op=4 then [i.a,i.b] else if 1≤i.op∧i.op≤8 then [i.a] else []
theorem IT (G:A3) (i:Sl.Instr):Does Tryz.prog 83 [.agg (A2.enc i).toArray] G [] (fun v G' Ho=>∃ a c junk,v=.slice a (tC i).length c∧A4 a c (tC i) junk∧Ho=[(1,a.map (·.block),Row 3 (tC i) junk)]∧G'=G):=by
 refine D0 Tryz.func83 Tryz.ntmps83 fun w=>?_;refine aI 2 [] ?_;refine dV 0 fun b1=>?_;refine bB 18 [0] ?_;refine cW (fun hc1=>?_) fun hc1=>?_;refine aI 9 [1,0,0] ?_;refine cZ (α:=Int) 1 [(Go.Sl.Instr.a i),(Go.Sl.Instr.b i)] U T.sl24 T.el3 U U U U U fun b2=>?_;refine aS 6 [] ?_;rotate_left;refine bI 5 [] ?_;refine cW (fun hc2=>?_) fun hc2=>?_;refine aI 6 [0,0] ?_;refine cZ (α:=Int) 1 [(Go.Sl.Instr.a i),(Go.Sl.Instr.b i)] U T.sl24 T.el3 U U U U U fun b2=>?_;refine aS 6 [] ?_;rotate_left;refine bI 7 [] ?_;refine cW (fun hc3=>?_) fun hc3=>?_;refine aI 7 [1,0] ?_;refine cZ (α:=Int) 1 [(Go.Sl.Instr.a i)] U T.sl24 T.el3 U U U U U fun b2=>?_;refine aS 6 [] ?_;rotate_left;refine bI 6 [] ?_;refine cW (fun hc4=>?_) fun hc4=>?_;refine aI 7 [1,0] ?_;refine cZ (α:=Int) 1 [(Go.Sl.Instr.a i)] U T.sl24 T.el3 U U U U U fun b2=>?_;refine aS 6 [] ?_;rotate_left;refine bI 6 [] ?_;refine cW (fun hc5=>?_) fun hc5=>?_;refine aI 7 [1,0] ?_;refine cZ (α:=Int) 1 [(Go.Sl.Instr.a i)] U T.sl24 T.el3 U U U U U fun b2=>?_;refine aS 6 [] ?_;rotate_left;refine bI 6 [] ?_;refine cW (fun hc6=>?_) fun hc6=>?_;refine aI 7 [1,0] ?_;refine cZ (α:=Int) 1 [(Go.Sl.Instr.a i)] U T.sl24 T.el3 U U U U U fun b2=>?_;refine aS 6 [] ?_;rotate_left;refine bI 6 [] ?_;refine cW (fun hc7=>?_) fun hc7=>?_;refine aI 7 [1,0] ?_;refine cZ (α:=Int) 1 [(Go.Sl.Instr.a i)] U T.sl24 T.el3 U U U U U fun b2=>?_;refine aS 6 [] ?_;rotate_left;refine bI 5 [] ?_;refine cW (fun hc8=>?_) fun hc8=>?_;refine aI 4 [0] ?_;refine cZ (α:=Int) 1 [(Go.Sl.Instr.a i)] U T.sl24 T.el3 U U U U U fun b2=>?_;refine aS 6 [] ?_;rotate_left;refine bE 9 [] ?_;rotate_left
 rotate_right
 · have h:tC i=[]:=by unfold tC;rw [aD (by omega),aD (by omega)]
   refine Lc 1 (Row 3 ([]:List Int) []) ?_;refine nP [1] ?_;rw [h];exact ⟨_,_,_,U,eG,U,U⟩
 all_goals first | refine cH (.inr U) (Ho:=Hp.only _ [1]) U (.tmp U) (aV _ _) ?_
 all_goals first
  | (have h:tC i=[i.a,i.b]:=by unfold tC;rw [aF (by omega)]
     rw [h];exact ⟨_,_,_,U,fK Ea,U,U⟩)
  | (have h:tC i=[i.a]:=by unfold tC;rw [aD (by omega),aF (by omega)]
     rw [h];exact ⟨_,_,_,U,fK Ea,U,U⟩)
  | skip
def tB (i:Sl.Instr) (regs:Int):Bool:=
 decide (1≤i.op∧i.op≤8∧0≤i.to∧i.to<regs∧(i.op=3∨i.op=4∨i.b=0)) && tD i.op i.c && (tC i).all fun r=>decide (0≤r∧r<regs)
theorem Jm {α:Type} [Inhabited α] (p:α→Bool) {l:List α} {k:Nat} (h:k<l.length):(l.take (k+1)).all p=((l.take k).all p && p (l[((k:Nat):Int).toNat]?.getD default)):=by
 have:l.take (k+1)=l.take k++[l[(k:Int).toNat]?.getD default]:=by
  rw [cL,aE,aA h];rfl
 rw [this,List.all_append];simp
theorem gu (G:A3) (i:Sl.Instr) (regs:Int):Does Tryz.prog 112 [.agg (A2.enc i).toArray,.int .i64 regs] G [] (fun v G' Ho=>v=.bool (decide (tB i regs=true))∧G'=G∧Ho=[]):=by
 refine D0 Tryz.func112 Tryz.ntmps112 fun w=>?_;refine aI 2 [] ?_;refine dV 0 fun b1=>?_;refine aL 10 [0] ?_;apply dS 4 10 14 U;intro hg1;refine aC 7 [0] ?_;exact dB 4 0;intro hg1;refine aC 4 [] ?_;exact dB 4 0;refine aC 1 [] ?_;apply dS 4 15 19 U;intro hg1;refine aC 7 [0] ?_;exact dB 4 0;intro hg1;refine aC 4 [] ?_;exact dB 4 0;refine aC 1 [] ?_;apply dS 5 20 25 U;intro hg1;refine aC 9 [0] ?_;exact dB 5 0;intro hg1;refine aC 5 [] ?_;exact dB 5 0;refine aC 1 [] ?_;apply dS 10 26 36 U;intro hg1;refine aC 5 [0] ?_;refine cI U (gq _ _) ?_;refine aC 1 [] ?_;refine aQ (fP U) ?_;refine aC 2 [] ?_;apply bX 4 31 35 U;intro hg1;refine aC 8 [0] ?_;exact dB 4 0;intro hg1;refine aC 5 [] ?_;exact dB 4 0;refine aC 1 [] ?_;exact dB 7 0;intro hg1;refine aC 5 [] ?_;refine Pa U U U ?_;refine Pa U U U ?_;refine Pa U U U ?_;refine aC 2 [] ?_;exact dB 10 0;refine aC 1 [] ?_;apply dS 4 37 41 U;intro hg1;refine aC 3 [0] ?_;refine cI U (gr _ _) ?_;refine aC 1 [] ?_;refine aQ (fP U) ?_;refine aC 1 [] ?_;exact dB 4 0;intro hg1;refine aC 4 [] ?_;exact dB 4 0;refine bB 2 [] ?_;refine cW (fun hc1=>?_) fun hc1=>?_;refine bE 7 [] ?_;refine cV ?_;rotate_left;refine aI 6 [0] ?_;refine bV 1 U (IT _ _) fun v1 G1 Ho1 hle1 hp=>?_;obtain ⟨ad1,cd1,junk1,rfl,hoa1,rfl,rfl⟩:=hp;refine bB 5 [] ?_;rotate_left
 · refine ⟨?_,U,U⟩;have:tB i regs=false:=by
    unfold tB;rcases hc1 with ((((h | h) | h) | h) | h) | h
    all_goals first | (rw [cA sN];rfl) | simp [h]
   simp [this]
 have hasks:(tC i).length≤2:=by unfold tC;split <;> (try split) <;> simp
 refine gX (ι:=Nat) (fun k=>([(45,.int .i64 (k:Int)),(44,.int .i64 (↑(List.length (tC i)):Int)),(43,.slice ad1 (List.length (tC i)) cd1),(1,.int .i64 regs)],[(2,Option.map (fun x=>Go.Addr.block x) ad1,Row (α:=Int) 3 (tC i) (junk1)),(0,some b1,.cells (List.toArray (A2.enc i)) 91)])) (fun k=>k≤(tC i).length∧((tC i).take k).all (fun r=>decide (0≤r∧r<regs))=true) (fun k=>(tC i).length - k) (0) (⟨aM _,U⟩) fun k=>fun hk=>?_;obtain ⟨hk1,hk2⟩:=hk;refine bI 6 [] ?_;refine cW (fun hc2=>?_) fun hc2=>?_;refine aI 6 [] ?_;refine iE (α:=Int) T.sl24 ?_;refine nA 2 0 T.one3 ?_;refine aL 8 [] ?_;apply dS 4 51 55 U;intro hg1;refine aC 7 [] ?_;exact dB 4 0;intro hg1;refine aC 4 [] ?_;exact dB 4 0;refine bB 2 [] ?_;refine cW (fun hc3=>?_) fun hc3=>?_;refine bE 11 [] ?_;refine cV ?_;rotate_left;refine bE 7 [] ?_;rotate_left;refine bE 11 [] ?_;refine cV ?_;rotate_left
 · refine ⟨?_,U,U⟩;have hl:k<(tC i).length:=sN;have hx:(tC i)[(k:Int).toNat]?.getD default∈tC i:=by rw [aE,aA hl];simp
   have hf:((tC i).all fun r=>decide (0≤r∧r<regs))=false:=by
    rw [List.all_eq_false];exact ⟨_,hx,by simp only [aT];omega⟩
   have:tB i regs=false:=by unfold tB;rw [hf];simp
   simp [this]
 · refine cK (k+1) ?_ ?_
   · refine ⟨by omega,?_⟩;rw [Jm _ sN,hk2];simp only [pP,aT];omega
   omega
 refine ⟨?_,U,U⟩;have hk:k=(tC i).length:=sN;subst hk;rw [aZ] at hk2;have:tB i regs=true:=by
  unfold tB;rw [hk2];simp only [not_or] at hc1;simp only [pQ,aU,aT];refine ⟨by omega,?_⟩;have:=hc1.2;simpa using this
 simp [this]
structure PV where
 ins:Int
 regs:Int
 code:List Sl.Instr
 outs:List Int
abbrev H8(p:PV)(ac:Option Addr)(cc:Nat)(ao:Option Addr)(co:Nat):Array Value:=#[.int .i64 p.ins,.int .i64 p.regs,.slice ac p.code.length cc,.slice ao p.outs.length co]
def xC (p:PV):Bool:=decide (1≤p.ins∧p.ins≤p.regs∧p.regs≤128∧p.code.length≤16384∧1≤p.outs.length∧p.outs.length≤128) && p.outs.all fun r=>decide (0≤r∧r<p.regs)
def Ct (p:PV):Option Nat:=p.code.findIdx? fun i=>!tB i p.regs
def uK (p:PV):Int×Bool:=if xC p=false then (-1,true) else match Ct p with | some k=>(k,true) | none=>(0,false)
theorem Zm {α:Type} [Inhabited α] {p:α→Bool} {l:List α} {k:Nat} (h:k<l.length) (h1:(l.take k).all p=true) (h2:¬p (l[((k:Nat):Int).toNat]?.getD default)=true):l.findIdx? (fun i=>!p i)=some k:=by
 rw [mY];rw [aE,aA h,dZ] at h2;refine ⟨h,by simpa using h2,fun j hj=>?_⟩;have hm:l[j]'(by omega)∈l.take k:=by rw [List.mem_take_iff_getElem];exact ⟨j,by omega,U⟩
 have:=eK.1 h1 _ hm;simpa using this
theorem Ts {α:Type} {p:α→Bool} {l:List α} (h1:l.all p=true):l.findIdx? (fun i=>!p i)=none:=by
 rw [gO];intro x hx;simpa using eK.1 h1 x hx
theorem ZM (G:A3) (p:PV) (ac ao:Option Addr) (cc co:Nat) (hc:Arr G ac p.code) (ho:Arr G ao p.outs) (h1:p.code.length≤1099511627776) (h2:p.outs.length≤1099511627776) :
 Does Tryz.prog 56 [.agg (H8 p ac cc ao co)] G [] (fun v G' Ho=>v=.tuple #[.int .i64 (uK p).1,.int .i64 (if (uK p).2 then 80 else 0)]∧G'=G∧Ho=[]):=by
 refine D0 Tryz.func56 Tryz.ntmps56 fun w=>?_;refine aI 2 [] ?_;refine dV 0 fun b1=>?_;refine aL 11 [0] ?_;apply dS 6 11 17 U;intro hg1;refine aC 11 [0,0] ?_;exact dB 6 0;intro hg1;refine aC 6 [] ?_;exact dB 6 0;refine aC 1 [] ?_;apply dS 4 18 22 U;intro hg1;refine aC 7 [0] ?_;exact dB 4 0;intro hg1;refine aC 4 [] ?_;exact dB 4 0;refine aC 1 [] ?_;apply dS 5 23 28 U;intro hg1;refine aC 9 [0] ?_;exact dB 5 0;intro hg1;refine aC 5 [] ?_;exact dB 5 0;refine aC 1 [] ?_;apply dS 5 29 34 U;intro hg1;refine aC 9 [0] ?_;exact dB 5 0;intro hg1;refine aC 5 [] ?_;exact dB 5 0;refine aC 1 [] ?_;apply dS 5 35 40 U;intro hg1;refine aC 9 [0] ?_;exact dB 5 0;intro hg1;refine aC 5 [] ?_;exact dB 5 0;refine bB 2 [] ?_;refine cW (fun hc1=>?_) fun hc1=>?_;refine bE 8 [] ?_;refine gY ?_;rotate_left;refine bI 12 [0] ?_;rotate_left
 · refine ⟨?_,U,U⟩;have:xC p=false:=by unfold xC;rw [cA sN];rfl
   simp [uK,this]
 refine gX (ι:=Nat) (fun k=>([(44,.int .i64 (k:Int)),(43,.int .i64 (↑p.outs.length:Int)),(42,.slice ao p.outs.length co),(1,.pointer (some ⟨b1,0,none⟩))],[(0,some b1,.cells (H8 p ac cc ao co) 26)])) (fun k=>k≤p.outs.length∧(p.outs.take k).all (fun r=>decide (0≤r∧r<p.regs))=true) (fun k=>p.outs.length - k) (0) (⟨aM _,U⟩) fun k=>fun hk=>?_;obtain ⟨hk1,hk2⟩:=hk;refine bI 6 [] ?_;refine cW (fun hc2=>?_) fun hc2=>?_;refine aI 6 [] ?_;refine fR (α:=Int) T.sl24 ?_;refine jC 0 T.one3 ?_;refine aL 8 [] ?_;apply dS 5 50 55 U;intro hg1;refine aC 9 [0] ?_;exact dB 5 0;intro hg1;refine aC 5 [] ?_;exact dB 5 0;refine bB 2 [] ?_;refine cW (fun hc3=>?_) fun hc3=>?_;refine bE 12 [] ?_;refine gY ?_;rotate_left;refine bE 7 [] ?_;rotate_left;refine bI 15 [0] ?_;rotate_left
 · refine ⟨?_,U,U⟩;have hl:k<p.outs.length:=sN;have hx:p.outs[(k:Int).toNat]?.getD default∈p.outs:=by rw [aE,aA hl];simp
   have hf:(p.outs.all fun r=>decide (0≤r∧r<p.regs))=false:=by
    rw [List.all_eq_false];exact ⟨_,hx,by simp only [aT];omega⟩
   have:xC p=false:=by unfold xC;rw [hf,Bool.and_false]
   simp [uK,this]
 · refine cK (k+1) ?_ ?_
   · refine ⟨by omega,?_⟩;rw [Jm _ sN,hk2];simp only [pP,aT];omega
   omega
 have hk:k=p.outs.length:=sN;subst hk;rw [aZ] at hk2;have hh:xC p=true:=by
  unfold xC;rw [hk2,pQ,aT];omega
 clear hk1 hk2 hc2;refine gX (ι:=Nat) (fun k=>([(60,.int .i64 (k:Int)),(59,.int .i64 (↑p.code.length:Int)),(58,.slice ac p.code.length cc),(1,.pointer (some ⟨b1,0,none⟩))],[(0,some b1,.cells (H8 p ac cc ao co) 26)])) (fun k=>k≤p.code.length∧(p.code.take k).all (fun i=>tB i p.regs)=true) (fun k=>p.code.length - k) (0) (⟨aM _,U⟩) fun k=>fun hk=>?_;obtain ⟨hk1,hk2⟩:=hk;refine bI 6 [] ?_;refine cW (fun hc2=>?_) fun hc2=>?_;refine aI 7 [] ?_;refine fR (α:=Instr) T.sl23 ?_;refine lL T.agg91 ?_;refine aO 1 U T.zero91 fun b2=>?_;refine aL 9 [1,1,0] ?_;refine cI U (gu _ _ _) ?_;refine aQ (fP U) ?_;refine bB 2 [] ?_;refine cW (fun hc3=>?_) fun hc3=>?_;refine bE 13 [] ?_;refine gY ?_;rotate_left;refine bE 7 [] ?_;rotate_left;refine bE 12 [] ?_;refine gY ?_;rotate_left
 · refine ⟨?_,U,U⟩;have hl:k<p.code.length:=sN;have:Ct p=some k:=Zm hl hk2 hc3;simp [uK,hh,this]
 · refine cK (k+1) ?_ ?_
   · refine ⟨by omega,?_⟩;rw [Jm _ sN,hk2];simpa using hc3
   omega
 refine ⟨?_,U,U⟩;have hk:k=p.code.length:=sN;subst hk;rw [aZ] at hk2;have:Ct p=none:=Ts hk2;simp [uK,hh,this]
def sP (p:PV):Bool:=!(uK p).2
theorem tM (i:Sl.Instr) (regs:Int):tB i regs=true↔(1≤i.op∧i.op≤8∧0≤i.to∧i.to<regs∧0≤i.a∧i.a<regs)∧
 (if i.op=3∨i.op=4 then 0≤i.b∧i.b<regs∧i.c=0 else i.b=0∧(if i.op=5∨i.op=6 then i.c≠0∧-512≤i.c∧i.c≤512 else if i.op=7∨i.op=8 then 1≤i.c∧i.c≤64 else i.c=0)):=by
 unfold tB tD tC;by_cases h3:i.op=3∨i.op=4
 · have h5:¬(i.op=5∨i.op=6):=sN;have h7:¬(i.op=7∨i.op=8):=sN;simp only [aF h3,aD h5,aD h7,kG,List.all_nil,pQ,aU,aT];omega
 by_cases h1:1≤i.op∧i.op≤8
 · simp only [aD h3,aF h1,kG,List.all_nil,pQ,aU,aT];by_cases h5:i.op=5∨i.op=6
   · simp only [aF h5,aT];omega
   by_cases h7:i.op=7∨i.op=8
   · simp only [aD h5,aF h7,aT];omega
   simp only [aD h5,aD h7,aT];omega
 simp only [aD h3,aD h1,List.all_nil,pQ,aU,aT];constructor <;> (intro h;omega)
instance:DecidableEq PV:=fun a b=>by
 cases a;cases b;simp only [PV.mk.injEq];infer_instance
theorem Jn {α:Type} [Inhabited α] {l m:List α} {k:Nat} (hl:k<l.length) (hm:k<m.length) (h:l.take k=m.take k)
 (he:l[((k:Nat):Int).toNat]?.getD default=m[((k:Nat):Int).toNat]?.getD default):l.take (k+1)=m.take (k+1):=by
 rw [aE,aA hl,aA hm] at he;rw [cL,cL,h,aA hl,aA hm];simp only [dZ] at he;rw [he]
structure Tab where
 held:List Int
 known:List (K4×Int)
 first:List (K4×Int)
 next:Int
def start (p:PV):List Int:=(List.range p.regs.toNat).map fun r=>if (p.ins:Int)<((r:Nat):Int) then p.ins else ((r:Nat):Int)
def holder (l:List Int) (v:Int):Int:=match l.findIdx? (fun x=>decide (x=v)) with | some k=>(k:Int) | none=>-1
def keyOf (held:List Int) (i:Sl.Instr):K4:=
 let a:=held[i.a.toNat]?.getD default
 if i.op=3∨i.op=4 then
  let b:=held[i.b.toNat]?.getD default
  if i.op=3∧b<a then ⟨i.op,b,a,i.c⟩ else ⟨i.op,a,b,i.c⟩
 else ⟨i.op,a,-1,i.c⟩
theorem Zn (i:Sl.Instr):(1<((tC i).length:Int))↔(i.op=3∨i.op=4):=by
 unfold tC;by_cases h:i.op=3∨i.op=4
 · simp [h]
 rw [aD h];split <;> simp [h]
def reckonP (t:Tab) (n:Int) (i:Sl.Instr):(Int×Int)×Tab:=
 if i.op=1 then ((t.held[i.a.toNat]?.getD default,-1),t)
 else match A8 t.known (keyOf t.held i) with
  | none=>((t.next,n),{ t with known:=t.known++[(keyOf t.held i,t.next)],first:=t.first++[(keyOf t.held i,n)],next:=t.next+1 })
  | some v=>((v,(A8 t.first (keyOf t.held i)).getD 0),t)
theorem Tt {xs:List (K4×Int)} {k:K4} {v:Int} (h:A8 xs k=none):A8 (xs++[(k,v)]) k=some v:=by
 rw [←zC xs k v h,xM,aF rfl]
def askedP (held:List Int) (i:Sl.Instr):Sl.Instr:=
 { i with a:=holder held (held[i.a.toNat]?.getD default),b:=if i.op=3∨i.op=4 then holder held (held[i.b.toNat]?.getD default) else i.b }
def tI (s:Tab×List Sl.Instr) (n:Int) (i:Sl.Instr):Tab×List Sl.Instr:=
 let v:=(reckonP s.1 n i).1.1
 let t:=(reckonP s.1 n i).2
 let j:=askedP t.held i
 if t.held[i.to.toNat]?.getD default=v then (t,s.2)
 else ({ t with held:=t.held.set i.to.toNat v },s.2++[if 0≤holder t.held v then ⟨1,j.to,holder t.held v,0,0⟩ else j])
def tR (p:PV):Nat→Tab×List Sl.Instr
 | 0=>(⟨start p,[],[],p.ins+1⟩,[])
 | k+1=>tI (tR p k) k (p.code[((k:Nat):Int).toNat]?.getD default)
def vV (p:PV) (held:List Int):List Int:=p.outs.map fun r=>holder held (held[r.toNat]?.getD default)
def xW (p:PV):PV:=⟨p.ins,p.regs,(tR p p.code.length).2,vV p (tR p p.code.length).1.held⟩
theorem sT {p:PV} (h:sP p=true):1≤p.ins∧p.ins≤p.regs∧p.regs≤128∧p.code.length≤16384∧1≤p.outs.length∧p.outs.length≤128∧(∀ r∈p.outs,0≤r∧r<p.regs)∧(∀ i∈p.code,tB i p.regs=true):=by
 unfold sP uK at h;by_cases hh:xC p=false
 · rw [aF hh] at h;cases h
 rw [aD hh] at h;have hb:Ct p=none:=by
  cases hb:Ct p with
  | none=>rfl
  | some k=>rw [hb] at h;cases h
 have hh':xC p=true:=by simpa using hh
 unfold xC at hh';rw [aU,aT,eK] at hh';unfold Ct at hb;rw [gO] at hb;obtain ⟨⟨g1,g2,g3,g4,g5,g6⟩,g7⟩:=hh';refine ⟨g1,g2,g3,g4,g5,g6,fun r hr=>?_,fun i hi=>?_⟩
 · have:=g7 r hr;rw [aT] at this;exact this
 simpa using hb i hi
theorem Ca (t:Tab) (n:Int) (i:Sl.Instr):(reckonP t n i).2.held=t.held:=by
 unfold reckonP;split
 · rfl
 split <;> rfl
theorem Lh {t:Tab} {n:Int} {i:Sl.Instr} (h:∀ x,A8 t.known x=none→A8 t.first x=none):∀ x,A8 (reckonP t n i).2.known x=none→A8 (reckonP t n i).2.first x=none:=by
 unfold reckonP;split
 · exact h
 split
 · rename_i hk;intro x hx;rw [←zC _ _ _ hk,xM] at hx;rw [←zC _ _ _ (h _ hk),xM];split at hx
   · cases hx
   rename_i hne;rw [aD hne];exact h _ hx
 exact h
theorem yJ {t:Tab} (h:0≤t.next) (n:Int) (i:Sl.Instr):0≤(reckonP t n i).2.next∧(reckonP t n i).2.next≤t.next+1:=by
 unfold reckonP;split
 · exact ⟨h,by show t.next≤_;omega⟩
 split
 · exact ⟨by show 0≤t.next+1;omega,iM _⟩
 exact ⟨h,by show t.next≤_;omega⟩
section
variable {t:Tab} {out:List Sl.Instr} {n:Int} {i:Sl.Instr}
theorem Hd (h:(reckonP t n i).2.held[(askedP (reckonP t n i).2.held i).to.toNat]?.getD default=(reckonP t n i).1.1):tI (t,out) n i=((reckonP t n i).2,out):=aF h
theorem He (h:¬(reckonP t n i).2.held[(askedP (reckonP t n i).2.held i).to.toNat]?.getD default=(reckonP t n i).1.1) (h2:0≤holder (reckonP t n i).2.held (reckonP t n i).1.1) :
 tI (t,out) n i=({ (reckonP t n i).2 with held:=(reckonP t n i).2.held.set (askedP (reckonP t n i).2.held i).to.toNat (reckonP t n i).1.1 },out++[⟨1,(askedP (reckonP t n i).2.held i).to,holder (reckonP t n i).2.held (reckonP t n i).1.1,0,0⟩]):=
 (aD h).trans (by rw [aF h2];rfl)
theorem Hf (h:¬(reckonP t n i).2.held[(askedP (reckonP t n i).2.held i).to.toNat]?.getD default=(reckonP t n i).1.1) (h2:¬0≤holder (reckonP t n i).2.held (reckonP t n i).1.1) :
 tI (t,out) n i=({ (reckonP t n i).2 with held:=(reckonP t n i).2.held.set (askedP (reckonP t n i).2.held i).to.toNat (reckonP t n i).1.1 },out++[askedP (reckonP t n i).2.held i]):=
 (aD h).trans (by rw [aD h2];rfl)
end
theorem Cb {l:List Int} {v:Int} (h:0≤holder l v):holder l v<l.length∧l[(holder l v).toNat]?.getD default=v:=by
 unfold holder at h ⊢;cases hk:l.findIdx? (fun x=>decide (x=v)) with
 | none=>rw [hk] at h;simp at h
 | some k =>
   rw [mY] at hk;obtain ⟨h1,h2,_⟩:=hk;simp only [aT] at h2;refine ⟨by show (k:Int)<_;omega,?_⟩;show l[(k:Int).toNat]?.getD default=v;rw [aE,aA h1];exact h2
theorem Zo {l:List Int} {v:Int} (h:¬0≤holder l v):holder l v=-1:=by
 unfold holder at h ⊢;cases hk:l.findIdx? (fun x=>decide (x=v)) with
 | none=>rfl
 | some k=>rw [hk] at h;exact absurd (rN k) h
theorem DT {l:List Int} {v:Int} (h:v∈l):0≤holder l v:=by
 unfold holder;cases hk:l.findIdx? (fun x=>decide (x=v)) with
 | none=>rw [gO] at hk;have:=hk v h;simp at this
 | some k=>exact rN k
theorem IU {l:List Int} {v n:Int} (hl:∀ x∈l,x<n) (h:n≤v):holder l v=-1:=by
 refine Zo fun hh=>?_;obtain ⟨h1,h2⟩:=Cb hh;have hm:v∈l:=by
  have hlt:(holder l v).toNat<l.length:=sN;rw [aA hlt,dZ] at h2;rw [←h2];exact bT hlt
 have:=hl v hm;omega
theorem get_mem {l:List Int} {r:Int} (h:0≤r∧r<l.length):l[r.toNat]?.getD default∈l:=by
 have hlt:r.toNat<l.length:=sN;rw [aA hlt];exact bT hlt
theorem zF {l:List Int} {r:Int} (h:0≤r∧r<l.length):0≤holder l (l[r.toNat]?.getD default)∧holder l (l[r.toNat]?.getD default)<l.length∧
 l[(holder l (l[r.toNat]?.getD default)).toNat]?.getD default=l[r.toNat]?.getD default:=by
 have h0:=DT (get_mem h);exact ⟨h0,Cb h0⟩
structure D1 (t:Tab) (regs:Int):Prop where
 len:(t.held.length:Int)=regs
 held:∀ x∈t.held,x<t.next
 known:∀ k v,A8 t.known k=some v→v<t.next
theorem IW {l:List Int} {i:Sl.Instr} (h:tB i l.length=true):keyOf l (askedP l i)=keyOf l i∧askedP l (askedP l i)=askedP l i∧tB (askedP l i) l.length=true:=by
 have h':=h;rw [tM] at h;obtain ⟨⟨h1,h2,h3,h4,h5,h6⟩,hb⟩:=h;obtain ⟨a1,a2,a3⟩:=zF (l:=l) (r:=i.a) ⟨h5,h6⟩;by_cases ht:i.op=3∨i.op=4
 · rw [aF ht] at hb;obtain ⟨b1,b2,b3⟩:=zF (l:=l) (r:=i.b) ⟨hb.1,hb.2.1⟩;have e:askedP l i=⟨i.op,i.to,holder l (l[i.a.toNat]?.getD default),holder l (l[i.b.toNat]?.getD default),i.c⟩:=by unfold askedP;rw [aF ht]
   refine ⟨?_,?_,?_⟩
   · rw [e];unfold keyOf;simp only [a3,b3]
   · rw [e];unfold askedP;simp only [a3,b3,aF ht]
   rw [e,tM,aF ht];exact ⟨⟨h1,h2,h3,h4,a1,a2⟩,b1,b2,hb.2.2⟩
 rw [aD ht] at hb;have e:askedP l i=⟨i.op,i.to,holder l (l[i.a.toNat]?.getD default),i.b,i.c⟩:=by unfold askedP;rw [aD ht]
 refine ⟨?_,?_,?_⟩
 · rw [e];unfold keyOf;simp only [a3,aD ht]
 · rw [e];unfold askedP;simp only [a3,aD ht]
 rw [e,tM,aD ht];exact ⟨⟨h1,h2,h3,h4,a1,a2⟩,hb⟩
theorem Jo {t:Tab} {regs:Int} (h:D1 t regs) (n:Int) (i:Sl.Instr) (ha:0≤i.a∧i.a<regs):D1 (reckonP t n i).2 regs∧(reckonP t n i).1.1<(reckonP t n i).2.next:=by
 unfold reckonP;split
 · exact ⟨h,h.held _ (get_mem (by rw [h.len];exact ha))⟩
 split
 · rename_i hk;refine ⟨⟨h.len,fun x hx=>?_,fun k v hv=>?_⟩,?_⟩
   · have:=h.held x hx;show x<t.next+1;omega
   · show v<t.next+1;have hv':A8 (t.known++[(keyOf t.held i,t.next)]) k=some v:=hv;rw [←zC _ _ _ hk,xM] at hv';split at hv'
     · cases hv';omega
     have:=h.known k v hv';omega
   show t.next<t.next+1;omega
 rename_i v hk;exact ⟨h,h.known _ _ hk⟩
theorem FR {l:List Int} {k:Nat} {v regs:Int} (h:(l.length:Int)=regs):((l.set k v).length:Int)=regs:=by rw [aG];exact h
theorem Nc {p:PV} (h:1≤p.ins∧p.ins≤p.regs):D1 ⟨start p,[],[],p.ins+1⟩ p.regs:=by
 refine ⟨?_,fun x hx=>?_,fun k v hv=>by simp [A8] at hv⟩
 · show ((start p).length:Int)=_;simp [start];omega
 simp only [start,dL,iG] at hx;obtain ⟨r,_,rfl⟩:=hx;show _<p.ins+1;split <;> omega
def p2 (n:Nat):Int:=((2 ^ n:Nat):Int)
theorem Pn (n:Nat):0<p2 n:=by unfold p2;exact Int.ofNat_lt.2 (pJ sY)
theorem XU (m n:Nat):p2 (m+n)=p2 m*p2 n:=by unfold p2;rw [oD,jX]
theorem aw {m n:Nat} (h:m≤n):p2 m≤p2 n:=by unfold p2;exact Int.ofNat_le.2 (iJ sY h)
def cst (i:Sl.Instr):Int:=if i.op=5∨i.op=6 then i.c else p2 i.c.toNat
theorem Zp {i:Sl.Instr} (h:i.op=5∨i.op=6):cst i=i.c:=aF h
theorem WK {i:Sl.Instr} (h:¬(i.op=5∨i.op=6)):cst i=p2 i.c.toNat:=aD h
def zG (y:Int) (xs:List Int):Prop:=∀ i:Nat,i<xs.length→xs[i]?.getD 0 % y=0
instance (y:Int) (xs:List Int):Decidable (zG y xs):=by unfold zG;infer_instance
def xQ (i:Sl.Instr) (rs:List (List Int)):Option (List Int):=
 let a:=rs[i.a.toNat]?.getD []
 if i.op=2 then some (a.map (fun x=>-1*x))
 else if i.op=3 then some (List.zipWith (fun x y=>x+1*y) a (rs[i.b.toNat]?.getD []))
 else if i.op=4 then some (List.zipWith (fun x y=>x+(-1)*y) a (rs[i.b.toNat]?.getD []))
 else if i.op=5∨i.op=7 then some (a.map (fun x=>cst i*x))
 else if i.op=6∨i.op=8 then (if zG (cst i) a then some (a.map (· / cst i)) else none)
 else some a
def vE (p:PV) (gs:List (List Int)):List (List Int):=(List.range p.regs.toNat).map fun k=>if k<gs.length then gs[k]?.getD [] else List.replicate (gs[0]?.getD []).length 0
def wQ (p:PV) (gs:List (List Int)):Nat→Option (List (List Int))
 | 0=>some (vE p gs)
 | k+1=>(wQ p gs k).bind fun rs=>(xQ (p.code[((k:Nat):Int).toNat]?.getD default) rs).map fun x=>rs.set (p.code[((k:Nat):Int).toNat]?.getD default).to.toNat x
def xD (p:PV) (rs:List (List Int)):List (List Int):=p.outs.map fun r=>rs[r.toNat]?.getD []
def tE (p:PV) (gs:List (List Int)):Option (List (List Int)):=(wQ p gs p.code.length).map (xD p)
theorem Dk {p:PV} {gs:List (List Int)} {k:Nat} {rs x:List (List Int)} {y:List Int} (h:wQ p gs k=some rs) (hd:xQ (p.code[((k:Nat):Int).toNat]?.getD default) rs=some y) :
 wQ p gs (k+1)=some (rs.set (p.code[((k:Nat):Int).toNat]?.getD default).to.toNat y):=by
 unfold wQ;rw [h];simp only [eR,hd,fU]
theorem Hu {p:PV} {gs:List (List Int)} {k:Nat} (h:wQ p gs k=none) (j:Nat):wQ p gs (k+j)=none:=by
 induction j with
 | zero=>exact h
 | succ j ih=>rw [←pM];unfold wQ;rw [ih];rfl
theorem DU {p:PV} {gs:List (List Int)} {k:Nat} {rs:List (List Int)} (h:wQ p gs k=some rs) (hd:xQ (p.code[((k:Nat):Int).toNat]?.getD default) rs=none) (hk:k<p.code.length):tE p gs=none:=by
 have h1:wQ p gs (k+1)=none:=by unfold wQ;rw [h];simp only [eR,hd,lE]
 have h2:=Hu h1 (p.code.length - (k+1));rw [show k+1+(p.code.length - (k+1))=p.code.length by omega] at h2;unfold tE;rw [h2];rfl
theorem NQ:∀ c:Nat,c≤64→((p2 c).natAbs:Int)<pw 5:=fun c hc=>by
 have h1:=aw hc;have h2:=Pn c;have h3:p2 64<pw 5:=by unfold p2 pw;decide
 omega
theorem tK {i:Sl.Instr} {regs:Int} (h:tB i regs=true):(1≤i.op∧i.op≤8)∧(0≤i.to∧i.to<regs)∧(0≤i.a∧i.a<regs)∧(i.op=3∨i.op=4→0≤i.b∧i.b<regs)∧tD i.op i.c=true∧
 (i.op≠1→i.op≠2→i.op≠3→i.op≠4→cst i≠0∧((cst i).natAbs:Int)<pw 5)∧(i.op=5∨i.op=6→-9223372036854775808≤i.c∧i.c≤9223372036854775807)∧(¬(i.op=5∨i.op=6)→0≤i.c∧i.c≤64):=by
 unfold tB at h;rw [aU,aU,aT,eK] at h;obtain ⟨⟨⟨g1,g2,g3,g4,g5⟩,g6⟩,g7⟩:=h;have hA:∀ r∈tC i,0≤r∧r<regs:=fun r hr=>by have:=g7 r hr;rwa [aT] at this
 have ha:i.a∈tC i:=by
  unfold tC;split
  · exact bD
  rw [aF ⟨g1,g2⟩];exact bD
 have hc:=g6;unfold tD at g6;have k1:i.op=5∨i.op=6→i.c≠0∧-512≤i.c∧i.c≤512:=fun h=>by rw [aF h,aT] at g6;exact g6
 have k2:¬(i.op=5∨i.op=6)→(i.op=7∨i.op=8→1≤i.c∧i.c≤64)∧(¬(i.op=7∨i.op=8)→i.c=0):=fun h=>by
  rw [aD h] at g6;refine ⟨fun h2=>?_,fun h2=>?_⟩
  · rw [aF h2,aT] at g6;exact g6
  rw [aD h2,aT] at g6;exact g6
 refine ⟨⟨g1,g2⟩,⟨g3,g4⟩,hA _ ha,fun h34=>hA _ WE,hc,fun n1 n2 n3 n4=>?_,fun h56=>by have:=k1 h56;omega,fun h56=>?_⟩
 · by_cases h56:i.op=5∨i.op=6
   · rw [Zp h56];have:=k1 h56;have h3:(65536:Int)<pw 5:=by unfold pw;decide
     exact ⟨this.1,by omega⟩
   rw [WK h56];have h2:=(k2 h56).1 sN;have:=Pn i.c.toNat;exact ⟨by omega,NQ _ sN⟩
 by_cases h78:i.op=7∨i.op=8
 · have:=(k2 h56).1 h78;omega
 have:=(k2 h56).2 h78;omega
theorem vN (p:PV) (gs:List (List Int)):(vE p gs).length=p.regs.toNat:=by unfold vE;rw [aN,cC]
theorem Ew {p:PV} {gs:List (List Int)} {k:Nat} (hk:k<p.regs.toNat):(vE p gs)[k]?.getD []=if k<gs.length then gs[k]?.getD [] else List.replicate (gs[0]?.getD []).length 0:=by
 unfold vE;rw [bM,eV hk];rfl
def TG (op c:Int) (a b:List Int):Option (List Int):=xQ ⟨op,0,0,1,c⟩ [a,b]
theorem Jp (i:Sl.Instr) (rs:List (List Int)):xQ i rs=TG i.op i.c (rs[i.a.toNat]?.getD []) (rs[i.b.toNat]?.getD []):=rfl
theorem NR (a b:List Int):List.zipWith (fun x y=>x+1*y) a b=List.zipWith (fun x y=>x+1*y) b a:=by
 rw [List.zipWith_comm];congr 1;funext x y;omega
theorem NS (c:Int) (a b:List Int):TG 3 c a b=TG 3 c b a:=by
 show some (List.zipWith (fun x y=>x+1*y) a b)=some (List.zipWith (fun x y=>x+1*y) b a);rw [NR]
theorem Wg {op:Int} (h:¬(op=3∨op=4)) (c:Int) (a b b':List Int):TG op c a b=TG op c a b':=by
 have h3:¬op=3:=fun e=>h (.inl e);have h4:¬op=4:=fun e=>h (.inr e);unfold TG xQ;simp only [h3,h4,lD];rfl
def Tu (E:Int→List Int) (k:K4):Option (List Int):=TG k.op k.c (E k.a) (E k.b)
theorem Tv {E:Int→List Int} {held:List Int} {rs:List (List Int)} {regs:Int} {i:Sl.Instr} (hm:tB i regs=true) (hv:∀ r:Int,0≤r∧r<regs→rs[r.toNat]?.getD []=E (held[r.toNat]?.getD default)) :
 Tu E (keyOf held i)=xQ i rs:=by
 obtain ⟨m1,m2,m3,m4,m5,m6,m7,m8⟩:=tK hm;rw [Jp,hv _ m3];unfold keyOf;by_cases h34:i.op=3∨i.op=4
 · rw [hv _ (m4 h34)];simp only [aF h34];split
   · rename_i hsw;unfold Tu;simp only;rw [hsw.1];exact NS _ _ _
   rfl
 simp only [aD h34];exact Wg h34 _ _ _ _
def yS:List Sl.Instr→List (List Int)→Option (List (List Int))
 | [],rs=>some rs
 | i :: l,rs=>(xQ i rs).bind fun x=>yS l (rs.set i.to.toNat x)
theorem Zq (l m:List Sl.Instr) (rs:List (List Int)):yS (l++m) rs=(yS l rs).bind (yS m):=by
 induction l generalizing rs with
 | nil=>rfl
 | cons i l ih =>
   show (xQ i rs).bind (fun x=>yS (l++m) (rs.set i.to.toNat x))=_;show _=((xQ i rs).bind fun x=>yS l (rs.set i.to.toNat x)).bind (yS m);cases xQ i rs with
   | none=>rfl
   | some x=>exact ih _
theorem Cu {l:List Sl.Instr} {i:Sl.Instr} {rs:List (List Int)}:yS (l++[i]) rs=(yS l rs).bind fun r=>(xQ i r).map fun x=>r.set i.to.toNat x:=by
 rw [Zq];congr 1;funext r;show (xQ i r).bind (fun x=>yS [] (r.set i.to.toNat x))=_;cases xQ i r <;> rfl
theorem zH (p:PV) (gs:List (List Int)):∀ k,k≤p.code.length→wQ p gs k=yS (p.code.take k) (vE p gs)
 | 0,_=>by rw [bR];rfl
 | k+1,h=>by
   have hk:k<p.code.length:=sN;have e:p.code.take (k+1)=p.code.take k++[p.code[(k:Int).toNat]?.getD default]:=by
    rw [nI hk,aE,aA hk];rfl
   rw [e,Cu,←zH p gs k sN];rfl
structure Val (t:Tab) (rs:List (List Int)) (E:Int→List Int) (regs:Int):Prop where
 len:(rs.length:Int)=regs
 reg:∀ r:Int,0≤r∧r<regs→rs[r.toNat]?.getD []=E (t.held[r.toNat]?.getD default)
 key:∀ k v,A8 t.known k=some v→Tu E k=some (E v)
 old:∀ k v,A8 t.known k=some v→k.a<t.next∧k.b<t.next
 pos:0≤t.next
theorem FS {t:Tab} {regs:Int} {i:Sl.Instr} (hs:D1 t regs) (hp:0≤t.next) (hm:tB i regs=true):(keyOf t.held i).a<t.next∧(keyOf t.held i).b<t.next:=by
 obtain ⟨m1,m2,m3,m4,m5,m6,m7,m8⟩:=tK hm;have hl:=hs.len;have ha:=hs.held _ (get_mem (l:=t.held) (r:=i.a) sN);unfold keyOf;by_cases h34:i.op=3∨i.op=4
 · have hb:=hs.held _ (get_mem (l:=t.held) (r:=i.b) (by have:=m4 h34;omega));simp only [aF h34];split
   · exact ⟨hb,ha⟩
   exact ⟨ha,hb⟩
 simp only [aD h34];exact ⟨ha,by show (-1:Int)<_;omega⟩
theorem Tw {t:Tab} {rs:List (List Int)} {E:Int→List Int} {regs:Int} {i:Sl.Instr} (hs:D1 t regs) (hv:Val t rs E regs) (hm:tB i regs=true):xQ (askedP t.held i) rs=xQ i rs:=by
 obtain ⟨m1,m2,m3,m4,m5,m6,m7,m8⟩:=tK hm;have hl:=hs.len;obtain ⟨a1,a2,a3⟩:=zF (l:=t.held) (r:=i.a) sN;have ea:rs[(holder t.held (t.held[i.a.toNat]?.getD default)).toNat]?.getD []=rs[i.a.toNat]?.getD []:=by
  rw [hv.reg _ ⟨a1,by omega⟩,hv.reg _ m3,a3]
 rw [Jp,Jp i];unfold askedP;simp only;rw [ea];by_cases h34:i.op=3∨i.op=4
 · obtain ⟨b1,b2,b3⟩:=zF (l:=t.held) (r:=i.b) (by have:=m4 h34;omega);have eb:rs[(holder t.held (t.held[i.b.toNat]?.getD default)).toNat]?.getD []=rs[i.b.toNat]?.getD []:=by
    rw [hv.reg _ ⟨b1,by omega⟩,hv.reg _ (m4 h34),b3]
   rw [aF h34,eb]
 exact Wg h34 _ _ _ _
theorem DV {t:Tab} {rs:List (List Int)} {E:Int→List Int} {regs n:Int} {i:Sl.Instr} {x:List Int} (hs:D1 t regs) (hv:Val t rs E regs) (hm:tB i regs=true) (hd:xQ i rs=some x) :
 ∃ E1,Val (reckonP t n i).2 rs E1 regs∧E1 (reckonP t n i).1.1=x:=by
 obtain ⟨m1,m2,m3,m4,m5,m6,m7,m8⟩:=tK hm;have hl:=hs.len;have hk:=Tv hm hv.reg;unfold reckonP;by_cases h1:i.op=1
 · rw [aF h1];refine ⟨E,hv,?_⟩;have:xQ i rs=some (rs[i.a.toNat]?.getD []):=by unfold xQ;simp [h1]
   rw [this] at hd;cases hd;exact (hv.reg _ m3).symm
 rw [aD h1];cases hg:A8 t.known (keyOf t.held i) with
 | some v =>
   refine ⟨E,hv,?_⟩;have e:=hv.key _ _ hg;rw [hk,hd] at e;exact (iW e).symm
 | none =>
   have hold:∀ y:Int,y<t.next→(fun z=>if z=t.next then x else E z) y=E y:=fun y hy=>aD (by omega);have hev:∀ k:K4,k.a<t.next∧k.b<t.next→Tu (fun z=>if z=t.next then x else E z) k=Tu E k:=fun k hk=>by
    unfold Tu;rw [hold _ hk.1,hold _ hk.2]
   have hgm:∀ k,A8 (t.known++[(keyOf t.held i,t.next)]) k=if keyOf t.held i=k then some t.next else A8 t.known k:=fun k=>by
    rw [←zC _ _ _ hg,xM];by_cases he:k=keyOf t.held i <;> simp [he,eq_comm]
   refine ⟨fun z=>if z=t.next then x else E z,⟨hv.len,fun r hr=>?_,fun k v hkv=>?_,fun k v hkv=>?_,by have:=hv.pos;show (0:Int)≤t.next+1;omega⟩,aF U⟩
   · have:=hs.held _ (get_mem (l:=t.held) (r:=r) sN);exact (hv.reg r hr).trans (hold _ this).symm
   · have hkv:A8 (t.known++[(keyOf t.held i,t.next)]) k=some v:=hkv;rw [hgm] at hkv;split at hkv
     · rename_i he;cases hkv;subst he;rw [hev _ (FS hs hv.pos hm),hk,hd];exact congrArg some (aF U).symm
     have hlt:=hs.known _ _ hkv;rw [hev _ (hv.old _ _ hkv),hv.key _ _ hkv];exact congrArg some (hold _ hlt).symm
   have hkv:A8 (t.known++[(keyOf t.held i,t.next)]) k=some v:=hkv;rw [hgm] at hkv;show k.a<t.next+1∧k.b<t.next+1;split at hkv
   · rename_i he;subst he;have:=FS hs hv.pos hm;omega
   have:=hv.old _ _ hkv;omega
theorem Jq {l:List (List Int)} {k:Nat} {x:List Int} {r:Int} (hr:0≤r∧r<l.length):(l.set k x)[r.toNat]?.getD []=if (k:Int)=r then x else l[r.toNat]?.getD []:=by
 have h1:r.toNat<l.length:=sN;rw [cF];by_cases h:(k:Int)=r
 · rw [aF (by omega),aF (by omega),aF h];rfl
 rw [aD (by omega),aD h]
theorem xN {l:List Int} {k:Nat} {x:Int} {r:Int} (hr:0≤r∧r<l.length):(l.set k x)[r.toNat]?.getD default=if (k:Int)=r then x else l[r.toNat]?.getD default:=by
 have h1:r.toNat<l.length:=sN;rw [cF];by_cases h:(k:Int)=r
 · rw [aF (by omega),aF (by omega),aF h];rfl
 rw [aD (by omega),aD h]
theorem Wi {l:List (List Int)} {k:Nat} (hk:k<l.length) {x:List Int} (h:l[k]?.getD []=x):l.set k x=l:=by
 rw [aA hk] at h;have h:l[k]=x:=h;rw [←h,List.set_getElem_self]
theorem NT {t:Tab} {rs r0:List (List Int)} {E:Int→List Int} {regs n:Int} {i:Sl.Instr} {x:List Int} {out:List Sl.Instr} (hs:D1 t regs) (hv:Val t rs E regs) (hm:tB i regs=true) (hr:yS out r0=some rs) (hd:xQ i rs=some x) :
 yS (tI (t,out) n i).2 r0=some (rs.set i.to.toNat x)∧∃ E1,Val (tI (t,out) n i).1 (rs.set i.to.toNat x) E1 regs:=by
 obtain ⟨m1,m2,m3,m4,m5,m6,m7,m8⟩:=tK hm;obtain ⟨E1,hv1,hx⟩:=DV (n:=n) hs hv hm hd;have hh:=Ca t n i;have hl:=hs.len;have hrl:=hv.len;have hask:=Tw hs hv hm;unfold tI;simp only;split
 · rename_i hc;have e:rs.set i.to.toNat x=rs:=Wi sN (by rw [hv1.reg _ m2,hc,hx]);rw [e];exact ⟨hr,E1,hv1⟩
 rename_i hc;refine ⟨?_,E1,⟨by rw [aG];exact hrl,fun r hr9=>?_,hv1.key,hv1.old,hv1.pos⟩⟩
 · rw [Cu,hr];show ((xQ _ rs).map fun x=>rs.set _ x)=_;split
   · rename_i h0;obtain ⟨g1,g2⟩:=Cb h0;have e:xQ ⟨1,(askedP (reckonP t n i).2.held i).to,holder (reckonP t n i).2.held (reckonP t n i).1.1,0,0⟩ rs=some x:=by
      show some (rs[(holder (reckonP t n i).2.held (reckonP t n i).1.1).toNat]?.getD [])=some x;rw [hv1.reg _ ⟨h0,by rw [hh] at g1 ⊢;omega⟩,g2,hx]
     rw [e];rfl
   rw [hh,hask,hd];rfl
 rw [Jq sN];show _=E1 (((reckonP t n i).2.held.set i.to.toNat (reckonP t n i).1.1)[r.toNat]?.getD default);rw [xN (by rw [hh];omega)];split
 · exact hx.symm
 exact hv1.reg r hr9
theorem IX {t:Tab} {rs r0:List (List Int)} {E:Int→List Int} {regs n:Int} {i:Sl.Instr} {out:List Sl.Instr} (hs:D1 t regs) (hv:Val t rs E regs) (hm:tB i regs=true) (hr:yS out r0=some rs) (hd:xQ i rs=none) :
 yS (tI (t,out) n i).2 r0=none:=by
 obtain ⟨m1,m2,m3,m4,m5,m6,m7,m8⟩:=tK hm;have hh:=Ca t n i;have hl:=hs.len;have hask:=Tw hs hv hm;have hk:=Tv hm hv.reg;have h1:¬i.op=1:=fun h=>by
  have:xQ i rs=some (rs[i.a.toNat]?.getD []):=by unfold xQ;simp [h]
  rw [this] at hd;cases hd
 have hg:A8 t.known (keyOf t.held i)=none:=by
  cases hg:A8 t.known (keyOf t.held i) with
  | none=>rfl
  | some v=>have:=hv.key _ _ hg;rw [hk,hd] at this;cases this
 have hn:(reckonP t n i).1.1=t.next:=by unfold reckonP;rw [aD h1,hg]
 have hto:=hs.held _ (get_mem (l:=t.held) (r:=i.to) sN);have hho:=IU (l:=t.held) (v:=t.next) (n:=t.next) hs.held (iM _);unfold tI;simp only;rw [hn,hh,aD (by omega),hho,aD (by decide),Cu,hr];show ((xQ _ rs).map fun x=>rs.set _ x)=_;rw [hask,hd];rfl
theorem DW {t:Tab} {regs n:Int} {i:Sl.Instr} {out:List Sl.Instr} (hs:D1 t regs) (hm:tB i regs=true):D1 (tI (t,out) n i).1 regs:=by
 obtain ⟨m1,m2,m3,m4,m5,m6,m7,m8⟩:=tK hm;obtain ⟨s1,s2⟩:=Jo hs n i m3;unfold tI;simp only;split
 · exact s1
 refine ⟨FR s1.len,fun x hx=>?_,s1.known⟩;rcases fC hx with h | h
 · exact s1.held x h
 rw [h];exact s2
theorem IY {t:Tab} {n:Int} {i:Sl.Instr} {out:List Sl.Instr} {r0:List (List Int)} (h:yS out r0=none):yS (tI (t,out) n i).2 r0=none:=by
 unfold tI;simp only;split
 · exact h
 rw [Cu,h];rfl
theorem IZ {p:PV} {gs:List (List Int)} (h:1≤p.ins∧p.ins≤p.regs) (hg:(gs.length:Int)=p.ins) :
 Val ⟨start p,[],[],p.ins+1⟩ (vE p gs) (fun v=>if v<p.ins then gs[v.toNat]?.getD [] else List.replicate (gs[0]?.getD []).length 0) p.regs:=by
 refine ⟨by rw [vN];omega,fun r hr=>?_,fun k v hk=>(nomatch (show (none:Option Int)=some v from hk)),fun k v hk=>(nomatch (show (none:Option Int)=some v from hk)),by show (0:Int)≤p.ins+1;omega⟩;have e:(start p)[r.toNat]?.getD default=if p.ins<r then p.ins else r:=by
  unfold start;rw [bM,eV sN];show (if p.ins<((r.toNat:Nat):Int) then p.ins else ((r.toNat:Nat):Int))=_;rw [cO hr.1]
 show _=(fun v:Int=>if v<p.ins then gs[v.toNat]?.getD [] else List.replicate (gs[0]?.getD []).length 0) ((start p)[r.toNat]?.getD default);rw [Ew sN,e];by_cases h1:r<p.ins
 · rw [aF (by omega)];show _=if (if p.ins<r then p.ins else r)<p.ins then _ else _;rw [aD (show ¬p.ins<r by omega),aF h1]
 rw [aD (by omega)];show _=if (if p.ins<r then p.ins else r)<p.ins then _ else _;rw [aD (by split <;> omega)]
theorem Zr {p:PV} {gs:List (List Int)} (hR:sP p=true) (hg:(gs.length:Int)=p.ins):∀ k,k≤p.code.length→
 D1 (tR p k).1 p.regs∧((∃ rs E,wQ p gs k=some rs∧yS (tR p k).2 (vE p gs)=some rs∧Val (tR p k).1 rs E p.regs)∨(wQ p gs k=none∧yS (tR p k).2 (vE p gs)=none))
 | 0,_=>by
   obtain ⟨f1,f2,f3,f4,f5,f6,f7,f8⟩:=sT hR;exact ⟨Nc ⟨f1,f2⟩,.inl ⟨_,_,U,U,IZ ⟨f1,f2⟩ hg⟩⟩
 | k+1,h=>by
   obtain ⟨f1,f2,f3,f4,f5,f6,f7,f8⟩:=sT hR;obtain ⟨hs,ih⟩:=Zr hR hg k sN;have hm:tB (p.code[(k:Int).toNat]?.getD default) p.regs=true:=by
    refine f8 _ ?_;rw [aE,aA sN];exact bT _
   refine ⟨DW hs hm,?_⟩;rcases ih with ⟨rs,E,h1,h2,h3⟩ | ⟨h1,h2⟩
   · cases hd:xQ (p.code[(k:Int).toNat]?.getD default) rs with
     | some x =>
       obtain ⟨g1,E1,g2⟩:=NT (n:=k) hs h3 hm h2 hd;exact .inl ⟨_,E1,Dk (x:=[]) h1 hd,g1,g2⟩
     | none =>
       refine .inr ⟨?_,IX (n:=k) hs h3 hm h2 hd⟩;unfold wQ;rw [h1];simp only [eR,hd,lE]
   exact .inr ⟨Hu h1 1,IY h2⟩
theorem Zs {p:PV} {gs:List (List Int)} (hR:sP p=true) (hg:(gs.length:Int)=p.ins):tE (xW p) gs=tE p gs:=by
 obtain ⟨f1,f2,f3,f4,f5,f6,f7,f8⟩:=sT hR;obtain ⟨hs,ih⟩:=Zr hR hg p.code.length (aH _);have e:wQ (xW p) gs (xW p).code.length=yS (tR p p.code.length).2 (vE p gs):=by
  rw [zH _ _ _ (aH _),aZ];rfl
 unfold tE;rw [e];rcases ih with ⟨rs,E,h1,h2,h3⟩ | ⟨h1,h2⟩
 · rw [h1,h2];show some _=some _;congr 1;show (vV p (tR p p.code.length).1.held).map _=p.outs.map _;unfold vV;rw [oU];refine jF fun r hr=>?_;have hl:=hs.len;obtain ⟨a1,a2,a3⟩:=zF (l:=(tR p p.code.length).1.held) (r:=r) (by have:=f7 r hr;omega);show rs[(holder _ _).toNat]?.getD []=_;rw [h3.reg _ ⟨a1,by omega⟩,a3,h3.reg _ (f7 r hr)]
 rw [h1,h2];rfl
section
variable {B:Bs} {e:A9} {D:List Deferred} {H:Hp} {G:A3}
theorem retagH {a:Act} {w:World} (hh:A6 B ⟨e,D,H,G⟩ a w) (t t':Nat) {k:Option Nat} {o:Obj} (ht:H.get t=some (k,o)) (hn:t≠t') (hk:H.get t'=none∨True):A6 B ⟨e,D,(t',k,o) :: (t,none,o) :: H,G⟩ a w:=by
 have key:∀ i b o',Hp.get ((t',k,o) :: (t,none,o) :: H) i=some (some b,o')→(i=t'∧H.get t=some (some b,o'))∨(i≠t'∧i≠t∧H.get i=some (some b,o')):=fun i b o' hx=>by
  rw [bH] at hx;split at hx
  · rename_i hi;left;refine ⟨hi.symm,?_⟩;rw [ht];exact hx
  rename_i hi;rw [bH] at hx;split at hx
  · simp at hx
  rename_i hi2;exact .inr ⟨fun h=>hi h.symm,fun h=>hi2 h.symm,hx⟩
 refine ⟨hh.size,hh.defers,hh.env,⟨?_,?_,hh.mem.imm,?_⟩,hh.upd,?_,hh.le,hh.new⟩
 · intro i b o' hx;rcases key i b o' hx with ⟨_,h⟩ | ⟨_,_,h⟩
   · exact hh.mem.own _ b o' h
   exact hh.mem.own _ b o' h
 · intro i i' b o1 o2 hx hy;rcases key i b o1 hx with ⟨h1,h2⟩ | ⟨h1,h1',h2⟩ <;> rcases key i' b o2 hy with ⟨h3,h4⟩ | ⟨h3,h3',h4⟩
   · rw [h1,h3]
   · exact absurd (hh.mem.one _ _ b _ _ h2 h4).symm h3'
   · exact absurd (hh.mem.one _ _ b _ _ h2 h4) h1'
   exact hh.mem.one _ _ b _ _ h2 h4
 · intro i b o' hx;rcases key i b o' hx with ⟨_,h⟩ | ⟨_,_,h⟩
   · exact hh.mem.off _ b o' h
   exact hh.mem.off _ b o' h
 intro i b o' hx;rcases key i b o' hx with ⟨_,h⟩ | ⟨_,_,h⟩
 · exact hh.mine _ b o' h
 exact hh.mine _ b o' h
theorem Ar.retag {x:Exit} {Q:Exit→Act→World→Prop} (t t':Nat) {k:Option Nat} {o:Obj} (ht:H.get t=some (k,o)) (hn:Nat.beq t t'=false) (h:Ar Q x B ⟨e,D,(t',k,o) :: (t,none,o) :: H,G⟩):Ar Q x B ⟨e,D,H,G⟩:=
 fun a w hh=>h a w (retagH hh t t' ht (fun e=>by subst e;simp at hn) (.inr trivial))
end
section
attribute [local irreducible] No pw uJ p2
end
section
attribute [local irreducible] No pw uJ p2
def XV (m N:Nat) (rs:List (List Int)):Prop:=∀ zs∈rs,zs.length=N∧Go.Sl.Below m zs
end
def B6 (G:A3) (l:List IV) (zs:List Int):Prop:=l.length=zs.length∧∀ i:Nat,i<l.length→C1 G (l[i]?.getD default) (zs[i]?.getD 0)
theorem B6.up {G G':A3} {l:List IV} {zs:List Int} (h:B6 G l zs) (hl:G.le G'):B6 G' l zs:=⟨h.1,fun i hi=>(h.2 i hi).up hl⟩
theorem B6.at {G:A3} {l:List IV} {zs:List Int} (h:B6 G l zs) {k:Int} (hk:0≤k∧k<l.length):C1 G (l[k.toNat]?.getD default) (zs[k.toNat]?.getD 0):=h.2 _ sN
theorem B6.set {G:A3} {l:List IV} {zs:List Int} (h:B6 G l zs) (k:Nat) {x:IV} {z:Int} (hx:C1 G x z):B6 G (l.set k x) (zs.set k z):=by
 refine ⟨by rw [aG,aG];exact h.1,fun i hi=>?_⟩;rw [aG] at hi;rw [cF,cF];have h1:=h.1;by_cases hk:k=i
 · subst hk;rw [aF rfl,aF rfl,aF hi,aF (by omega)];exact hx
 rw [aD hk,aD hk];exact h.2 i hi
theorem DX (G:A3) (n:Nat):B6 G (List.replicate n (default:IV)) (List.replicate n 0):=by
 refine ⟨by rw [aJ,aJ],fun i hi=>?_⟩;rw [aJ] at hi;rw [fS,fS,aF hi,aF hi];exact C1.zero G
abbrev rO:=@DX
def Below (m:Nat) (zs:List Int):Prop:=∀ z∈zs,(z.natAbs:Int)<pb m
theorem Below.at {m:Nat} {zs:List Int} (h:Below m zs) (k:Nat):((zs[k]?.getD 0).natAbs:Int)<pb m:=by
 rcases aK k zs.length with h1 | h1
 · rw [aA h1];exact h _ (bT h1)
 rw [bZ h1];exact yQ m
theorem XW:((1:Int).natAbs:Int)<pb 1:=by unfold pb;decide
theorem XX (n:Nat):p2 n=((2 ^ n:Nat):Int):=rfl
theorem Po {z:Int}:Zk z=0↔z=0:=by
 unfold Zk;split
 · simp [*]
 split <;> omega
theorem DY {x y:Int} (hy:y≠0):((x % y).natAbs:Int)<y.natAbs:=by
 have e1:=lG x hy;rcases Int.lt_or_gt_of_ne hy with h | h
 · have e2:=gE x (show 0 < -y by omega);rw [Int.emod_neg] at e2;omega
 have e2:=gE x h;omega
section
attribute [local irreducible] sQ pb uJ tT p2
theorem gv (G:A3) (n:Nat) (hn:n≤64) :
 Does Tryz.prog 221 [.int .i64 (n:Int)] G [] (fun v G' Ho=>∃ r:IV,v=.agg (A2.enc r).toArray∧C1 G' r (p2 n)∧Ho=[]):=by
 refine D0 Tryz.func221 Tryz.ntmps221 fun w=>?_;refine aI 2 [] ?_;refine aO 0 U T.zero125 fun b1=>?_;refine aL 4 [] ?_;refine bV 1 U (RH _ _ sN) fun v1 G1 Ho1 hle1 hp=>?_;obtain ⟨ro1,rfl,hro1,rfl⟩:=hp;refine aC 1 [] ?_;refine fO 7 U (show _=Value.int .i64 ((32*(n / 32)+n % 32:Nat):Int) by rw [oI]) ?_;refine bV 20 U (gn _ ro1 1 (n / 32) (n % 32) hro1 (bO (jI hro1 XW) sY) (Nat.mod_lt _ sY) sN) fun v9 G9 Ho9 hle9 hp=>?_;obtain ⟨r9,rfl,hr9,rfl⟩:=hp;refine aC 3 [] ?_;refine aO 1 U T.zero125 fun b2=>?_;refine aS 11 [1,1,0] ?_;refine cH (.inr U) (Ho:=Hp.only _ []) U (.agg 0 U U T.agg125) (aV _ _) ?_;exact ⟨r9,U,C1.out hr9 (by rw [oI,dP,XX]),U⟩
end
def near (a b:Int):Prop:=-16≤a∧a≤16∧-16≤b∧b≤16
instance (a b:Int):Decidable (near a b):=inferInstanceAs (Decidable (_∧_))
theorem ay (G:A3) (n:Int):Does Tryz.prog 128 [.int .i64 n] G [] (fun v G' Ho=>v=.bool (decide (-16≤n∧n≤16))∧G'=G∧Ho=[]):=by
 refine D0 Tryz.func128 Tryz.ntmps128 fun w=>?_;refine aI 10 [] ?_;apply bX 3 5 8 U;intro hg1;refine aC 5 [] ?_;exact dB 3 0;intro hg1;refine aC 3 [] ?_;exact dB 3 0;refine aS 4 [] ?_;refine cV ?_;exact ⟨U,U,U⟩
theorem gw (G:A3) (n:Int) (h:-9223372036854775807≤n):Does Tryz.prog 264 [.int .i64 n] G [] (fun v G' Ho=>v=.int .i64 (n.natAbs:Int)∧G'=G∧Ho=[]):=by
 refine D0 Tryz.func264 Tryz.ntmps264 fun w=>?_;refine bI 12 [] ?_;refine cW (fun hc1=>?_) fun hc1=>?_;refine aI 3 [] ?_;refine aQ (qX U sN) ?_;refine aS 5 [] ?_;refine cV ?_;rotate_left;refine bE 9 [] ?_;refine cV ?_;rotate_left
 · exact ⟨by congr 1;omega,U,U⟩
 exact ⟨by congr 1;omega,U,U⟩
theorem az (G:A3) (a b:Int) (h1:-4611686018427387904≤a∧a≤4611686018427387904) (h2:-4611686018427387904≤b∧b≤4611686018427387904):Does Tryz.prog 227 [.int .i64 a,.int .i64 b] G [] (fun v G' Ho=>v=.int .i64 (Int.gcd a b:Int)∧G'=G∧Ho=[]):=by
 refine D0 Tryz.func227 Tryz.ntmps227 fun w=>?_;refine bI 7 [] ?_;refine gX (ι:=Int×Int) (fun (x,y)=>([(0,.int .i64 x),(1,.int .i64 y),(4,.int .i64 0)],[])) (fun (x,y)=>Int.gcd x y=Int.gcd a b∧(-4611686018427387904≤x∧x≤4611686018427387904)∧(-4611686018427387904≤y∧y≤4611686018427387904)) (fun (x,y)=>y.natAbs) ((a,b)) (⟨U,h1,h2⟩) fun ⟨x,y⟩=>fun hk=>?_;obtain ⟨hg,hx,hy⟩:=hk;refine bI 7 [] ?_;refine cW (fun hc1=>?_) fun hc1=>?_;refine bI 3 [] ?_;refine dE [] [] T.mixed [[0],[1],[2]] ?_;refine dW 3 [] U (sD U U sN) ?_;refine dK [[4],[5]] ?_;refine dG ?_;refine sB ?_;rotate_left;refine aI 8 [] ?_;refine cI U (gw _ _ sN) ?_;refine aS 4 [] ?_;refine cV ?_;rotate_left
 · have e:=Int.natAbs_tmod x y;have hyp:0<y.natAbs:=sN;have e2:=Nat.mod_lt x.natAbs hyp;have e3:=Nat.mod_le x.natAbs y.natAbs;refine cK ((y,x.tmod y)) ?_ ?_
   · refine ⟨?_,hy,by omega⟩;rw [←hg];show Nat.gcd y.natAbs (x.tmod y).natAbs=Nat.gcd x.natAbs y.natAbs;rw [e,Nat.gcd_comm,←Nat.gcd_rec,Nat.gcd_comm]
   show (x.tmod y).natAbs<y.natAbs;omega
 refine ⟨?_,U,U⟩;rw [←hg];have e:y=0:=sN;subst e;rw [Int.gcd_zero_right]
theorem c72 (G:A3) (a b:Int):Does Tryz.prog 72 [.agg #[.int .i64 a,.int .i64 b]] G [] (fun v G' Ho=>v=.bool (decide (near a b))∧G'=G∧Ho=[]):=by
 refine D0 Tryz.func72 Tryz.ntmps72 fun w=>?_;refine aI 2 [] ?_;refine dV 0 fun b1=>?_;refine aL 7 [0] ?_;refine cI U (by apply ay <;> first | assumption | omega | rfl) ?_;refine aC 1 [] ?_;apply bX 4 6 10 U;intro hg1;refine aC 5 [0] ?_;refine cI U (by apply ay <;> first | assumption | omega | rfl) ?_;refine aC 1 [] ?_;exact dB 4 0;intro hg1;refine aC 4 [] ?_;exact dB 4 0;refine aS 4 [] ?_;refine cV ?_;exact ⟨by congr 1;exact decide_eq_decide.mpr (by unfold near;omega),U,U⟩
theorem bd (G:A3) (a b:Int):Does Tryz.prog 105 [.agg #[.int .i64 a,.int .i64 b]] G [] (fun v G' Ho=>v=.bool (decide (a=0∧b=0))∧G'=G∧Ho=[]):=by
 refine D0 Tryz.func105 Tryz.ntmps105 fun w=>?_;refine aI 2 [] ?_;refine dV 0 fun b1=>?_;refine aL 6 [0] ?_;refine aQ (bP (cs:=[_,_]) T.st52 U U U) ?_;refine aQ (Nu [_,_] [_,_] T.ai52 U U U U) ?_;refine aS 4 [] ?_;refine cV ?_;exact ⟨by congr 1;exact decide_eq_decide.mpr tU,U,U⟩
def vH (a b:Int):Int:=if b<0∨(b=0∧a<0) then -(Int.gcd a b:Int) else (Int.gcd a b:Int)
def FT (a b:Int):Int×Int:=if a=0∧b=0 then (a,b) else (a.tdiv (vH a b),b.tdiv (vH a b))
theorem xE (a g:Int):-(a.natAbs:Int)≤a.tdiv g∧a.tdiv g≤a.natAbs:=by
 have h:(a.tdiv g).natAbs=a.natAbs / g.natAbs:=mS a g;have h2:=Nat.div_le_self a.natAbs g.natAbs;omega
theorem be (G:A3) (a b:Int) (h1:-4611686018427387904≤a∧a≤4611686018427387904) (h2:-4611686018427387904≤b∧b≤4611686018427387904):Does Tryz.prog 201 [.agg #[.int .i64 a,.int .i64 b]] G [] (fun v G' Ho=>v=.agg #[.int .i64 (FT a b).1,.int .i64 (FT a b).2]∧G'=G∧Ho=[]):=by
 refine D0 Tryz.func201 Tryz.ntmps201 fun w=>?_;have hga:=sL a b;have hgb:=rX a b;have hgm:(Int.gcd a b:Int)≤4611686018427387904:=by
  by_cases h:a=0
  · subst h;rw [Int.gcd_zero_left];omega
  have:=Int.le_of_dvd (show 0<(a.natAbs:Int) by omega) (Int.dvd_natAbs.mpr hga);omega
 have q1:=xE a (Int.gcd a b:Int);have q2:=xE b (Int.gcd a b:Int);have q3:=xE a (-(Int.gcd a b:Int));have q4:=xE b (-(Int.gcd a b:Int));refine aI 2 [] ?_;refine dV 0 fun b1=>?_;refine aO 1 U T.zero52 fun b2=>?_;refine aL 8 [0,0] ?_;refine cI U (az _ _ _ sN sN) ?_;refine bB 12 [] ?_;refine cW (fun hc1=>?_) fun hc1=>?_;refine bE 9 [0,1] ?_;refine cH (.inr U) (Ho:=Hp.only _ []) U (.agg 1 U U T.agg52) (aV _ _) ?_;rotate_left;refine bI 9 [0] ?_;refine cW (fun hc2=>?_) fun hc2=>?_;refine aI 5 [1] ?_;refine aQ (qX U sN) ?_;refine bB 5 [] ?_;refine dE [0,1] [(1,9)] T.mixed [[0],[1,0],[2]] ?_;refine dW 3 [] U (oH U U sN sN) ?_;refine dK [[4],[5,0],[6]] ?_;refine dW 7 [] U (oH U U sN sN) ?_;refine dW 8 [] U (bP (cs:=[_,_]) T.st52 U U U) ?_;refine bQ 9 ?_;refine aC 1 [1] ?_;refine fD ?_;refine eE 2 [] ?_;refine cH (.inr U) (Ho:=Hp.only _ []) U (.agg 1 U U T.agg52) (aV _ _) ?_;rotate_left;refine aI 5 [0] ?_;apply bX 4 20 24 U;intro hg1;refine aC 7 [0] ?_;exact dB 4 0;intro hg1;refine aC 4 [] ?_;exact dB 4 0;refine bB 3 [] ?_;refine cW (fun hc3=>?_) fun hc3=>?_;refine aI 2 [] ?_;refine aQ (qX U sN) ?_;refine bB 5 [] ?_;refine dE [0,1] [(1,9)] T.mixed [[0],[1,0],[2]] ?_;refine dW 3 [] U (oH U U sN sN) ?_;refine dK [[4],[5,0],[6]] ?_;refine dW 7 [] U (oH U U sN sN) ?_;refine dW 8 [] U (bP (cs:=[_,_]) T.st52 U U U) ?_;refine bQ 9 ?_;refine aC 1 [1] ?_;refine fD ?_;refine eE 2 [] ?_;refine cH (.inr U) (Ho:=Hp.only _ []) U (.agg 1 U U T.agg52) (aV _ _) ?_;rotate_left;refine bI 4 [] ?_;refine dE [0,1] [(1,9)] T.mixed [[0],[1,0],[2]] ?_;refine dW 3 [] U (oH U U sN sN) ?_;refine dK [[4],[5,0],[6]] ?_;refine dW 7 [] U (rH U U sN) ?_;refine dW 8 [] U (bP (cs:=[_,_]) T.st52 U U U) ?_;refine bQ 9 ?_;refine aC 1 [1] ?_;refine fD ?_;refine eE 2 [] ?_;refine cH (.inr U) (Ho:=Hp.only _ []) U (.agg 1 U U T.agg52) (aV _ _) ?_;rotate_left
 · obtain ⟨ea,eb⟩:=Int.gcd_eq_zero_iff.mp (show Int.gcd a b=0 by omega);exact ⟨by unfold FT;rw [aF ⟨ea,eb⟩],U,U⟩
 · have hn:¬(a=0∧b=0):=sN;exact ⟨by unfold FT vH;rw [aD hn,aF (by omega)],U,U⟩
 · have hn:¬(a=0∧b=0):=sN;exact ⟨by unfold FT vH;rw [aD hn,aF (by omega)],U,U⟩
 have hn:¬(a=0∧b=0):=fun h=>hc1 (by rw [h.1,h.2];rfl);exact ⟨by unfold FT vH;rw [aD hn,aD (by omega),Int.tdiv_eq_ediv_of_nonneg (a:=b) sN],U,U⟩
def same (a b c d:Int):Prop:=FT a b=FT c d
instance (a b c d:Int):Decidable (same a b c d):=inferInstanceAs (Decidable (_=_))
theorem gx (G:A3) (a b c d:Int):Does Tryz.prog 154 [.agg #[.int .i64 a,.int .i64 b],.agg #[.int .i64 c,.int .i64 d]] G [] (fun v G' Ho=>v=.tuple #[.bool (decide (near a b∧near c d∧same a b c d)),.int .i64 (if near a b∧near c d then 0 else 2)]∧G'=G∧Ho=[]):=by
 refine D0 Tryz.func154 Tryz.ntmps154 fun w=>?_;refine aI 2 [] ?_;refine dV 0 fun b1=>?_;refine dV 1 fun b2=>?_;refine aL 8 [0] ?_;refine cI U Iu ?_;refine aQ (fP U) ?_;refine aC 1 [] ?_;apply dS 4 9 13 U;intro hg1;refine aC 3 [1] ?_;refine cI U Iu ?_;refine aC 1 [] ?_;refine aQ (fP U) ?_;refine aC 1 [] ?_;exact dB 4 0;intro hg1;refine aC 4 [] ?_;exact dB 4 0;refine bB 2 [] ?_;refine cW (fun hc1=>?_) fun hc1=>?_;refine bE 8 [] ?_;refine gY ?_;rotate_left;refine bI 3 [] ?_;refine dE [0,1] [] T.mixed [[0,0],[2,1]] ?_;refine bQ 1 ?_;refine cI U (be _ _ _ Oo Oo) ?_;refine cS 3 ?_;refine cI U (be _ _ _ Oo Oo) ?_;refine bC ?_;refine dW 4 [] U (Nu [_,_] [_,_] T.ai52 U U U U) ?_;refine dK [[5],[6]] ?_;refine dG ?_;refine eE 2 [] ?_;refine gY ?_;rotate_left
 · exact ⟨by rw [aD (by unfold near at *;omega),cA (fun h=>absurd (And.intro h.1 h.2.1) Oo)],rfl,rfl⟩
 refine ⟨?_,U,U⟩;rw [aF (by unfold near at *;omega)];congr 4;exact decide_eq_decide.mpr (by unfold same near at *;rw [Prod.ext_iff];simp;omega)
theorem FU {a b c d:Int} (h:near a b) (k:near c d):-256≤a*d∧a*d≤256:=by
 unfold near at *;have h1:(a*d).natAbs≤16*16:=by rw [fZ];exact gQ sN sN
 omega
theorem gy (G:A3) (a b c d:Int):Does Tryz.prog 229 [.agg #[.int .i64 a,.int .i64 b],.agg #[.int .i64 c,.int .i64 d]] G [] (fun v G' Ho=>v=.tuple #[.int .i64 (if near a b∧near c d then a*d - c*b else 0),.int .i64 (if near a b∧near c d then 0 else 2)]∧G'=G∧Ho=[]):=by
 refine D0 Tryz.func229 Tryz.ntmps229 fun w=>?_;refine aI 2 [] ?_;refine dV 0 fun b1=>?_;refine dV 1 fun b2=>?_;refine aL 8 [0] ?_;refine cI U Iu ?_;refine aQ (fP U) ?_;refine aC 1 [] ?_;apply dS 4 9 13 U;intro hg1;refine aC 3 [1] ?_;refine cI U Iu ?_;refine aC 1 [] ?_;refine aQ (fP U) ?_;refine aC 1 [] ?_;exact dB 4 0;intro hg1;refine aC 4 [] ?_;exact dB 4 0;refine bB 2 [] ?_;refine cW (fun hc1=>?_) fun hc1=>?_;refine bE 8 [] ?_;refine gY ?_;rotate_left;refine aI 8 [0,1] ?_;refine aQ (mH U U) ?_;refine aC 4 [1,0] ?_;refine aQ (mH U U) ?_;refine aQ (Ix U U) ?_;refine aS 5 [] ?_;refine gY ?_;rotate_left
 · exact ⟨by rw [aD (by unfold near at *;omega),aD (by unfold near at *;omega)],U,U⟩
 have hn:near a b∧near c d:=Oo;have m1:=FU hn.1 hn.2;have m2:=FU hn.2 hn.1;exact ⟨by rw [aF hn,aF hn,jN (a*d) sN,jN (c*b) sN,jN _ sN],U,U⟩
def Wj (p q:R2):Prop:=near p.a p.b∧near q.a q.b∧same p.a p.b q.a q.b
def Twin (l:List R2):Prop:=∃ j,j<l.length∧∃ i,i<j∧Wj (l[i]?.getD default) (l[j]?.getD default)
theorem bg (G:A3) (a:Option Addr) (c:Nat) (l:List R2) (ha:Arr G a l) (h1:l.length≤1048576) (hc:l.length≤c):Does Tryz.prog 106 [.slice a l.length c] G [] (fun v G' Ho=>∃ (i j:Int) (b:Bool),v=.tuple #[.int .i64 i,.int .i64 j,.bool b]∧(b=true↔Twin l)∧G'=G∧Ho=[]):=by
 refine D0 Tryz.func106 Tryz.ntmps106 fun w=>?_;refine bI 16 [] ?_;refine gX (ι:=Nat) (fun j=>([(13,.int .i64 (j:Int)),(12,.int .i64 (l.length:Int)),(11,.slice a (List.length l) c),(0,.slice a (List.length l) c)],[])) (fun j=>j≤l.length∧(∀ j',j'<j→∀ i,i<j'→¬Wj (l[i]?.getD default) (l[j']?.getD default))) (fun j=>l.length - j) (0) (⟨aM _,fun j' h=>absurd h sN⟩) fun j=>fun hk=>?_;obtain ⟨hj,hno⟩:=hk;refine bI 6 [] ?_;refine cW (fun hc1=>?_) fun hc1=>?_;refine aI 7 [] ?_;refine fR (α:=R2) T.sl22 ?_;refine lL T.agg52 ?_;refine aO 0 U T.zero52 fun b1=>?_;refine aL 8 [0] ?_;refine aQ (Nt T.sl22 U U sN) ?_;refine bB 5 [] ?_;rotate_left;refine bE 13 [] ?_;refine kQ ?_;rotate_left
 · have haj:Arr G (C7 a c 0 2) (l.take j):=Jg ha j;have ej:(l.take j).length=j:=by rw [bG];omega
   refine iV 20 U (show _=Value.slice (C7 a c 0 2) (l.take j).length c by rw [ej];rfl) ?_;refine gX (ι:=Nat) (fun i=>([(22,.int .i64 (i:Int)),(0,.slice a l.length c),(11,.slice a l.length c),(12,.int .i64 (l.length:Int)),(20,.slice (Go.Sl.C7 a c 0 2) (List.length (List.take j l)) c),(21,.int .i64 (↑(Int.toNat (↑j:Int)):Int)),(5,.int .i64 (↑j:Int)),(6,.pointer (some ⟨b1,0,none⟩)),(13,.int .i64 (↑j:Int))],[(0,some b1,.cells (List.toArray (A2.enc (Option.getD l[Int.toNat (↑j:Int)]? default))) 52)])) (fun i=>i≤j∧(∀ i',i'<i→¬Wj (l[i']?.getD default) (l[j]?.getD default))) (fun i=>j - i) (0) (⟨aM _,fun i' h=>absurd h sN⟩) fun i=>fun hk=>?_;obtain ⟨hi,hni⟩:=hk;have eti:i<j→(l.take j)[(i:Int).toNat]?.getD default=l[i]?.getD default:=fun h=>by rw [mW,aF (by omega)];rfl
   have etj:l[(j:Int).toNat]?.getD default=l[j]?.getD default:=rfl;refine bI 6 [] ?_;refine cW (fun hc2=>?_) fun hc2=>?_;refine aI 7 [] ?_;refine fR (α:=R2) T.sl22 ?_;refine lL T.agg52 ?_;refine aO 1 U T.zero52 fun b2=>?_;refine aL 8 [1,1,0] ?_;refine cI U (by apply gx <;> first | assumption | omega | rfl) ?_;refine bB 12 [] ?_;refine cW (fun hc3=>?_) fun hc3=>?_;refine bE 19 [] ?_;refine kQ ?_;rotate_left;refine bE 7 [] ?_;rotate_left;refine bE 10 [] ?_;rotate_left
   · rw [eti sN] at hc3;exact ⟨_,_,true,U,⟨fun _=>⟨j,by omega,i,by omega,hc3⟩,fun _=>rfl⟩,U,U⟩
   · refine cJ 22 U (show _=Value.int .i64 ((i+1:Nat):Int) from U) ?_;refine cK (i+1) ?_ ?_
     · refine ⟨by omega,fun i' h2=>?_⟩;rcases aK i' i with h | h
       · exact hni i' h
       have e:i'=i:=sN;subst e;intro hq;rw [eti sN] at hc3;exact hc3 hq
     omega
   refine cJ 13 U (show _=Value.int .i64 ((j+1:Nat):Int) from U) ?_;refine cK (j+1) ?_ ?_
   · refine ⟨by omega,fun j' h1 i h2=>?_⟩;rcases aK j' j with h | h
     · exact hno j' h i h2
     have e:j'=j:=sN;subst e;exact hni i sN
   omega
 refine ⟨0,0,false,U,⟨fun h=>absurd h sY,fun ⟨j',h1,i',h2,h3⟩=>absurd h3 (hno j' sN i' h2)⟩,U,U⟩
def Nz (p:R2):Prop:=near p.a p.b∧¬(p.a=0∧p.b=0)
def tW (l:List R2):Prop:=1≤l.length∧l.length≤15∧(∀ i,i<l.length→Nz (l[i]?.getD default))∧¬Twin l
theorem gz (G:A3) (a:Option Addr) (c:Nat) (l:List R2) (ha:Arr G a l) (h1:l.length≤1048576) (hc:l.length≤c):Does Tryz.prog 144 [.slice a l.length c] G [] (fun v G' Ho=>∃ b:Bool,v=.bool b∧(b=true↔tW l)∧G'=G∧Ho=[]):=by
 refine D0 Tryz.func144 Tryz.ntmps144 fun w=>?_;refine aI 12 [] ?_;apply dS 4 11 15 U;intro hg1;refine aC 7 [] ?_;exact dB 4 0;intro hg1;refine aC 4 [] ?_;exact dB 4 0;refine bB 2 [] ?_;refine cW (fun hc1=>?_) fun hc1=>?_;refine bE 7 [] ?_;refine cV ?_;rotate_left;refine bI 11 [] ?_;rotate_left
 · exact ⟨false,U,⟨fun h=>absurd h sY,fun h=>absurd h.1 (by have:=h.2.1;omega)⟩,U,U⟩
 refine gX (ι:=Nat) (fun j=>([(18,.int .i64 (j:Int)),(0,.slice a l.length c),(17,.int .i64 (l.length:Int)),(16,.slice a (List.length l) c)],[])) (fun j=>j≤l.length∧(∀ i,i<j→Nz (l[i]?.getD default))) (fun j=>l.length - j) (0) (⟨aM _,fun j' h=>absurd h sN⟩) fun j=>fun hk=>?_;obtain ⟨hj,hno⟩:=hk;refine bI 6 [] ?_;refine cW (fun hc2=>?_) fun hc2=>?_;refine aI 6 [] ?_;refine fR (α:=R2) T.sl22 ?_;refine lL T.agg52 ?_;refine aO 0 U T.zero52 fun b1=>?_;refine aL 6 [0,0] ?_;refine cI U Iu ?_;refine aQ (fP U) ?_;refine aC 1 [] ?_;apply dS 3 25 28 U;intro hg1;refine aC 3 [0] ?_;refine cI U (by apply bd <;> first | assumption | omega | rfl) ?_;refine aC 1 [] ?_;exact dB 3 0;intro hg1;refine aC 3 [] ?_;exact dB 3 0;refine bB 2 [] ?_;refine cW (fun hc3=>?_) fun hc3=>?_;refine bE 11 [] ?_;refine cV ?_;rotate_left;refine bE 7 [] ?_;rotate_left;refine aI 8 [] ?_;refine bV 0 U (bg _ _ _ _ sO sN tY) fun v1 G1 Ho1 hle1 hp=>?_;obtain ⟨ti1,tj1,tb1,rfl,htb1,rfl,rfl⟩:=hp;refine aS 17 [] ?_;refine cV ?_;rotate_left
 · exact ⟨false,U,⟨fun h=>absurd h sY,fun h=>absurd (h.2.2.1 j sN) (by show ¬Nz (l[(j:Int).toNat]?.getD default);unfold Nz;unfold near at *;omega)⟩,U,U⟩
 · refine cJ 18 U (show _=Value.int .i64 ((j+1:Nat):Int) from U) ?_;refine cK (j+1) ?_ ?_
   · refine ⟨by omega,fun i' h2=>?_⟩;rcases aK i' j with h | h
     · exact hno i' h
     have e:i'=j:=sN;subst e;show Nz (l[(i':Int).toNat]?.getD default);unfold Nz;unfold near at *;omega
   omega
 refine ⟨!tb1,U,?_,U,U⟩;have e:(∀ i,i<l.length→Nz (l[i]?.getD default)):=fun i hi=>hno i sN;rw [sA,nM,ne_eq,htb1];exact ⟨fun h=>⟨by omega,by omega,e,h⟩,fun h=>h.2.2.2⟩
instance (a b c d:Int):Decidable (if (a=0∧b=0)∨(c=0∧d=0) then (a=0∧b=0)∧(c=0∧d=0) else a*d - c*b=0):=by split <;> infer_instance
def TH (a b c d:Int):Prop:=if (a=0∧b=0)∨(c=0∧d=0) then (a=0∧b=0)∧(c=0∧d=0) else a*d - c*b=0
instance (a b c d:Int):Decidable (TH a b c d):=inferInstanceAs (Decidable (if (a=0∧b=0)∨(c=0∧d=0) then (a=0∧b=0)∧(c=0∧d=0) else a*d - c*b=0))
theorem Jr {y g:Int} (h:y*g<0) (hg:g<0):0<y:=by
 rcases rW y 0 with h1 | h1 | h1
 · have:=Int.mul_pos_of_neg_of_neg h1 hg;omega
 · subst h1;rw [eN] at h;omega
 exact h1
theorem Hg {y g:Int} (h:0<y*g) (hg:0<g):0<y:=by
 rcases rW y 0 with h1 | h1 | h1
 · have:=Int.mul_neg_of_neg_of_pos h1 hg;omega
 · subst h1;rw [eN] at h;omega
 exact h1
theorem Li {a b:Int} (h:¬(a=0∧b=0)):∃ x y g:Int,FT a b=(x,y)∧g≠0∧x*g=a∧y*g=b∧Int.gcd x y=1∧(0<y∨(y=0∧0<x)):=by
 have hg0:0<Int.gcd a b:=by
  rcases gD (Int.gcd a b) with h0 | h0
  · exact absurd (Int.gcd_eq_zero_iff.mp h0) h
  exact h0
 have hgn:vH a b≠0:=by unfold vH;split <;> omega
 have habs:(vH a b).natAbs=Int.gcd a b:=by unfold vH;split <;> omega
 have d1:vH a b ∣ a:=Int.natAbs_dvd.mp (by rw [habs];exact sL a b);have d2:vH a b ∣ b:=Int.natAbs_dvd.mp (by rw [habs];exact rX a b);have e1:=kK d1;have e2:=kK d2;refine ⟨a.tdiv (vH a b),b.tdiv (vH a b),vH a b,by unfold FT;rw [aD h],hgn,e1,e2,?_,?_⟩
 · show Nat.gcd (a.tdiv (vH a b)).natAbs (b.tdiv (vH a b)).natAbs=1;rw [show (a.tdiv (vH a b)).natAbs=a.natAbs / (vH a b).natAbs from mS _ _,show (b.tdiv (vH a b)).natAbs=b.natAbs / (vH a b).natAbs from mS _ _,habs];exact Nat.coprime_div_gcd_div_gcd hg0
 generalize hx:a.tdiv (vH a b)=x at *;generalize hy:b.tdiv (vH a b)=y at *;rcases rW b 0 with hb | hb | hb
 · left;refine Jr (g:=vH a b) sN ?_;unfold vH;rw [aF (.inl hb)];omega
 · right;have hy0:y=0:=by
    rcases Int.mul_eq_zero.mp (show y*vH a b=0 by omega) with h1 | h1
    · exact h1
    exact absurd h1 hgn
   refine ⟨hy0,?_⟩;rcases (show a<0∨0≤a by omega) with ha | ha
   · refine Jr (g:=vH a b) sN ?_;unfold vH;rw [aF (.inr ⟨hb,ha⟩)];omega
   refine Hg (g:=vH a b) sN ?_;unfold vH;rw [aD (by omega)];omega
 left;refine Hg (g:=vH a b) sN ?_;unfold vH;rw [aD (by omega)];omega
theorem JA {x y u v:Int} (h1:Int.gcd x y=1) (h2:Int.gcd u v=1) (s1:0<y∨(y=0∧0<x)) (s2:0<v∨(v=0∧0<u)) (h:x*v=u*y):x=u∧y=v:=by
 have e:x.natAbs*v.natAbs=u.natAbs*y.natAbs:=by rw [←fZ,←fZ,h]
 have c1:Nat.Coprime x.natAbs y.natAbs:=h1;have c2:Nat.Coprime u.natAbs v.natAbs:=h2;have p1:x.natAbs ∣ u.natAbs:=c1.dvd_of_dvd_mul_right (e▸Nat.dvd_mul_right _ _);have p2:u.natAbs ∣ x.natAbs:=c2.dvd_of_dvd_mul_right (e▸Nat.dvd_mul_right _ _);have p3:y.natAbs ∣ v.natAbs:=c1.symm.dvd_of_dvd_mul_left (e▸Nat.dvd_mul_left _ _);have p4:v.natAbs ∣ y.natAbs:=c2.symm.dvd_of_dvd_mul_left (e▸Nat.dvd_mul_left _ _);have q1:=Nat.dvd_antisymm p1 p2;have q2:=Nat.dvd_antisymm p3 p4;have hyv:y=v:=sN;refine ⟨?_,hyv⟩;subst hyv;rcases s1 with s | s
 · exact pC sN h
 omega
theorem NU (a b c d:Int):same a b c d↔TH a b c d:=by
 unfold same TH;by_cases hp:a=0∧b=0
 · by_cases hq:c=0∧d=0
   · rw [aF (.inl hp)];obtain ⟨rfl,rfl⟩:=hp;obtain ⟨rfl,rfl⟩:=hq;exact ⟨fun _=>⟨⟨U,U⟩,U,U⟩,fun _=>rfl⟩
   rw [aF (.inl hp)];refine ⟨fun h=>?_,fun h=>absurd h.2 hq⟩;obtain ⟨u,v,k,e2,hk,_,_,_,s2⟩:=Li hq;have e1:FT a b=(0,0):=by unfold FT;rw [aF hp,hp.1,hp.2]
   rw [e1,e2] at h;injection h with h3 h4;omega
 obtain ⟨x,y,g,e1,hg,f1,f2,c1,s1⟩:=Li hp;by_cases hq:c=0∧d=0
 · rw [aF (.inr hq)];refine ⟨fun h=>?_,fun h=>absurd h.1 hp⟩;have e2:FT c d=(0,0):=by unfold FT;rw [aF hq,hq.1,hq.2]
   rw [e1,e2] at h;injection h with h3 h4;omega
 obtain ⟨u,v,k,e2,hk,f3,f4,c2,s2⟩:=Li hq;rw [aD (fun h=>h.elim hp hq),e1,e2];have key:a*d - c*b=(x*v - u*y)*(g*k):=by
  rw [←f1,←f2,←f3,←f4,kR];congr 1 <;> ac_rfl
 constructor
 · intro h;injection h with h3 h4;rw [key,h3,h4,rV,eN]
 intro h;rw [key] at h;have hgk:g*k≠0:=fun h0=>(Int.mul_eq_zero.mp h0).elim hg hk;have h5:x*v - u*y=0:=(Int.mul_eq_zero.mp h).resolve_right hgk;obtain ⟨r1,r2⟩:=JA c1 c2 s1 s2 sN;rw [r1,r2]
section
attribute [local irreducible] sQ pb uJ tT p2
theorem bj (G:A3) (x:IV) (z n:Int) (hx:C1 G x z) (h1:x.n≤536870912) (hn:-9223372036854775808≤n∧n≤9223372036854775807) :
 Does Tryz.prog 207 [.agg (A2.enc x).toArray,.int .i64 n] G [] (fun v G' Ho=>∃ r:IV,v=.agg (A2.enc r).toArray∧C1 G' r (z*n)∧Ho=[]):=by
 have hn3:(n.natAbs:Int)<pb 3:=by
  have e:pb 3=79228162514264337593543950336:=by unfold pb;decide
  omega
 obtain ⟨n1,a,k1,ca⟩:=x;refine D0 Tryz.func207 Tryz.ntmps207 fun w=>?_;refine aI 2 [] ?_;refine dV 0 fun b1=>?_;refine aO 1 U T.zero125 fun b2=>?_;refine bB 3 [] ?_;refine dE [0,1] [(1,4)] T.mixed [[0,0],[1]] ?_;refine bQ 2 ?_;refine bV 2 U (RH _ _ sN) fun v1 G1 Ho1 hle1 hp=>?_;obtain ⟨ro,rfl,hro,rfl⟩:=hp;replace hx:=hx.up hle1;refine cS 3 ?_;refine bV 2 U (gk _ _ _ _ _ hx hro h1 (bO (jI hro hn3) sY)) fun v2 G2 Ho2 hle2 hp=>?_;obtain ⟨rm,rfl,hrm,rfl⟩:=hp;replace hro:=hro.up hle2;replace hx:=hx.up hle2;refine cS 4 ?_;refine aC 1 [1] ?_;refine fD ?_;refine eE 2 [] ?_;refine cH (.inr U) (Ho:=Hp.only _ []) U (.agg 1 U U T.agg125) (aV _ _) ?_;exact ⟨rm,U,hrm,U⟩
end
section
attribute [local irreducible] sQ pb uJ tT p2
def yC (a b:Int) (n:Nat):List Int:=(List.range n).map fun j=>a ^ j*b ^ (n - 1 - j)
theorem bn (G:A3) (a b:Int) (n:Nat) (hp:near a b) (hn:n≤15) :
 Does Tryz.prog 157 [.agg #[.int .i64 a,.int .i64 b],.int .i64 n] G [] (fun v G' Ho=>∃ (s:Option Addr) (r:List IV) (c':Nat),v=.tuple #[.slice s r.length c',.int .i64 0]∧Arr G' s r∧B6 G' r (yC a b n)∧r.length≤c'∧Ho=[]):=by
 refine D0 Tryz.func157 Tryz.ntmps157 fun w=>?_;have hpn:¬((¬near a b∨(n:Int)<0)∨16<(n:Int)):=Oo;refine aI 2 [] ?_;refine dV 0 fun b1=>?_;refine aL 8 [0] ?_;refine cI U Iu ?_;refine aQ (fP U) ?_;refine aC 1 [] ?_;apply dS 3 14 17 U;intro hg1;refine aC 5 [] ?_;exact dB 3 0;intro hg1;refine aC 3 [] ?_;exact dB 3 0;refine aC 1 [] ?_;apply dS 3 18 21 U;intro hg1;refine aC 5 [] ?_;exact dB 3 0;intro hg1;refine aC 3 [] ?_;exact dB 3 0;refine aL 8 [0] ?_;refine gG (α:=IV) 1 U T.sl68 T.el125 U U sN sN fun b2=>?_;refine aL 5 [] ?_;refine bV 2 U (RH _ 1 sY) fun v1 G1 Ho1 hle1 hp=>?_;obtain ⟨ro1,rfl,hro1,rfl⟩:=hp;refine bV 2 U (RH _ 1 sY) fun v2 G2 Ho2 hle2 hp=>?_;obtain ⟨ro2,rfl,hro2,rfl⟩:=hp;replace hro1:=hro1.up hle2;refine aO 2 U T.zero125 fun b3=>?_;refine aO 3 U T.zero125 fun b4=>?_;refine bB 13 [2,3] ?_;refine iV 6 U (show _=Value.slice (some ⟨b2,0,none⟩) (List.replicate n (default:IV)).length n by simp) ?_;have e2:(List.replicate n (default:IV)).length=n:=aJ ..;refine jZ (ι:=Nat×A3×List IV×IV×(Option Addr×Nat×List Value)) (fun (k,Gx,r,x,(o,d,j))=>([(28,.int .i64 (k:Int)),(6,.slice o r.length d),(27,.int .i64 (↑(List.length (List.replicate (Int.toNat (↑n:Int)) default)):Int)),(8,.pointer (some (Addr.mk b4 0 none))),(7,.pointer (some (Addr.mk b3 0 none))),(5,.int .i64 0),(4,.slice none 0 0),(2,.pointer (some ⟨b1,0,none⟩)),(1,.int .i64 (↑n:Int))],[(1,o.map (·.block),Row 125 r j),(2,some b3,.cells (A2.enc x).toArray 125),(3,some b4,.cells (List.toArray (A2.enc ro2)) 125),(0,some b1,.cells #[.int .i64 a,.int .i64 b] 52)])) (fun (k,Gx,r,x,(o,d,j))=>Gx) (fun (k,Gx,r,x,(o,d,j))=>k≤n∧G2.le Gx∧r.length=n∧B6 Gx r ((List.range n).map fun i=>if i<k then a ^ i else 0)∧C1 Gx x (a ^ k)∧A4 o d r j) (fun (k,Gx,r,x,(o,d,j))=>n - k) ((0,G2,List.replicate n default,ro1,(some ⟨b2,0,none⟩,n,[]))) (⟨aM _,bN _,aJ ..,by have e:(List.range n).map (fun i=>if i<0 then a ^ i else 0)=List.replicate n (0:Int):=by { apply fL <;> simp };rw [e];exact rO _ _,by rw [lA];exact hro1,.inr ⟨b2,U,by rw [aJ];rfl,by omega,by simp only [maxLen];omega⟩⟩) U ⟨U,U,U,U,U,U,U,U,U,F9⟩ ⟨U,U,U,U,F9⟩ fun ⟨k,Gx,r,x,(o,d,j)⟩=>fun hk=>?_;obtain ⟨hk1,hk2,hk3,hk4,hk5,hob⟩:=hk;have e1:(List.replicate ((n:Int)).toNat (default:IV)).length=n:=FB;have e0:(List.replicate n (default:IV)).length=n:=aJ ..;have hx3:k≤15→((a ^ k).natAbs:Int)<pb 3:=fun h=>by
  have e:pb 3=79228162514264337593543950336:=by unfold pb;decide
  have e2:(a ^ k).natAbs≤16 ^ 15:=by
   rw [oZ];exact bO (oM (show a.natAbs≤16 by unfold near at hp;omega) k) (iJ sN h)
  have e3:(16:Nat) ^ 15=1152921504606846976:=sY;omega
 have hxn:x.n≤536870912:=bO (jI hk5 (hx3 sN)) sY;refine bI 6 [] ?_;refine cW (fun hc1=>?_) fun hc1=>?_;refine aI 15 [2] ?_;refine iE (α:=IV) T.sl68 ?_;rotate_left;refine bI 14 [] ?_;rotate_left
 · refine dC (z:=x) 1 T.size125 U U U sO sN U fun h9=>?_;refine aL 6 [2,0] ?_;refine bV 4 U (bj _ _ _ a hk5 hxn Yc) fun v3 G3 Ho3 hle3 hp=>?_;obtain ⟨rt,rfl,hrt,rfl⟩:=hp;replace hk4:=hk4.up hle3;replace hk5:=hk5.up hle3;refine aS 8 [2] ?_;have hle3':Gx.le G3:=hle3;refine cJ 28 U (show _=Value.int .i64 ((k+1:Nat):Int) from U) ?_;refine cJ 6 U (show _=Value.slice o (r.set (k:Int).toNat x).length d by rw [aG]) ?_;refine cK ((k+1,G3,r.set (k:Int).toNat x,rt,(o,d,j))) ?_ ?_
   · refine ⟨by omega,aP hk2 hle3',by rw [aG];exact hk3,?_,by rw [gP];exact hrt,h9⟩;have h8:=hk4.set k hk5;rw [aE];have e:((List.range n).map fun i=>if i<k then a ^ i else 0).set k (a ^ k)=(List.range n).map fun i=>if i<k+1 then a ^ i else 0:=by
      apply fL
      · simp
      intro i h1 h2;rw [List.getElem_set];simp only [fA,kW];by_cases h:k=i
      · subst h;simp
      rw [aD h];by_cases h7:i<k
      · rw [aF h7,aF (by omega)]
      rw [aD h7,aD (by omega)]
     rw [e] at h8;exact h8
   show n - (k+1)<n - k;omega
 have hkn:k=n:=sN;subst hkn;have hl1:(List.range k).map (fun i=>if i<k then a ^ i else (0:Int))=(List.range k).map fun m=>if ((m:Nat):Int)≤(k:Int) - 1 then a ^ m else a ^ m*b ^ (k - 1 - m):=by
  apply jF;intro m hm;rw [iG] at hm;rw [aF hm,aF (by omega)]
 rw [hl1] at hk4;refine Wc.lg (ι:=Int×A3×List IV×IV) (fun (i,Gy,q,y)=>([(10,.int .i64 i),(6,.slice o q.length d),(8,.pointer (some (Addr.mk b4 0 none))),(5,.int .i64 0),(4,.slice none 0 0),(2,.pointer (some ⟨b1,0,none⟩))],[(1,o.map (·.block),Row 125 q j),(3,some b4,.cells (A2.enc y).toArray 125),(2,some b3,.cells (List.toArray (A2.enc x)) 125),(0,some b1,.cells #[.int .i64 a,.int .i64 b] 52)])) (fun (i,Gy,q,y)=>Gy) (fun (i,Gy,q,y)=>-1≤i∧i<k∧Gx.le Gy∧q.length=k∧B6 Gy q ((List.range k).map fun m=>if ((m:Nat):Int)≤i then a ^ m else a ^ m*b ^ (k - 1 - m))∧C1 Gy y (b ^ ((k:Int) - 1 - i).toNat)∧A4 o d q j) (fun (i,Gy,q,y)=>(i+1).toNat) (((k:Int) - 1,Gx,r,ro2)) (⟨by omega,by omega,bN _,hk3,hk4,by rw [show ((k:Int) - 1 - ((k:Int) - 1)).toNat=0 by omega,lA];exact hro2.up hk2,hob⟩) fun ⟨i,Gy,q,y⟩=>fun hk=>?_;obtain ⟨hi1,hi2,hi3,hi4,hi5,hi6,hi7⟩:=hk;rcases qF i 0 with hi0 | hi0
 · have hi9:i=-1:=sN;subst hi9;have hl2:(List.range k).map (fun m=>if ((m:Nat):Int)≤-1 then a ^ m else a ^ m*b ^ (k - 1 - m))=yC a b k:=by
    unfold yC;apply jF;intro m hm;rw [aD (by omega)]
   rw [hl2] at hi5;refine bE 21 [0] ?_;refine cX 1 U hi7 fun G8 hle8 hA8=>?_;refine gY ?_;exact ⟨_,_,_,U,hA8,hi5.up hle8,hi7.le,U⟩
 obtain ⟨m,rfl⟩:∃ m:Nat,i=(m:Int):=⟨i.toNat,by omega⟩
 have hmk:m<k:=sN;have hbe:C1 Gy (q[(m:Int).toNat]?.getD default) (a ^ m):=by
  have h9:=hi5.2 m sN;rw [bM,eV hmk] at h9;rw [aE];simpa using h9
 have hsm:∀ (c:Int) (e:Nat),-16≤c∧c≤16→e≤15→((c ^ e).natAbs:Int)<pb 3:=fun c e hc he=>by
  have e0:pb 3=79228162514264337593543950336:=by unfold pb;decide
  have e2:(c ^ e).natAbs≤16 ^ 15:=by
   rw [oZ];exact bO (oM (show c.natAbs≤16 by omega) e) (iJ sN he)
  have e3:(16:Nat) ^ 15=1152921504606846976:=sY;omega
 have hlq:=jI hbe (hsm a m Yc sN);have hly:=jI hi6 (hsm b _ Yc sN);have hyn:y.n≤536870912:=bO hly sY;refine bI 13 [1] ?_;refine dE [0,2,3,1] [(1,9),(3,9),(2,9),(0,9)] T.mixed [[0],[1],[2],[3]] ?_;refine fJ (α:=IV) 4 T.sl68 ?_;refine dW 5 [1] U (Tn 1 T.agg125 U U sO sN) ?_;refine dK [[6,3]] ?_;refine bQ 7 ?_;refine bV 4 U (gk _ _ _ _ _ hbe hi6 (bO hlq sY) (bO hly sY)) fun v3 G3 Ho3 hle3 hp=>?_;obtain ⟨rm3,rfl,hrm3,rfl⟩:=hp;replace hi5:=hi5.up hle3;replace hi6:=hi6.up hle3;replace hbe:=hbe.up hle3;refine bC ?_;refine fJ (α:=IV) 8 T.sl68 ?_;refine bQ 9 ?_;refine dC (z:=rm3) 1 T.size125 U U U sO sN U fun h9=>?_;refine fD ?_;refine lQ 5 [3,0] ?_;refine bV 4 U (bj _ _ _ b sO hyn Yc) fun v4 G4 Ho4 hle4 hp=>?_;obtain ⟨rt4,rfl,hrt4,rfl⟩:=hp;replace hrm3:=hrm3.up hle4;replace hi5:=hi5.up hle4;replace hi6:=hi6.up hle4;replace hbe:=hbe.up hle4;refine aS 9 [3] ?_;refine cJ 6 U (show _=Value.slice o (q.set (m:Int).toNat rm3).length d by rw [aG]) ?_;refine cK (((m:Int) - 1,_,q.set (m:Int).toNat rm3,rt4)) ?_ ?_
 · refine ⟨by omega,by omega,aP hi3 (aP sO sO),by rw [aG];exact hi4,?_,?_,h9⟩
   · have h8:=hi5.set m hrm3;rw [aE];have e:((List.range k).map fun q=>if ((q:Nat):Int)≤(m:Int) then a ^ q else a ^ q*b ^ (k - 1 - q)).set m (a ^ m*b ^ ((k:Int) - 1 - (m:Int)).toNat)=(List.range k).map fun q=>if ((q:Nat):Int)≤(m:Int) - 1 then a ^ q else a ^ q*b ^ (k - 1 - q):=by
      apply fL
      · simp
      intro i h1 h2;rw [List.getElem_set];simp only [fA,kW];by_cases h:m=i
      · subst h;rw [aF rfl,aD (by omega)];congr 2;omega
      rw [aD h];by_cases h7:(i:Int)≤(m:Int)
      · rw [aF h7,aF (by omega)]
      rw [aD h7,aD (by omega)]
     rw [e] at h8;exact h8
   have e:((k:Int) - 1 - ((m:Int) - 1)).toNat=((k:Int) - 1 - (m:Int)).toNat+1:=sN;rw [e,gP];exact hrt4
 show ((m:Int) - 1+1).toNat<((m:Int)+1).toNat;omega
end
section
attribute [local irreducible] sQ pb uJ tT p2 tW yC
def D4 (G:A3) (s:SV) (zs:List Int):Prop:=∃ l:List IV,l.length=s.n∧s.n≤s.c∧Arr G s.a l∧B6 G l zs
theorem D4.up {G G':A3} {s:SV} {zs:List Int} (h:D4 G s zs) (hl:G.le G'):D4 G' s zs:=by
 obtain ⟨l,h1,h2,h3,h4⟩:=h;exact ⟨l,h1,h2,h3.up hl,h4.up hl⟩
def C0 (G:A3) (l:List SV) (rs:List (List Int)):Prop:=l.length=rs.length∧∀ i:Nat,i<l.length→D4 G (l[i]?.getD default) (rs[i]?.getD [])
theorem C0.up {G G':A3} {l:List SV} {rs:List (List Int)} (h:C0 G l rs) (hl:G.le G'):C0 G' l rs:=⟨h.1,fun i hi=>(h.2 i hi).up hl⟩
theorem C0.nil (G:A3):C0 G [] []:=⟨U,fun i hi=>by simp at hi⟩
theorem C0.snoc {G:A3} {l:List SV} {rs:List (List Int)} (h:C0 G l rs) {s:SV} {zs:List Int} (hs:D4 G s zs):C0 G (l++[s]) (rs++[zs]):=by
 refine ⟨by rw [aB,aB,h.1];rfl,fun i hi=>?_⟩;rw [aB,jQ] at hi;rcases aK i l.length with h1 | h1
 · rw [bF h1,bF (by rw [←h.1];exact h1)];exact h.2 i h1
 have:i=l.length:=sN;subst this;rw [cB (aH _),cB (by rw [h.1];exact aH _),iH,h.1,iH];exact hs
theorem WL (G:A3) (a:Option Addr) (c:Nat) (l:List R2) (ha:Arr G a l) (h1:l.length≤1048576) (hc:l.length≤c) (hR:tW l):Does Tryz.prog 144 [.slice a l.length c] G [] (fun v G' Ho=>v=.bool true∧G'=G∧Ho=[]):=
 (gz G a c l ha h1 hc).mono fun v G' Ho _ ⟨b,e1,e2,e3,e4⟩=>⟨by rw [e1,e2.2 hR],e3,e4⟩
def xF (l:List R2):List (List Int):=l.map fun p=>yC p.a p.b l.length
theorem NV (G:A3) (a:Option Addr) (c:Nat) (l:List R2) (ha:Arr G a l) (h1:l.length≤1048576) (hc:l.length≤c) (hR:tW l) (hr1:l.length≤15) (hr2:∀ i,i<l.length→Nz (l[i]?.getD default)) :
 Does Tryz.prog 158 [.slice a l.length c] G [] (fun v G' Ho=>∃ (s:Option Addr) (r:List SV) (c':Nat),v=.tuple #[.slice s r.length c',.int .i64 0]∧Arr G' s r∧C0 G' r (xF l)∧r.length≤c'∧Ho=[]):=by
 refine D0 Tryz.func158 Tryz.ntmps158 fun w=>?_;refine eJ 9 (Row 68 ([]:List SV) []) ?_;refine aI 10 [] ?_;refine cI U (WL _ _ _ l sO sN hc hR) ?_;refine bB 20 [0] ?_;refine jZ (ι:=Nat×A3×List SV×(Option Addr×Nat×List Value)) (fun (i,Gx,r,(o,d,j))=>([(14,.int .i64 (i:Int)),(4,.slice o r.length d),(13,.int .i64 (l.length:Int)),(12,.slice a (List.length l) c),(3,.int .i64 0),(2,.slice none 0 0),(0,.slice a (List.length l) c)],[(9,o.map (·.block),Row 68 r j)])) (fun (i,Gx,r,(o,d,j))=>Gx) (fun (i,Gx,r,(o,d,j))=>i≤l.length∧G.le Gx∧r.length=i∧C0 Gx r ((xF l).take i)∧A4 o d r j) (fun (i,Gx,r,(o,d,j))=>l.length - i) ((0,G,[],(none,0,[]))) (⟨aM _,bN _,U,by rw [bR];exact C0.nil _,eG⟩) U ⟨U,U,U,U,U,U,U,F9⟩ ⟨U,F9⟩ fun ⟨i,Gx,r,(o,d,j)⟩=>fun hk=>?_;obtain ⟨hi1,hi2,hi3,hi4,hi5⟩:=hk;replace ha:=ha.up hi2;rcases aK i l.length with hil | hil
 · have hnear:near (l[(i:Int).toNat]?.getD default).a (l[(i:Int).toNat]?.getD default).b:=(hr2 i hil).1;refine aI 13 [1] ?_;refine fR (α:=R2) T.sl22 ?_;refine lL T.agg52 ?_;refine aO 10 U T.zero52 fun b1=>?_;refine aL 8 [10,10] ?_;refine bV 11 U (bn _ _ _ l.length hnear sN) fun v1 G1 Ho1 hle1 hp=>?_;obtain ⟨ps1,pr1,pc1,rfl,hpA1,hpB1,hpL1,rfl⟩:=hp;replace ha:=ha.up hle1;refine aL 10 [] ?_;refine cZ (α:=SV) 11 [⟨_,_,_⟩] U T.sl237 T.el68 U U U U U fun b2=>?_;refine kH (α:=SV) 9 T.sl237 T.el68 (dT 11 U) fun a1 c1 junk1 ho1=>?_;refine aS 8 [] ?_;refine cJ 14 U (show _=Value.int .i64 ((i+1:Nat):Int) from U) ?_;refine cK ((i+1,_,r++[⟨ps1,pr1.length,pc1⟩],(a1,c1,junk1))) ?_ ?_
   · refine ⟨by omega,aP hi2 sO,by rw [aB,hi3];rfl,?_,ho1⟩;have e:(xF l).take (i+1)=(xF l).take i++[yC (l[(i:Int).toNat]?.getD default).a (l[(i:Int).toNat]?.getD default).b l.length]:=by
      rw [cL];congr 1;unfold xF;rw [bM,aE,aA hil];rfl
     rw [e];exact (hi4.up sO).snoc ⟨pr1,U,hpL1,hpA1,hpB1⟩
   show l.length - (i+1)<l.length - i;omega
 have hie:i=l.length:=sN;subst hie;have e:(xF l).take l.length=xF l:=fH (by unfold xF;rw [aN];exact aH _);rw [e] at hi4;refine bE 20 [0] ?_;refine cX 9 U hi5 fun G8 hle8 hA8=>?_;refine gY ?_;exact ⟨_,_,_,U,hA8,hi4.up hle8,hi5.le,U⟩
end
section
attribute [local irreducible] sQ No pb pw uJ tT p2 tW yC
def small (z:Int):Prop:=z.natAbs<18446744073709551616
end
section
attribute [local irreducible] sQ No pb pw uJ tT p2 tW yC
end
theorem Pp {p:PV} {gs os:List (List Int)} (h:tE p gs=some os):os.length=p.outs.length:=by
 unfold tE at h;obtain ⟨rs,h1,h2⟩:=jG.1 h;subst h2;unfold xD;rw [aN]
theorem Dl (l:List R2):(xF l).length=l.length:=by unfold xF;rw [aN]
theorem Tx {a b:Int} {n:Nat} (h:near a b) (hn:n≤15):(yC a b n).length=n∧Go.Sl.Below 4 (yC a b n):=by
 refine ⟨by unfold yC;rw [aN,cC],fun z hz=>?_⟩;unfold yC at hz;obtain ⟨k,hk,rfl⟩:=dL.1 hz;have hk:=iG.1 hk;have e4:pw 4=18446744073709551616:=by unfold pw;decide
 have e:(a ^ k*b ^ (n - 1 - k)).natAbs≤16 ^ 15:=by
  rw [fZ,oZ,oZ];refine bO (gQ (oM (show a.natAbs≤16 by unfold near at h;omega) k) (oM (show b.natAbs≤16 by unfold near at h;omega) _)) ?_;rw [←oD];exact iJ sN sN
 have e3:(16:Nat) ^ 15=1152921504606846976:=sY;omega
theorem DZ {l:List R2} (h1:l.length≤15) (hr:∀ i,i<l.length→near (l[i]?.getD default).a (l[i]?.getD default).b):XV 4 l.length (xF l):=fun zs hz=>by
 unfold xF at hz;obtain ⟨p,hp,rfl⟩:=dL.1 hz;obtain ⟨i,hi,rfl⟩:=fY.1 hp;have:=hr i hi;rw [aA hi] at this;have this:near l[i].a l[i].b:=this;exact Tx this h1
def uH (n j:Nat):List Int:=(List.replicate n 0).set j 1
theorem Pq (n j m:Nat) (hm:1≤m):Go.Sl.Below m (uH n j):=by
 have h1:pw 1=65536:=by unfold pw;decide
 refine Go.Sl.Below.mono (m:=1) (fun z hz=>?_) hm;unfold uH at hz;rcases fC hz with h | h
 · rw [jB h,h1];decide
 rw [h,h1];decide
def uE (p:PV) (l:List R2):Prop:=sP p=true∧p.ins=l.length∧p.outs.length=l.length∧tE p (xF l)=some ((List.range l.length).map (uH l.length))
instance (p:PV) (l:List R2):Decidable (uE p l):=inferInstanceAs (Decidable (_∧_))
section
attribute [local irreducible] sQ No pb pw uJ tT p2 yC xF tE sP
end
theorem bq (G:A3) (k:Int):Does Tryz.prog 103 [.int .i64 k] G [] (fun v G' Ho=>v=.bool (decide (1≤k∧k≤8))∧G'=G∧Ho=[]):=by
 refine D0 Tryz.func103 Tryz.ntmps103 fun w=>?_;refine dJ ?_;refine dH U ?_;refine aC 1 [] ?_;refine eM ?_;refine cN ?_;refine dJ ?_;refine dH U ?_;refine aC 3 [] ?_;apply bX 3 5 8 U;intro hg1;refine aC 5 [] ?_;exact dB 3 0;intro hg1;refine aC 3 [] ?_;exact dB 3 0;refine aC 1 [] ?_;refine eM ?_;refine cN ?_;refine nC ?_;refine cV ?_;exact ⟨U,U,U⟩
theorem ia (G:A3) (a:Option Addr) (c:Nat) (l:List R2) (ha:Arr G a l) (h1:l.length≤1048576):Does Tryz.prog 153 [.slice a l.length c,.func (.func 105) #[] #[]] G [] (fun v G' Ho=>∃ z:Int,v=.int .i64 z∧(0≤z↔∃ i,i<l.length∧((l[i]?.getD default).a=0∧(l[i]?.getD default).b=0))∧G'=G∧Ho=[]):=by
 refine D0 Tryz.func153 Tryz.ntmps153 fun w=>?_;refine dJ ?_;refine dH U ?_;refine aC 1 [] ?_;refine eM ?_;refine cN ?_;refine dJ ?_;refine dJ ?_;refine dH U ?_;refine aC 3 [] ?_;refine eM ?_;refine cN ?_;refine Wc.block ?_;refine gX (ι:=Nat) (fun j=>([(8,.int .i64 (j:Int)),(0,.slice a l.length c),(1,.func (.func 105) #[] #[]),(7,.int .i64 (l.length:Int))],[])) (fun j=>j≤l.length∧∀ i,i<j→¬((l[i]?.getD default).a=0∧(l[i]?.getD default).b=0)) (fun j=>l.length - j) (0) (⟨aM _,fun j' h=>absurd h sN⟩) fun j=>fun hk=>?_;obtain ⟨hj,hno⟩:=hk;refine dJ ?_;refine dH U ?_;refine aC 1 [] ?_;refine eM ?_;refine cN ?_;refine dJ ?_;refine cW (fun hc1=>?_) fun hc1=>?_;refine kI ?_;refine cN ?_;refine dJ ?_;refine Wc.block ?_;refine dJ ?_;refine dH U ?_;refine aC 2 [] ?_;refine eM ?_;refine cN ?_;refine dJ ?_;refine dH U ?_;refine aC 3 [] ?_;refine fR (α:=R2) T.sl22 ?_;refine lL T.agg52 ?_;rotate_left;refine Wc.exit ?_;refine rF ?_;refine rF ?_;refine FC ?_;refine cN ?_;refine dJ ?_;refine dH U ?_;refine aC 1 [] ?_;refine eM ?_;refine cN ?_;refine nC ?_;refine cV ?_;rotate_left
 · refine fE (fst:=[]) (cap:=[]) 2 U T.fn105 U U (bd _ (l[(j:Int).toNat]?.getD default).a (l[(j:Int).toNat]?.getD default).b) (sS F9) fun v1 G1 Ho1 hle1 hp=>?_;obtain ⟨rfl,rfl,rfl⟩:=hp;refine eM ?_;refine cN ?_;refine cW (fun hc2=>?_) fun hc2=>?_;refine dJ ?_;refine dH U ?_;refine aC 2 [] ?_;refine eM ?_;refine cN ?_;refine nC ?_;refine Ku ?_;refine qJ ?_;refine qJ ?_;refine Ku ?_;refine qJ ?_;refine cV ?_;rotate_left;refine kI ?_;refine sB ?_;refine cN ?_;refine dH U ?_;refine aC 2 [] ?_;refine eM ?_;rotate_left
   · exact ⟨(j:Int),U,⟨fun _=>⟨j,by omega,hc2⟩,fun _=>by omega⟩,U,U⟩
   refine cJ 8 U (show _=Value.int .i64 ((j+1:Nat):Int) from U) ?_;refine cK (j+1) ?_ ?_
   · refine ⟨by omega,fun i' h2=>?_⟩;rcases aK i' j with h | h
     · exact hno i' h
     have e:i'=j:=sN;subst e;exact hc2
   omega
 exact ⟨-1,U,⟨fun h=>absurd h sN,fun ⟨i,hi,h⟩=>absurd h (hno i sN)⟩,U,U⟩
theorem ib (G:A3) (a:Option Addr) (c:Nat) (l:List R2) (ha:Arr G a l) (h1:l.length≤1048576):Does Tryz.prog 104 [.slice a l.length c,.func (.func 105) #[] #[]] G [] (fun v G' Ho=>∃ b:Bool,v=.bool b∧(b=true↔∃ i,i<l.length∧((l[i]?.getD default).a=0∧(l[i]?.getD default).b=0))∧G'=G∧Ho=[]):=by
 refine D0 Tryz.func104 Tryz.ntmps104 fun w=>?_;refine dJ ?_;refine dH U ?_;refine aC 1 [] ?_;refine eM ?_;refine cN ?_;refine dJ ?_;refine dH U ?_;refine aC 2 [] ?_;refine bV 0 U (ia _ _ _ _ sO sN) fun v1 G1 Ho1 hle1 hp=>?_;obtain ⟨tz1,rfl,htz1,rfl,rfl⟩:=hp;refine aC 2 [] ?_;refine eM ?_;refine cN ?_;refine nC ?_;refine cV ?_;exact ⟨decide (0≤tz1),U,by rw [aT];exact htz1,U,U⟩
theorem c33 (G:A3) (a:Option Addr) (c:Nat) (l:List R2) (ha:Arr G a l) (hl:l.length≤1048576) :
 Does Tryz.prog 33 [.slice a l.length c] G [] (fun v G' Ho=>∃ s d j,v=.slice s l.length d∧A4 s d l j∧G'=G∧Ho=[(0,s.map (·.block),Row 52 l j)]):=by
 refine D0 Tryz.func33 Tryz.ntmps33 fun w=>?_;by_cases hne:a=none
 · subst hne;have hl0:l=[]:=by
    rcases ha.2 with h0 | ⟨_,_,h,_⟩
    · exact List.length_eq_zero_iff.mp h0
    cases h
   subst hl0;refine eJ 0 (Row 52 ([]:List R2) []) ?_;refine aI 9 [] ?_;refine aQ (jL T.sl22 U U) ?_;refine bB 2 [] ?_;refine cW (fun hc1=>?_) fun hc1=>?_;refine bE 7 [] ?_;rotate_left;refine aI 4 [] ?_;refine rG 1 U T.sl22 fun b1=>?_;refine aC 1 [] ?_;rotate_left;refine cH (.inr U) (Ho:=[(0,none,Row 52 ([]:List R2) [])]) U (.tmp U) ⟨U,F9⟩ ?_
   · exact ⟨none,0,[],U,eG,U,U⟩
   exact absurd U hc1
 refine aI 9 [] ?_;refine aQ (jL T.sl22 U U) ?_;refine aL 7 [0] ?_;refine rG 0 U T.sl22 fun b1=>?_;refine aC 1 [] ?_;refine oW 0 (Row 52 ([]:List R2) []) U U ?_;refine eH (α:=R2) (xs:=[]) (ys:=l) (junk:=[]) 0 U T.sl22 T.el52 U U U (.inr ⟨b1,U,U,aH _,aM _⟩) (lM ha) (by rw [cE];omega) KU fun a1 c1 junk1 ho1=>?_;rw [fV] at ho1 ⊢;refine aS 4 [] ?_;refine cH (.inr U) (Ho:=[(0,a1.map (·.block),Row 52 l junk1)]) U (.tmp U) ⟨U,F9⟩ ?_;exact ⟨a1,c1,junk1,U,ho1,U,U⟩
structure PH where
 ins:Int
 regs:Int
 ac:Option Addr
 cn:Nat
 cc:Nat
 ao:Option Addr
 on:Nat
 oc:Nat
instance:Inhabited PH:=⟨⟨0,0,none,0,0,none,0,0⟩⟩
instance:A2 PH:=⟨4,fun x=>[.int .i64 x.ins,.int .i64 x.regs,.slice x.ac x.cn x.cc,.slice x.ao x.on x.oc],fun _=>rfl,fun _=>rfl⟩
end Go.Proofs.YtkdelpdbjfpgmaaGreatDoor
