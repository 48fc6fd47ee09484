/- uN of the proof (part 4): what the rows' text needs of the texts that lead to it. -/
import Derived.Test.YtfdcckcadfhpeaaGreatDoorMRc
set_option linter.unusedVariables false
set_option linter.unusedSimpArgs false
set_option linter.unusedSectionVars false
set_option maxHeartbeats 4000000
set_option maxRecDepth 100000
namespace Go.Proofs.YtfdcckcadfhpeaaGreatDoor
open Go Go.Sl
theorem YW (G:Imm) (x:Int) (h0:0<x) (h1:x<4294967296):Does Tryz.prog 249 [.int .u32 x] G [] (fun v G' Ho=>∃ sh:Nat,v=.int .i64 (sh:Int)∧sh<32∧2147483648≤((2 ^ sh:Nat):Int)*x∧((2 ^ sh:Nat):Int)*(x+1)≤4294967296∧G'=G∧Ho=[]):=by
 obtain ⟨sh,h2,h3,h4,h5⟩:=HC h0 h1
 exact (dj G x sE sE).mono fun v G' Ho _ ⟨e1,e2,e3⟩=>⟨sh,by rw [e1,h3],h2,h4,h5,e2,e3⟩
theorem VE (G:Imm) (a:Option Addr) (ca:Nat) (la:List U32) (s:Nat) (ha:Arr G a la) (da:Lims la) (h1:la.length≤1073741824) (hs:s<32) :
 Does Tryz.prog 250 [.slice a la.length ca,.int .i64 (s:Int)] G [] (fun v G' Ho=>∃ r,v=.tuple #[r,.int .i64 0]∧Nat32 G' r (((2 ^ s:Nat):Int)*sI la) (la.length+1)∧Ho=[]):=by
 have h:=YV G a ca la 0 s ha da h1 hs sE
 rw [show 32*0+s=s by omega,Mk,cY] at h
 exact h
section
attribute [local irreducible] sI pb tY tF
theorem dk (G:Imm) (a b:Option Addr) (ca cb:Nat) (la lb:List U32) (ha:Arr G a la) (hb:Arr G b lb) (da:Lims la) (ta:Top la) (db:Lims lb) (h1:la.length≤536870912) (h2:lb.length≤536870912) (h3:la.length≤ca) (h4:lb.length≤cb) (hB:0<sI lb) :
 Does Tryz.prog 222 [.slice a la.length ca,.slice b lb.length cb] G [] (fun v G' Ho=>∃ q r,v=.tuple #[q,r,.int .i64 0]∧Nat32 G' q (sI la / sI lb) la.length∧Nat32 G' r (sI la % sI lb) lb.length∧Ho=[]):=by
 have hA:=tS da
 refine D0 Tryz.func222 Tryz.ntmps222 fun w=>?_
 refine aJ 10 [] ?_
 refine bX 0 rfl (Mf _ _ _ _ sF sE tJ) fun v1 G1 Ho1 hle1 hp=>?_
 obtain ⟨ta1,tm1,rfl,hta1,hte1,htr1,htl1,rfl,rfl⟩:=hp
 refine aZ 3 [] ?_
 have dm:=wF hte1 db
 have tp:=Dw hte1 htr1
 have hV:=wN hte1 htr1
 have hpos:0<tm1.length:=by
  rcases fZ tm1.length with h | h
  · have h5:=dT h
    rw [h5,tV] at hV
    omega
  exact h
 by_cases hlt:sI la<sI tm1
 · have hcmp:tY (sI la) (sI tm1)=-1:=Ia hlt
   refine aJ 16 [0] ?_
   refine cI rfl (Yd _ _ _ _ _ _ _ sF sF sF sF sE sE sE sE) ?_
   refine aL 7 [1] ?_
   refine bX 0 rfl (WI _ _ _ _ sF Li Li) fun v2 G2 Ho2 hle2 hp=>?_
   obtain ⟨na2,nm2,rfl,hna2,hne2,hnt2,hnl2,rfl⟩:=hp
   replace ha:=ha.up hle2
   replace hb:=hb.up hle2
   replace hta1:=hta1.up hle2
   refine aR 7 [] ?_
   refine kM ?_
   refine ⟨_,_,rfl,⟨none,[],rfl,kE _,Lims.nil,Top.nil,?_,aM _⟩,Dx (nP hna2 hne2 hnt2 da ?_ (aH _)) db ?_,rfl⟩
   · rw [tV,qA hA sE]
   · rw [rP hA sE]
   exact gA _ hB
 have hcmp:¬tY (sI la) (sI tm1)<0:=fun h=>hlt (Yg h)
 by_cases hone:tm1.length=1
 · have hv1:=KY hone
   have hr1:=vG dm 0
   have e1:(tm1[(0:Int).toNat]?.getD default).v=lg tm1 0:=rfl
   have hb0:0<(tm1[(0:Int).toNat]?.getD default).v∧(tm1[(0:Int).toNat]?.getD default).v<4294967296:=by rw [e1];omega
   refine aJ 16 [0] ?_
   refine cI rfl (Yd _ _ _ _ _ _ _ sF sF sF sF sE sE sE sE) ?_
   refine aL 19 [0,1] ?_
   refine fP (α:=U32) T.sl123 ?_
   refine eG rfl (cJ T.one215 rfl (iC sF sE 0 rfl rfl)) ?_
   refine bX 0 rfl (df _ _ _ _ _ sF sF sE sE sE) fun v2 G2 Ho2 hle2 hp=>?_
   obtain ⟨dq2,dz2,dm2,rfl,⟨dqa2,dqm2,rfl,hdqa2,hdql2,hdqt2,hdqv2,hdqn2⟩,hdv2,hd02,hd12,rfl⟩:=hp
   replace ha:=ha.up hle2
   replace hb:=hb.up hle2
   replace hta1:=hta1.up hle2
   refine aL 13 [] ?_
   refine dY (α:=U32) 0 [⟨dm2⟩] rfl T.sl123 T.el215 rfl rfl rfl rfl rfl fun b1=>?_
   have hdl:Lims [(⟨dm2⟩:U32)]:=Lims.one sE
   refine gB 0 rfl (fM (xs:=[(⟨dm2⟩:U32)]) Dd) fun G9 hle9 hA9=>?_
   replace hdqa2:=hdqa2.up hle9
   refine bX 1 rfl (WI _ _ _ _ sF Li Li) fun v3 G3 Ho3 hle3 hp=>?_
   obtain ⟨na3,nm3,rfl,hna3,hne3,hnt3,hnl3,rfl⟩:=hp
   replace hA9:=hA9.up hle3
   replace hdqa2:=hdqa2.up hle3
   refine aR 7 [] ?_
   refine kM ?_
   have hdu:=(qS (a:=sI la) (b:=sI lb) (r:=dm2) (q:=dz2) hB).2 ⟨by rw [cD,←hV,hv1,←e1];omega,hd02,by rw [←hV,hv1,←e1];exact hd12⟩
   refine ⟨_,_,rfl,⟨dqa2,dqm2,rfl,hdqa2,hdql2,hdqt2,by rw [hdqv2,hdu.1],hdqn2⟩,Dx (nP hna3 hne3 hnt3 hdl (by rw [Dt,hdu.2]) (aH _)) db (gA _ hB),rfl⟩
 obtain ⟨m,hm⟩:∃ m,tm1.length=m+2:=⟨tm1.length - 2,by omega⟩
 have hx:=vG dm (m+1)
 have ex:(tm1[((tm1.length:Int) - 1).toNat]?.getD default).v=lg tm1 (m+1):=by unfold lg;rw [show ((tm1.length:Int) - 1).toNat=((m+1:Nat):Int).toNat by omega]
 have hx1:lg tm1 (m+1)≠0:=by
  rcases tp with h | h
  · rw [h] at hm;simp at hm
  unfold lg;rw [aE,show m+1=tm1.length - 1 by omega];exact h
 have hxb:0<(tm1[((tm1.length:Int) - 1).toNat]?.getD default).v∧(tm1[((tm1.length:Int) - 1).toNat]?.getD default).v<4294967296:=by rw [ex];omega
 refine aJ 16 [0] ?_
 refine cI rfl (Yd _ _ _ _ _ _ _ sF sF sF sF sE sE sE sE) ?_
 refine aL 23 [0,0] ?_
 refine fP (α:=U32) T.sl123 ?_
 refine iY 0 T.one215 ?_
 refine bX 0 rfl (YW _ _ sE sE) fun v2 G2 Ho2 hle2 hp=>?_
 obtain ⟨sh,rfl,hsh,hs1,hs2,rfl,rfl⟩:=hp
 refine aL 7 [] ?_
 refine bX 0 rfl (VE _ _ _ _ sh sF sF sE sE) fun v3 G3 Ho3 hle3 hp=>?_
 obtain ⟨sr3,rfl,⟨sa3,sm3,rfl,hsa3,hsl3,hst3,hsv3,hsn3⟩,rfl⟩:=hp
 replace ha:=ha.up hle3
 replace hb:=hb.up hle3
 replace hta1:=hta1.up hle3
 refine aL 11 [] ?_
 refine bX 0 rfl (VE _ _ _ _ sh sF sF sE sE) fun v4 G4 Ho4 hle4 hp=>?_
 obtain ⟨sr4,rfl,⟨sa4,sm4,rfl,hsa4,hsl4,hst4,hsv4,hsn4⟩,rfl⟩:=hp
 replace hsa3:=hsa3.up hle4
 replace ha:=ha.up hle4
 replace hb:=hb.up hle4
 replace hta1:=hta1.up hle4
 refine aL 10 [] ?_
 refine dY (α:=U32) 0 [⟨0⟩] rfl T.sl123 T.el215 rfl rfl rfl rfl rfl fun b1=>?_
 have hP:0<((2 ^ sh:Nat):Int):=(yP (s:=sh) sE).choose_spec.2.2
 obtain ⟨hvl,hvt⟩:=LP hP hm dm hsl3 hst3 (by rw [←ex];exact hs1) (by rw [←ex];exact hs2) hsv3
 have hge:sI sm3≤sI sm4:=by
  rw [hsv3,hsv4];exact bU sE (dW hP)
 have huv:sm3.length≤sm4.length:=by
  rcases aK sm4.length sm3.length with h | h
  · have:=zA hsl4 hsl3 hst3 h;omega
  exact h
 refine Uu (α:=U32) (xs:=sm4) (ys:=[(⟨0⟩:U32)]) 40 rfl T.sl123 T.el215 rfl rfl (lC sF) sE (fE 0 rfl) sN (by simp only [aW,cH];omega) (by simp only [aW,cH,maxLen];omega) fun b2 c2 j2 ho2=>?_
 have hstart:=HD hsl4 hsl3 hst3 sE huv
 have huA:sI (sm4++[(⟨0⟩:U32)])=sI sm4:=by rw [uH,Dt];show _+_*0=_;omega
 have dU:Lims (sm4++[(⟨0⟩:U32)]):=hsl4.append (Lims.one sN)
 have lU:(sm4++[(⟨0⟩:U32)]).length=sm4.length+1:=by rw [aC];rfl
 change sI ((sm4++[(⟨0⟩:U32)]).drop _)<_ at hstart
 generalize sm4++[(⟨0⟩:U32)]=uL at *
 refine aL 16 [] ?_
 refine fV (α:=U32) 41 rfl T.sl123 T.el215 rfl rfl sE sE fun b3=>?_
 refine aZ 15 [] ?_
 obtain ⟨N,hN⟩:∃ N,N=uL.length - sm3.length:=⟨_,rfl⟩
 have hM:((uL.length:Int) - (sm3.length:Int)).toNat=N:=sE
 rw [hM]
 have hNs:sm4.length+1 - sm3.length=N:=sE
 rw [hNs] at hstart
 have hown:∀ r:List U32,r.length=N→OwnA (some ⟨b3,0,none⟩) N r []:=fun r hr=>.inr ⟨b3,rfl,by rw [hr];rfl,by omega,by simp only [maxLen];omega⟩
 have hc2:uL.length≤c2:=ho2.le
 have hownU:∀ r:List U32,r.length=uL.length→OwnA (some ⟨b2,0,none⟩) c2 r j2:=fun r hr=>by
  rcases ho2 with ⟨h,_⟩ | ⟨b',e,h5,h6,h7⟩
  · cases h
  exact .inr ⟨b',e,by rw [hr];exact h5,by rw [hr];exact h6,h7⟩
 refine iI 16 rfl (show _=Value.slice (some ⟨b3,0,none⟩) (List.replicate N (default:U32)).length N by rw [aI]) ?_
 refine iI 17 rfl (show _=Value.int .i64 ((N:Int) - 1) by congr 1;omega) ?_
 refine gY (ι:=Nat×List U32×List U32) (fun (k,q,R)=>([(17,.int .i64 ((k:Int) - 1)),(16,.slice (some ⟨b3,0,none⟩) q.length N),(13,.slice (some ⟨b2,0,none⟩) R.length c2),(15,.int .i64 (sm3.length:Int)),(11,.slice sa3 (List.length sm3) (List.length sm3)),(10,.int .i64 (↑sh:Int)),(6,.int .i64 0),(5,.slice none 0 0),(4,.slice none 0 0)],[(41,some b3,Row 215 q []),(40,some b2,Row 215 R j2),(0,some b1,Row (α:=Go.Sl.U32) 215 ([Go.Sl.U32.mk 0]) ([]))])) (fun (k,q,R)=>k≤N∧q.length=N∧Lims q∧R.length=uL.length∧Lims R∧sI sm4=sI q*sI sm3+sI R∧sI (R.drop k)<sI sm3∧∀ j,j<k→lg q j=0) (fun (k,q,R)=>k) ((N,List.replicate N (default:U32),uL)) (⟨aH _,aI,nH N,rfl,dU,by rw [show sI (List.replicate N (default:U32))=0 from Ao N,dV,jV,huA],hstart,fun j _=>Ib N j⟩) fun ⟨k,q,R⟩=>fun hk=>?_
 obtain ⟨hk1,hqN,hdq,hRn,hdR,hval,hRlt,hqz⟩:=hk
 have hoq:=hown q hqN
 have hoR:=hownU R hRn
 rcases fZ k with rfl | hkp
 · rw [oP] at hRlt
   refine aJ 17 [0] ?_
   refine gB 41 rfl hoq (fun G8 hle8 hAq=>gB 40 rfl hoR (fun G9 hle9 hAR=>?_))
   replace hAq:=hAq.up hle9
   refine bX 42 rfl (di _ _ _ _ sh sF sF sE sE sE) fun v5 G5 Ho5 hle5 hp=>?_
   obtain ⟨sr5,rfl,⟨sa5,sm5,rfl,hsa5,hsl5,hst5,hsv5,hsn5⟩,rfl⟩:=hp
   replace hAR:=hAR.up hle5
   replace hAq:=hAq.up hle5
   refine aL 10 [] ?_
   refine bX 42 rfl (Mf _ _ _ _ sF sE tJ) fun v6 G6 Ho6 hle6 hp=>?_
   obtain ⟨ta6,tm6,rfl,hta6,hte6,htr6,htl6,rfl,rfl⟩:=hp
   refine aR 7 [] ?_
   refine kM ?_
   have hRn0:=tS hdR
   rw [hsv3,hsv4,hV] at hval
   rw [hsv3,hV] at hRlt
   obtain ⟨hd1,hd2,_⟩:=RV hP hval hRn0 hRlt
   exact ⟨_,_,rfl,nP hta6 hte6 htr6 hdq hd2 sE,Dx ⟨sa5,sm5,rfl,hsa5,hsl5,hst5,by rw [hsv5,hd1],aH _⟩ db (gA _ hB),rfl⟩
 obtain ⟨i,rfl⟩:∃ i,k=i+1:=⟨k - 1,by omega⟩
 have ei:(((i+1:Nat):Int) - 1).toNat=i:=sE
 refine aJ 21 [1] ?_
 refine aO (JY T.sl123 rfl rfl rfl sE sE sE) ?_
 refine aB 1 [] ?_
 have hroom:=LR (n:=m+2) hdR hsl3 (show i<R.length by omega) hvl sE hRlt
 obtain ⟨p,hp⟩:∃ p,p=R.take i:=⟨_,rfl⟩
 obtain ⟨ww,hw⟩:∃ ww,ww=(R.drop i).take (m+3):=⟨_,rfl⟩
 obtain ⟨z,hz⟩:∃ z,z=R.drop (i+(m+3)):=⟨_,rfl⟩
 have hsplit:R=p++(ww++z):=by rw [hp,hw,hz];exact LQ R i (m+3)
 have lp:p.length=i:=by rw [hp,bG];omega
 have lw:ww.length=m+3:=by rw [hw,bG,gE];omega
 have dw:Lims ww:=by rw [hw];exact (Ab hdR i).take _
 obtain ⟨hr1,hr2⟩:=hroom
 rw [show m+2+1=m+3 by omega] at hr1 hr2
 rw [←hw] at hr1
 rw [←hz] at hr2
 refine gK 93 rfl (show _=Value.slice (some ⟨b2,p.length,none⟩) ww.length (c2 - i) by
  rw [ei,lp,lw]
  show Value.slice (if c2=i then (some ⟨b2,0,none⟩:Option Addr) else (some ⟨b2,0,none⟩:Option Addr).map (·.add (i*1))) _ _=_
  rw [aD (by omega),fO,Be,Nat.mul_one,dC]
  congr 1
  omega) ?_
 refine nU 40 (Row 215 (p++(ww++z)) j2) rfl (by rw [←hsplit]) ?_
 refine bX 40 rfl (dh _ b2 p ww z j2 _ _ _ sm3 m sF dw hsl3 sE lw hvl hvt hr1) fun r9 G9 Ho9 hle9 hp9=>?_
 obtain ⟨w9,g9,rfl,rfl,rfl,hg1,hg2,hwl,hwd,hwv,hwlt⟩:=hp9
 refine gX (α:=U32) T.sl123 ?_
 refine cU (z:=_) 41 T.size215 rfl rfl rfl sF sE rfl fun ho1=>?_
 refine aR 8 [] ?_
 have lz:z.length=R.length - (i+(m+3)):=by rw [hz,gE]
 have dz:Lims z:=by rw [hz];exact Ab hdR _
 have dp:Lims p:=by rw [hp];exact hdR.take _
 have hwin:=RO p ww w9 z sE
 rw [←hsplit,lp,hwv,show sI ww - g9*sI sm3 - sI ww=-(g9*sI sm3) by omega] at hwin
 have lR:(p++(w9++z)).length=uL.length:=by rw [aC,aC];omega
 refine cN 17 rfl (show _=Value.int .i64 ((i:Int) - 1) by congr 1;omega) ?_
 refine fY 41 (Row 215 (q.set i (⟨g9⟩:U32)) []) rfl (by rw [ei]) ?_
 refine cN 16 rfl (show _=Value.slice (some ⟨b3,0,none⟩) (q.set i (⟨g9⟩:U32)).length N by rw [aG]) ?_
 refine cN 13 rfl (show _=Value.slice (some ⟨b2,0,none⟩) (p++(w9++z)).length c2 by rw [lR,hRn]) ?_
 refine cL ((i,q.set i (⟨g9⟩:U32),p++(w9++z))) ?_ ?_
 · refine ⟨by omega,by rw [aG];exact hqN,tT hdq _ ⟨hg1,hg2⟩,lR,dp.append (hwd.append dz),LI (q:=0) sE (hqz i sE) hval hwin,?_,fun j hj=>by rw [yO sE];exact hqz j sE⟩
   rw [nR sE,eU sE,fW,uH,hr2,bL,eV]
   exact hwlt
 show i<i+1
 omega
end
theorem CK {neg:Bool} {m:List U32} (hd:Lims m) (ht:Top m):IsBig (neg && decide (0<m.length)) m (if neg=true then -sI m else sI m):=by
 refine ⟨hd,ht,fun e=>by rw [e];simp,?_⟩
 by_cases h:0<m.length
 · simp [h]
 have e:m=[]:=dT sE
 rw [e];simp [tV]
theorem LS {G:Imm} {b:Option Addr} {c:Nat} {m:List U32} (neg:Bool) (hA:Arr G b m) (hd:Lims m) (ht:Top m) (hc:m.length≤c) {z:Int} (hz:z=if neg=true then -sI m else sI m):Big G ⟨neg && decide (0<m.length),b,m.length,c⟩ z:=
 ⟨m,rfl,hc,hA,hz▸CK hd ht⟩
abbrev nA:=@LS
theorem Big.len {G:Imm} {x:IV} {z:Int} (h:Big G x z) {m:Nat} (hz:(z.natAbs:Int)<pb m):x.n≤m:=by
 obtain ⟨l,h1,_,_,h4⟩:=h
 rw [←h1];exact h4.len hz
abbrev gJ:=@Big.len
theorem Big.out {G:Imm} {x:IV} {z z':Int} (h:Big G x z) (e:z=z'):Big G x z':=e▸h
def Yh (z:Int):Int:=if z=0 then 0 else if z<0 then -1 else 1
section
attribute [local irreducible] sI pb tY tF
theorem zU (G:Imm) (neg:Bool) (a:Option Addr) (n c:Nat) (hn:n≤1099511627776) :
 Does Tryz.prog 133 [.bool neg,.slice a n c] G [] (fun v G' Ho=>v=.agg #[.bool (neg && decide (0<n)),.slice a n c]∧G'=G∧Ho=[]):=by
 refine D0 Tryz.func133 Tryz.ntmps133 fun w=>?_
 have e:((0:Int)<(n:Int))=(0<n):=by rw [eq_iff_iff];omega
 cases neg
 · refine aJ 2 [] ?_
   refine aN 0 rfl T.zero125 fun b1=>?_
   refine aL 11 [] ?_
   refine aO (bO (cs:=[_,_]) T.st125 rfl rfl rfl) ?_
   refine aR 4 [0] ?_
   refine cK (.inr rfl) (Ho:=Hp.only _ []) rfl (.agg 0 rfl rfl T.agg125) (aT _ _) ?_
   exact ⟨by simp only [Bool.false_and],rfl,rfl⟩
 refine aJ 2 [] ?_
 refine aN 0 rfl T.zero125 fun b1=>?_
 refine aL 14 [] ?_
 refine aO (bO (cs:=[_,_]) T.st125 rfl rfl rfl) ?_
 refine aR 4 [0] ?_
 refine cK (.inr rfl) (Ho:=Hp.only _ []) rfl (.agg 0 rfl rfl T.agg125) (aT _ _) ?_
 exact ⟨by simp only [e,pG],rfl,rfl⟩
theorem dl (G:Imm) (neg:Bool) (a:Option Addr) (c:Nat) (l:List U32) (ha:Arr G a l) (hd:Lims l) (hb:l.length≤1073741824) (hc:l.length≤c) :
 Does Tryz.prog 139 [.bool neg,.slice a l.length c] G [] (fun v G' Ho=>∃ r:IV,v=.agg (Cells.enc r).toArray∧Big G' r (if neg=true then -sI l else sI l)∧Ho=[]):=by
 refine D0 Tryz.func139 Tryz.ntmps139 fun w=>?_
 refine aJ 2 [] ?_
 refine aN 0 rfl T.zero125 fun b1=>?_
 refine aL 6 [] ?_
 refine bX 1 rfl (WI _ _ _ _ sF Li Li) fun v1 G1 Ho1 hle1 hp=>?_
 obtain ⟨na1,nm1,rfl,hna1,hne1,hnt1,hnl1,rfl⟩:=hp
 replace ha:=ha.up hle1
 refine cI rfl (zU _ _ _ _ _ sE) ?_
 refine aR 4 [0] ?_
 refine cK (.inr rfl) (Ho:=Hp.only _ []) rfl (.agg 0 rfl rfl T.agg125) (aT _ _) ?_
 refine ⟨⟨neg && decide (0<nm1.length),na1,nm1.length,nm1.length⟩,rfl,nA neg hna1 (wF hne1 hd) (Dw hne1 hnt1) (aH _) (by rw [wN hne1 hnt1]),rfl⟩
theorem YX (G:Imm) (neg:Bool) (a:Option Addr) (c:Nat) (l:List U32) (z:Int) (h:IsBig neg l z) (h1:l.length≤1073741824) :
 Does Tryz.prog 180 [.agg #[.bool neg,.slice a l.length c]] G [] (fun v G' Ho=>v=.int .i64 (Yh z)∧G'=G∧Ho=[]):=by
 have hz:=h.zero_iff
 have hn:=h.neg_iff
 refine D0 Tryz.func180 Tryz.ntmps180 fun w=>?_
 by_cases h0:l.length=0
 · have hz0:=hz.1 h0
   refine aJ 2 [] ?_
   refine dQ 0 fun b1=>?_
   refine aR 23 [0,1] ?_
   refine cP ?_
   exact ⟨by rw [hz0];rfl,rfl,rfl⟩
 have hz0:z≠0:=fun e=>h0 (hz.2 e)
 by_cases hs:z<0
 · rw [hn,cA hs]
   refine aJ 2 [] ?_
   refine dQ 0 fun b1=>?_
   refine aR 31 [0,0,0,1] ?_
   refine cP ?_
   exact ⟨by unfold Yh;rw [aD hz0,aF hs],rfl,rfl⟩
 rw [hn,bQ hs]
 refine aJ 2 [] ?_
 refine dQ 0 fun b1=>?_
 refine aR 32 [0,0,0,0] ?_
 refine cP ?_
 exact ⟨by unfold Yh;rw [aD hz0,aD hs],rfl,rfl⟩
theorem WJ (G:Imm) (x:IV) (z:Int) (hx:Big G x z) (h1:x.n≤1073741824) :
 Does Tryz.prog 176 [.agg (Cells.enc x).toArray] G [] (fun v G' Ho=>∃ r:IV,v=.agg (Cells.enc r).toArray∧Big G' r (-z)∧G'=G∧Ho=[]):=by
 obtain ⟨neg,a,n,c⟩:=x
 obtain ⟨l,hl,hlc,hA,hI⟩:=hx
 simp only at hl hlc hA hI h1
 subst hl
 show Does Tryz.prog 176 [.agg #[.bool neg,.slice a l.length c]] G [] _
 refine D0 Tryz.func176 Tryz.ntmps176 fun w=>?_
 refine aJ 2 [] ?_
 refine dQ 0 fun b1=>?_
 refine aN 1 rfl T.zero125 fun b2=>?_
 refine aL 9 [0,0] ?_
 refine cI rfl (zU _ _ _ _ _ sE) ?_
 refine aR 4 [1] ?_
 refine cK (.inr rfl) (Ho:=Hp.only _ []) rfl (.agg 1 rfl rfl T.agg125) (aT _ _) ?_
 refine ⟨⟨!neg && decide (0<l.length),a,l.length,c⟩,rfl,nA (!neg) hA hI.digs hI.top hlc ?_,rfl,rfl⟩
 rw [hI.val];cases neg <;> simp
theorem dn (G:Imm) (x:IV) (z:Int) (hx:Big G x z) (h1:x.n≤1073741824) :
 Does Tryz.prog 223 [.agg (Cells.enc x).toArray] G [] (fun v G' Ho=>∃ r:IV,v=.agg (Cells.enc r).toArray∧Big G' r (z.natAbs:Int)∧G'=G∧Ho=[]):=by
 obtain ⟨neg,a,n,c⟩:=x
 obtain ⟨l,hl,hlc,hA,hI⟩:=hx
 simp only at hl hlc hA hI h1
 subst hl
 show Does Tryz.prog 223 [.agg #[.bool neg,.slice a l.length c]] G [] _
 refine D0 Tryz.func223 Tryz.ntmps223 fun w=>?_
 refine aJ 2 [] ?_
 refine dQ 0 fun b1=>?_
 refine aN 1 rfl T.zero125 fun b2=>?_
 refine aL 6 [0] ?_
 refine cI rfl (zU _ _ _ _ _ sE) ?_
 refine aR 4 [1] ?_
 refine cK (.inr rfl) (Ho:=Hp.only _ []) rfl (.agg 1 rfl rfl T.agg125) (aT _ _) ?_
 refine ⟨⟨false && decide (0<l.length),a,l.length,c⟩,rfl,nA false hA hI.digs hI.top hlc ?_,rfl,rfl⟩
 rw [aD (by decide),hI.abs]
theorem Nz (G:Imm) (x:IV) (z:Int) (hx:Big G x z) (h1:x.n≤1073741824) :
 Does Tryz.prog 180 [.agg (Cells.enc x).toArray] G [] (fun v G' Ho=>v=.int .i64 (Yh z)∧G'=G∧Ho=[]):=by
 obtain ⟨n1,a,k1,ca⟩:=x
 obtain ⟨la,hl,hlc,hA,hI⟩:=hx
 simp only at hl hlc hA hI h1
 subst hl
 exact YX G n1 a ca la z hI h1
theorem WK (G:Imm) (x y:IV) (zx zy:Int) (hx:Big G x zx) (hy:Big G y zy) (h1:x.n≤1073741824) (h2:y.n≤1073741824) :
 Does Tryz.prog 137 [.agg (Cells.enc x).toArray,.agg (Cells.enc y).toArray] G [] (fun v G' Ho=>v=.int .i64 (tY zx zy)∧G'=G∧Ho=[]):=by
 obtain ⟨n1,a,k1,ca⟩:=x
 obtain ⟨n2,b,k2,cb⟩:=y
 obtain ⟨la,hl,hlc,hA,hI⟩:=hx
 obtain ⟨lb,hl',hlc',hA',hI'⟩:=hy
 simp only at hl hlc hA hI hl' hlc' hA' hI' h1 h2
 subst hl hl'
 have da:=hI.digs
 have db:=hI'.digs
 have ta:=hI.top
 have tb:=hI'.top
 have va:=hI.abs
 have vb:=hI'.abs
 have na:=hI.neg_iff
 have nb:=hI'.neg_iff
 have cs:∀ u v:Int,u<v→tY u v=-1:=fun u v h=>Ia h
 have cg:∀ u v:Int,v<u→tY u v=1:=fun u v h=>Mm h
 show Does Tryz.prog 137 [.agg #[.bool n1,.slice a la.length ca],.agg #[.bool n2,.slice b lb.length cb]] G [] _
 refine D0 Tryz.func137 Tryz.ntmps137 fun w=>?_
 by_cases sx:zx<0 <;> by_cases sy:zy<0
 · rw [na,nb,cA sx,cA sy]
   refine aJ 2 [] ?_
   refine dQ 0 fun b1=>?_
   refine dQ 1 fun b2=>?_
   refine aL 25 [0,1,1,1,0] ?_
   refine cI rfl (Yd _ _ _ _ _ _ _ sF sF sF sF sE sE sE sE) ?_
   refine aR 6 [] ?_
   refine cP ?_
   exact ⟨by rw [Ny (x:=sI lb) (y:=sI la) (u:=zx) (v:=zy) sE sE],rfl,rfl⟩
 · rw [na,nb,cA sx,bQ sy]
   refine aJ 2 [] ?_
   refine dQ 0 fun b1=>?_
   refine dQ 1 fun b2=>?_
   refine aR 35 [0,1,0,0,1] ?_
   refine cP ?_
   exact ⟨by rw [cs zx zy sE],rfl,rfl⟩
 · rw [na,nb,bQ sx,cA sy]
   refine aJ 2 [] ?_
   refine dQ 0 fun b1=>?_
   refine dQ 1 fun b2=>?_
   refine aR 41 [0,0,0,0,1,1] ?_
   refine cP ?_
   exact ⟨by rw [cg zx zy sE],rfl,rfl⟩
 rw [na,nb,bQ sx,bQ sy]
 refine aJ 2 [] ?_
 refine dQ 0 fun b1=>?_
 refine dQ 1 fun b2=>?_
 refine aL 42 [0,0,0,0,1,0,0,1] ?_
 refine cI rfl (Yd _ _ _ _ _ _ _ sF sF sF sF sE sE sE sE) ?_
 refine aR 4 [] ?_
 refine cP ?_
 exact ⟨by rw [Ny (x:=sI la) (y:=sI lb) (u:=zx) (v:=zy) sE sE],rfl,rfl⟩
theorem WL (G:Imm) (x y:IV) (zx zy:Int) (hx:Big G x zx) (hy:Big G y zy) (h1:x.n≤536870912) (h2:y.n≤536870912) :
 Does Tryz.prog 75 [.agg (Cells.enc x).toArray,.agg (Cells.enc y).toArray] G [] (fun v G' Ho=>∃ r:IV,v=.agg (Cells.enc r).toArray∧Big G' r (zx*zy)∧Ho=[]):=by
 obtain ⟨n1,a,k1,ca⟩:=x
 obtain ⟨n2,b,k2,cb⟩:=y
 obtain ⟨la,hl,hlc,hA,hI⟩:=hx
 obtain ⟨lb,hl',hlc',hA',hI'⟩:=hy
 simp only at hl hlc hA hI hl' hlc' hA' hI' h1 h2
 subst hl hl'
 have da:=hI.digs
 have db:=hI'.digs
 have ta:=hI.top
 have tb:=hI'.top
 show Does Tryz.prog 75 [.agg #[.bool n1,.slice a la.length ca],.agg #[.bool n2,.slice b lb.length cb]] G [] _
 refine D0 Tryz.func75 Tryz.ntmps75 fun w=>?_
 refine aJ 2 [] ?_
 refine dQ 0 fun b1=>?_
 refine dQ 1 fun b2=>?_
 refine aN 2 rfl T.zero125 fun b3=>?_
 refine aZ 3 [] ?_
 refine cX [0,1,2] [(2,11)] T.mixed [[0],[1,0],[2],[3,1]] ?_
 refine dN 4 [] rfl (DR T.u4 rfl rfl) ?_
 refine dE [[5],[6,0],[7],[8,1]] ?_
 refine bV 9 ?_
 refine bX 3 rfl (de _ _ _ _ _ _ _ sF sF sF sF sE sE) fun v1 G1 Ho1 hle1 hp=>?_
 obtain ⟨⟨ra1,rm1,rfl,hra1,hrl1,hrt1,hrv1,hrn1⟩,rfl⟩:=hp
 replace hA:=hA.up hle1
 replace hA':=hA'.up hle1
 refine cG 10 ?_
 refine cI rfl (zU _ _ _ _ _ sE) ?_
 refine cG 11 ?_
 refine aB 1 [2] ?_
 refine eZ ?_
 refine dX 2 [] ?_
 refine cK (.inr rfl) (Ho:=Hp.only _ []) rfl (.agg 2 rfl rfl T.agg125) (aT _ _) ?_
 refine ⟨⟨decide (n1≠n2) && decide (0<rm1.length),ra1,rm1.length,rm1.length⟩,rfl,nA (decide (n1≠n2)) hra1 hrl1 hrt1 (aH _) ?_,rfl⟩
 rw [hrv1,hI.val,hI'.val]
 cases n1 <;> cases n2 <;> simp [fX,iT]
end
theorem LU {n:Int} (h:-9223372036854775808≤n∧n<0):IntKind.u64.wrap (0 - IntKind.u64.wrap n)=-n:=by
 rw [nI,nI];omega
theorem RW (u:Int):sI [(⟨u % 4294967296⟩:U32),⟨u / 4294967296⟩]=u:=by
 rw [uM,uM,tV]
 show u % 4294967296+4294967296*(u / 4294967296+4294967296*0)=u
 omega
theorem LV {u:Int} (h:0≤u∧u<18446744073709551616):Lims [(⟨u % 4294967296⟩:U32),⟨u / 4294967296⟩]:=by
 intro d hd
 simp only [iG,List.mem_nil_iff,or_false] at hd
 rcases hd with rfl | rfl
 · exact Fp u
 show 0≤u / 4294967296∧u / 4294967296<4294967296
 omega
theorem Big.lt {G:Imm} {x:IV} {z:Int} (h:Big G x z):(z.natAbs:Int)<pb x.n:=by
 obtain ⟨l,h1,_,_,h4⟩:=h
 rw [←h4.abs,←h1];exact vW h4.digs
section
attribute [local irreducible] sI pb tY tF
theorem HE (G:Imm) (n:Int) (hn:-9223372036854775808≤n∧n≤9223372036854775807) :
 Does Tryz.prog 78 [.int .i64 n] G [] (fun v G' Ho=>∃ r:IV,v=.agg (Cells.enc r).toArray∧Big G' r n∧Ho=[]):=by
 refine D0 Tryz.func78 Tryz.ntmps78 fun w=>?_
 refine aJ 2 [] ?_
 refine aN 0 rfl T.zero125 fun b1=>?_
 refine aL 5 [] ?_
 refine aO (fN rfl T.u214 rfl) ?_
 refine aZ 3 [] ?_
 refine oH (ι:=Int) (fun u=>([(0,.int .i64 n),(2,.pointer (some ⟨b1,0,none⟩)),(3,.int .u64 u)],[(0,some b1,.cells #[.bool false,.slice none 0 0] 125)])) (fun u=>0≤u∧u<18446744073709551616∧n=if decide (n<0)=true then -u else u) ?_ fun u=>fun (hk:0≤u∧u<18446744073709551616∧n=if decide (n<0)=true then -u else u)=>?_
 · by_cases hneg:n<0
   · refine aJ 9 [1] ?_
     refine aO (oI rfl) ?_
     refine aR 2 [] ?_
     refine cN 3 rfl (show _=Value.int .u64 (-n) by rw [LU ⟨hn.1,hneg⟩]) ?_
     refine mC (-n) ?_
     exact ⟨by omega,by omega,by rw [aF (by simpa using hneg)];omega⟩
   refine bE 8 [0] ?_
   refine cN 3 rfl (show _=Value.int .u64 n by rw [kH _ sE]) ?_
   refine mC (n) ?_
   exact ⟨by omega,by omega,by rw [aD (by simpa using hneg)]⟩
 obtain ⟨hu0,hu1,hun⟩:=hk
 refine aJ 5 [] ?_
 refine aO (iJ rfl T.u215 rfl) ?_
 refine aB 1 [] ?_
 refine aO (gD rfl rfl sE) ?_
 refine aO (kF rfl T.u215 rfl sE) ?_
 refine dY (α:=U32) 1 [⟨u % 4294967296⟩,⟨u / 4294967296⟩] rfl T.sl123 T.el215 rfl rfl rfl rfl rfl fun b2=>?_
 have hd:=LV ⟨hu0,hu1⟩
 refine gB 1 rfl (fM (xs:=[(⟨u % 4294967296⟩:U32),⟨u / 4294967296⟩]) Dd) fun G9 hle9 hA9=>?_
 refine bX 2 rfl (dl _ _ _ _ _ sF sF Li Li) fun v1 G1 Ho1 hle1 hp=>?_
 obtain ⟨r1,rfl,hr1,rfl⟩:=hp
 replace hA9:=hA9.up hle1
 refine aR 4 [0] ?_
 refine cK (.inr rfl) (Ho:=Hp.only _ []) rfl (.agg 0 rfl rfl T.agg125) (aT _ _) ?_
 exact ⟨_,rfl,Big.out hr1 (by rw [RW];exact hun.symm),rfl⟩
theorem LW (G:Imm) (x y:IV) (zx zy:Int) (hx:Big G x zx) (hy:Big G y zy) (h1:x.n≤536870912) (h2:y.n≤536870912) :
 Does Tryz.prog 138 [.agg (Cells.enc x).toArray,.agg (Cells.enc y).toArray] G [] (fun v G' Ho=>∃ r:IV,v=.agg (Cells.enc r).toArray∧Big G' r (zx+zy)∧Ho=[]):=by
 obtain ⟨n1,a,k1,ca⟩:=x
 obtain ⟨n2,b,k2,cb⟩:=y
 obtain ⟨la,hl,hlc,hA,hI⟩:=hx
 obtain ⟨lb,hl',hlc',hA',hI'⟩:=hy
 simp only at hl hlc hA hI hl' hlc' hA' hI' h1 h2
 subst hl hl'
 have da:=hI.digs
 have db:=hI'.digs
 have ta:=hI.top
 have tb:=hI'.top
 have len_le:∀ {l m:List U32},Lims l→Lims m→Top m→sI m≤sI l→m.length≤l.length:=fun {l m} hl hm tm h=>by
  rcases aK l.length m.length with h1 | h1
  · have:=zA hl hm tm h1;omega
  exact h1
 show Does Tryz.prog 138 [.agg #[.bool n1,.slice a la.length ca],.agg #[.bool n2,.slice b lb.length cb]] G [] _
 refine D0 Tryz.func138 Tryz.ntmps138 fun w=>?_
 by_cases hs:n1=n2
 · refine aJ 2 [] ?_
   refine dQ 0 fun b1=>?_
   refine dQ 1 fun b2=>?_
   refine aN 2 rfl T.zero125 fun b3=>?_
   refine aL 9 [0,1] ?_
   refine aO (Ud T.u4 rfl rfl) ?_
   refine aZ 4 [1] ?_
   refine cX [0,1,2] [(2,8)] T.mixed [[0],[1,0],[2],[3,0],[4],[5,1]] ?_
   refine bV 6 ?_
   refine bX 3 rfl (cz _ _ _ _ _ _ _ sF sF sF sF sE sE) fun v1 G1 Ho1 hle1 hp=>?_
   obtain ⟨⟨ra1,rm1,rfl,hra1,hrl1,hrt1,hrv1,hrn1⟩,rfl⟩:=hp
   replace hA:=hA.up hle1
   replace hA':=hA'.up hle1
   refine cG 7 ?_
   refine cI rfl (zU _ _ _ _ _ sE) ?_
   refine cG 8 ?_
   refine aB 1 [2] ?_
   refine eZ ?_
   refine dX 3 [] ?_
   refine cK (.inr rfl) (Ho:=Hp.only _ []) rfl (.agg 2 rfl rfl T.agg125) (aT _ _) ?_
   all_goals
    refine ⟨⟨n1 && decide (0<rm1.length),ra1,rm1.length,rm1.length⟩,rfl,nA n1 hra1 hrl1 hrt1 (aH _) ?_,rfl⟩
    rw [hrv1,hI.val,hI'.val]
    revert hs
    cases n1 <;> cases n2 <;> simp <;> omega
 by_cases hle:sI lb≤sI la
 · have hcmp:¬tY (sI la) (sI lb)<0:=fun h=>by have:=Yg h;omega
   have hll:=len_le da db tb hle
   refine aJ 2 [] ?_
   refine dQ 0 fun b1=>?_
   refine dQ 1 fun b2=>?_
   refine aN 2 rfl T.zero125 fun b3=>?_
   refine aL 9 [0,1] ?_
   refine aO (Ud T.u4 rfl rfl) ?_
   refine aL 12 [0,0,1] ?_
   refine cI rfl (Yd _ _ _ _ _ _ _ sF sF sF sF sE sE sE sE) ?_
   refine aL 12 [0,0,1] ?_
   refine bX 3 rfl (YU _ _ _ _ _ _ _ sF sF sF sF sE sE sE sE sE) fun v1 G1 Ho1 hle1 hp=>?_
   obtain ⟨rq1,rfl,⟨ra1,rm1,rfl,hra1,hrl1,hrt1,hrv1,hrn1⟩,rfl⟩:=hp
   replace hA:=hA.up hle1
   replace hA':=hA'.up hle1
   refine aL 12 [0] ?_
   refine cI rfl (zU _ _ _ _ _ sE) ?_
   refine aR 4 [2] ?_
   refine cK (.inr rfl) (Ho:=Hp.only _ []) rfl (.agg 2 rfl rfl T.agg125) (aT _ _) ?_
   refine ⟨⟨n1 && decide (0<rm1.length),ra1,rm1.length,rm1.length⟩,rfl,nA n1 hra1 hrl1 hrt1 (aH _) ?_,rfl⟩
   rw [hrv1,hI.val,hI'.val]
   revert hs
   cases n1 <;> cases n2 <;> simp <;> omega
 have hcmp:tY (sI la) (sI lb)=-1:=Ia sE
 have hle':sI la≤sI lb:=sE
 have hll:=len_le db da ta hle'
 refine aJ 2 [] ?_
 refine dQ 0 fun b1=>?_
 refine dQ 1 fun b2=>?_
 refine aN 2 rfl T.zero125 fun b3=>?_
 refine aL 9 [0,1] ?_
 refine aO (Ud T.u4 rfl rfl) ?_
 refine aL 12 [0,0,1] ?_
 refine cI rfl (Yd _ _ _ _ _ _ _ sF sF sF sF sE sE sE sE) ?_
 refine aL 17 [1,1,0,0,1,0,1] ?_
 refine bX 3 rfl (YU _ _ _ _ _ _ _ sF sF sF sF sE sE sE sE sE) fun v1 G1 Ho1 hle1 hp=>?_
 obtain ⟨rq1,rfl,⟨ra1,rm1,rfl,hra1,hrl1,hrt1,hrv1,hrn1⟩,rfl⟩:=hp
 replace hA:=hA.up hle1
 replace hA':=hA'.up hle1
 refine aL 12 [0] ?_
 refine cI rfl (zU _ _ _ _ _ sE) ?_
 refine aR 4 [2] ?_
 refine cK (.inr rfl) (Ho:=Hp.only _ []) rfl (.agg 2 rfl rfl T.agg125) (aT _ _) ?_
 refine ⟨⟨n2 && decide (0<rm1.length),ra1,rm1.length,rm1.length⟩,rfl,nA n2 hra1 hrl1 hrt1 (aH _) ?_,rfl⟩
 rw [hrv1,hI.val,hI'.val]
 revert hs
 cases n1 <;> cases n2 <;> simp <;> omega
theorem WM (G:Imm) (x y:IV) (zx zy:Int) (hx:Big G x zx) (hy:Big G y zy) (h1:x.n≤536870912) (h2:y.n≤536870912) :
 Does Tryz.prog 177 [.agg (Cells.enc x).toArray,.agg (Cells.enc y).toArray] G [] (fun v G' Ho=>∃ r:IV,v=.agg (Cells.enc r).toArray∧Big G' r (zx - zy)∧Ho=[]):=by
 refine D0 Tryz.func177 Tryz.ntmps177 fun w=>?_
 refine aJ 2 [] ?_
 refine dQ 0 fun b1=>?_
 refine dQ 1 fun b2=>?_
 refine aN 2 rfl T.zero125 fun b3=>?_
 refine aZ 3 [] ?_
 refine cX [0,1,2] [(2,4)] T.mixed [[0,0],[1,1]] ?_
 refine bV 2 ?_
 refine bX 3 rfl (WJ _ _ _ hy sE) fun v1 G1 Ho1 hle1 hp=>?_
 obtain ⟨nr1,rfl,hnr1,rfl,rfl⟩:=hp
 refine cG 3 ?_
 have hn1:nr1.n≤y.n:=gJ hnr1 (by rw [Int.natAbs_neg];exact Big.lt hy)
 refine bX 20 rfl (LW _ x nr1 zx (-zy) hx hnr1 h1 sE) fun v2 G2 Ho2 hle2 hp=>?_
 obtain ⟨r2,rfl,hr2,rfl⟩:=hp
 refine cG 4 ?_
 refine aB 1 [2] ?_
 refine eZ ?_
 refine dX 2 [] ?_
 refine cK (.inr rfl) (Ho:=Hp.only _ []) rfl (.agg 2 rfl rfl T.agg125) (aT _ _) ?_
 exact ⟨r2,rfl,Big.out hr2 (Int.sub_eq_add_neg).symm,rfl⟩
theorem YY (d s:Nat):pb d*((2 ^ s:Nat):Int)=((2 ^ (32*d+s):Nat):Int):=by
 unfold pb
 rw [←jQ]
 congr 1
 rw [show (4294967296:Nat)=2 ^ 32 by decide,←Nat.pow_mul,←mP]
theorem dq (G:Imm) (x:IV) (zx:Int) (d s:Nat) (hx:Big G x zx) (h1:x.n≤536870912) (hs:s<32) (hd:d≤1000) :
 Does Tryz.prog 247 [.agg (Cells.enc x).toArray,.int .i64 ((32*d+s:Nat):Int)] G [] (fun v G' Ho=>∃ r:IV,v=.tuple #[.agg (Cells.enc r).toArray,.int .i64 0]∧Big G' r (zx*((2 ^ (32*d+s):Nat):Int))∧Ho=[]):=by
 obtain ⟨n1,a,k1,ca⟩:=x
 obtain ⟨la,hl,hlc,hA,hI⟩:=hx
 simp only at hl hlc hA hI h1
 subst hl
 have da:=hI.digs
 show Does Tryz.prog 247 [.agg #[.bool n1,.slice a la.length ca],.int .i64 ((32*d+s:Nat):Int)] G [] _
 refine D0 Tryz.func247 Tryz.ntmps247 fun w=>?_
 refine aJ 2 [] ?_
 refine dQ 0 fun b1=>?_
 refine aN 1 rfl T.zero125 fun b2=>?_
 refine aL 8 [0] ?_
 refine bX 2 rfl (YV _ _ _ _ d s sF sF sE hs hd) fun v1 G1 Ho1 hle1 hp=>?_
 obtain ⟨rq1,rfl,⟨ra1,rm1,rfl,hra1,hrl1,hrt1,hrv1,hrn1⟩,rfl⟩:=hp
 replace hA:=hA.up hle1
 refine aL 22 [0,0] ?_
 refine cI rfl (zU _ _ _ _ _ sE) ?_
 refine aR 5 [1] ?_
 refine fS (.inr rfl) (Ho:=Hp.only _ []) rfl (.agg 1 rfl rfl T.agg125) (.tmp rfl) (aT _ _) ?_
 refine ⟨⟨n1 && decide (0<rm1.length),ra1,rm1.length,rm1.length⟩,rfl,nA n1 hra1 hrl1 hrt1 (aH _) ?_,rfl⟩
 rw [hrv1,hI.val,YY]
 cases n1
 · rw [aD (by decide),aD (by decide),cD]
 rw [aF rfl,aF rfl,fX,cD]
end
end Go.Proofs.YtfdcckcadfhpeaaGreatDoor
namespace Go.Sl
open Go
section
variable {B:Bs} {e:Env} {D:List Deferred} {H:Hp} {G:Imm}
theorem retagH {a:Act} {w:World} (hh:Hold B ⟨e,D,H,G⟩ a w) (t t':Nat) {k:Option Nat} {o:Obj} (ht:H.get t=some (k,o)) (hn:t≠t') (hk:H.get t'=none∨True):Hold B ⟨e,D,(t',k,o) :: (t,none,o) :: H,G⟩ a w:=by
 have key:∀ i b o',Hp.get ((t',k,o) :: (t,none,o) :: H) i=some (some b,o')→(i=t'∧H.get t=some (some b,o'))∨(i≠t'∧i≠t∧H.get i=some (some b,o')):=fun i b o' hx=>by
  rw [bH] at hx
  split at hx
  · rename_i hi;left;refine ⟨hi.symm,?_⟩;rw [ht];exact hx
  rename_i hi
  rw [bH] at hx
  split at hx
  · simp at hx
  rename_i hi2;exact .inr ⟨fun h=>hi h.symm,fun h=>hi2 h.symm,hx⟩
 refine ⟨hh.size,hh.defers,hh.env,⟨?_,?_,hh.mem.imm,?_⟩,hh.upd,?_,hh.le,hh.new⟩
 · intro i b o' hx
   rcases key i b o' hx with ⟨_,h⟩ | ⟨_,_,h⟩
   · exact hh.mem.own _ b o' h
   exact hh.mem.own _ b o' h
 · intro i i' b o1 o2 hx hy
   rcases key i b o1 hx with ⟨h1,h2⟩ | ⟨h1,h1',h2⟩ <;> rcases key i' b o2 hy with ⟨h3,h4⟩ | ⟨h3,h3',h4⟩
   · rw [h1,h3]
   · exact absurd (hh.mem.one _ _ b _ _ h2 h4).symm h3'
   · exact absurd (hh.mem.one _ _ b _ _ h2 h4) h1'
   exact hh.mem.one _ _ b _ _ h2 h4
 · intro i b o' hx
   rcases key i b o' hx with ⟨_,h⟩ | ⟨_,_,h⟩
   · exact hh.mem.off _ b o' h
   exact hh.mem.off _ b o' h
 intro i b o' hx
 rcases key i b o' hx with ⟨_,h⟩ | ⟨_,_,h⟩
 · exact hh.mine _ b o' h
 exact hh.mine _ b o' h
theorem Ar.retag {x:Exit} {Q:Exit→Act→World→Prop} (t t':Nat) {k:Option Nat} {o:Obj} (ht:H.get t=some (k,o)) (hn:Nat.beq t t'=false) (h:Ar Q x B ⟨e,D,(t',k,o) :: (t,none,o) :: H,G⟩):Ar Q x B ⟨e,D,H,G⟩:=
 fun a w hh=>h a w (retagH hh t t' ht (fun e=>by subst e;simp at hn) (.inr trivial))
end
end Go.Sl
namespace Go.Proofs.YtfdcckcadfhpeaaGreatDoor
open Go Go.Sl
theorem LX (z:Int):-1≤Yh z∧Yh z≤1:=by unfold Yh;split;exact ⟨by omega,by omega⟩;split <;> exact ⟨by omega,by omega⟩
theorem RX (z:Int):-9223372036854775808≤Yh z∧Yh z≤9223372036854775807:=by have:=LX z;omega
theorem RY (z:Int):((Yh z).natAbs:Int)<pb 1:=by have:=LX z;have:pb 1=4294967296:=sN;omega
theorem RZ (z:Int):Yh z*z=z.natAbs:=by
 unfold Yh
 split
 · omega
 split <;> omega
theorem ED {x y q r:Int} (hy:y≠0) (h:x=q*y+r) (h0:0≤r) (h1:r<y.natAbs):q=x / y∧r=x % y:=by
 rcases Int.lt_or_gt_of_ne hy with hn | hp
 · have:=(Int.ediv_emod_unique' (a:=x) (b:=y) (r:=r) (q:=q) hn).2 ⟨by rw [cD y q];omega,h0,by omega⟩
   exact ⟨this.1.symm,this.2.symm⟩
 have:=(qS (a:=x) (b:=y) (r:=r) (q:=q) hp).2 ⟨by rw [cD y q];omega,h0,by omega⟩
 exact ⟨this.1.symm,this.2.symm⟩
theorem LY {n1 n2:Bool} {x y la lb lq lr:Int} (hx:x=if n1=true then -la else la) (hy:y=if n2=true then -lb else lb) (hv:la=lq*lb+lr) :
 x=(if decide (n1≠n2)=true then -lq else lq)*y+(if n1=true then -lr else lr):=by
 subst hx hy hv
 cases n1 <;> cases n2 <;> simp [fX,iT,Int.neg_add]
theorem SA {x y q r:Int} (h:x=q*y+r):x=(q - Yh y)*y+(r+y.natAbs):=by
 have:=RZ y
 rw [kN,this];omega
theorem SB {n1:Bool} {m:List U32} {q x y:Int} (hx:x=q*y+(if n1=true then -sI m else sI m)) (hy:y≠0) (hl:sI m<y.natAbs) (h:(n1 && decide (0<m.length))=true) (ht:Top m) (hd:Lims m) :
 q - Yh y=x / y∧(if n1=true then -sI m else sI m)+(y.natAbs:Int)=x % y:=by
 rw [aU,aS] at h
 have hp:=Nv hd ht (fun e=>by have:=h.2;rw [e] at this;simp at this)
 have e:=h.1
 subst e
 rw [aF rfl] at hx ⊢
 exact ED hy (SA hx) sE sE
theorem LZ {n1:Bool} {m:List U32} {q x y:Int} (hx:x=q*y+(if n1=true then -sI m else sI m)) (hy:y≠0) (hl:sI m<y.natAbs) (h:(n1 && decide (0<m.length))=false) (hd:Lims m) :
 q=x / y∧(if n1=true then -sI m else sI m)=x % y:=by
 have hn:=tS hd
 refine ED hy hx ?_ ?_
 · cases n1 with
   | false=>rw [aD (by decide)];exact hn
   | true =>
     have h0:m=[]:=by
      rw [pG,pI] at h
      exact dT sE
     rw [aF rfl,h0,tV]
     omega
 split <;> omega
section
attribute [local irreducible] sI pb tY tF
theorem YZ (G:Imm) (x y:IV) (zx zy:Int) (hx:Big G x zx) (hy:Big G y zy) (h1:x.n≤268435456) (h2:y.n≤268435456) (hy0:zy≠0) :
 Does Tryz.prog 179 [.agg (Cells.enc x).toArray,.agg (Cells.enc y).toArray] G [] (fun v G' Ho=>∃ q r:IV,v=.tuple #[.agg (Cells.enc q).toArray,.agg (Cells.enc r).toArray,.int .i64 0]∧Big G' q (zx / zy)∧Big G' r (zx % zy)∧Ho=[]):=by
 obtain ⟨n1,a,k1,ca⟩:=x
 obtain ⟨n2,b,k2,cb⟩:=y
 obtain ⟨la,hl,hlc,hA,hI⟩:=hx
 obtain ⟨lb,hl',hlc',hA',hI'⟩:=hy
 simp only at hl hlc hA hI hl' hlc' hA' hI' h1 h2
 subst hl hl'
 have da:=hI.digs
 have db:=hI'.digs
 have ta:=hI.top
 have tb:=hI'.top
 have h1':la.length≤536870912:=sE
 have h2':lb.length≤536870912:=sE
 have va:=hI.abs
 have vb:=hI'.abs
 have hlt:=vW db
 have hB:0<sI lb:=sE
 show Does Tryz.prog 179 [.agg #[.bool n1,.slice a la.length ca],.agg #[.bool n2,.slice b lb.length cb]] G [] _
 refine D0 Tryz.func179 Tryz.ntmps179 fun w=>?_
 refine aJ 2 [] ?_
 refine dQ 0 fun b1=>?_
 refine dQ 1 fun b2=>?_
 refine aN 2 rfl T.zero125 fun b3=>?_
 refine aN 3 rfl T.zero125 fun b4=>?_
 refine aL 9 [0,1] ?_
 refine bX 4 rfl (dk _ _ _ _ _ _ _ sF sF da ta db h1' h2' hlc hlc' hB) fun v1 G1 Ho1 hle1 hp=>?_
 obtain ⟨_,_,rfl,⟨qa1,qm1,rfl,hqa1,hql1,hqt1,hqv1,hqn1⟩,⟨ra1,rm1,rfl,hra1,hrl1,hrt1,hrv1,hrn1⟩,rfl⟩:=hp
 replace hA:=hA.up hle1
 replace hA':=hA'.up hle1
 refine aZ 19 [0] ?_
 refine oH (ι:=Nat×Nat) (fun (p,q)=>([(10,.pointer (some ⟨p,0,none⟩)),(11,.pointer (some ⟨q,0,none⟩)),(6,.int .i64 0),(5,.pointer (some (Addr.mk b4 0 none))),(4,.pointer (some (Addr.mk b3 0 none))),(3,.pointer (some ⟨b2,0,none⟩))],[(60,some p,.cells #[.bool (decide (n1≠n2) && decide (0<qm1.length)),.slice qa1 qm1.length qm1.length] 125),(61,some q,.cells #[.bool (n1 && decide (0<rm1.length)),.slice ra1 rm1.length rm1.length] 125),(3,some b4,.cells #[.bool Bool.false,.slice none 0 0] 125),(2,some b3,.cells #[.bool Bool.false,.slice none 0 0] 125),(1,some b2,.cells #[.bool n2,.slice b (List.length lb) cb] 125),(0,some b1,.cells #[.bool n1,.slice a (List.length la) ca] 125)])) (fun (p,q)=>True) ?_ fun ⟨p,q⟩=>fun (hk:True)=>?_
 · refine cX [0,1,2,3] [] T.mixed [[0],[1,0],[2],[3,1]] ?_
   refine dN 4 [] rfl (DR T.u4 rfl rfl) ?_
   refine dE [[5],[7],[8,0],[9]] ?_
   refine Gm.o3 6 11 12 ?_ ?_ ?_
   refine cI rfl (zU _ _ _ _ _ sE) ?_
   refine bD ?_
   refine Gm.o3 10 11 12 ?_ ?_ ?_
   refine cI rfl (zU _ _ _ _ _ sE) ?_
   refine bD ?_
   refine nD 11 12 ?_ ?_
   refine aN 4 rfl T.zero125 fun b5=>?_
   refine cG 12 ?_
   refine aN 5 rfl T.zero125 fun b6=>?_
   refine cG 13 ?_
   refine aB 1 [4] ?_
   refine cG 14 ?_
   refine aB 1 [5] ?_
   refine eZ ?_
   rotate_left
   refine aN 4 rfl T.zero125 fun b5=>?_
   refine cG 11 ?_
   refine aN 5 rfl T.zero125 fun b6=>?_
   refine cG 13 ?_
   refine aB 1 [5] ?_
   refine cG 14 ?_
   refine aB 1 [4] ?_
   refine eZ ?_
   rotate_left
   refine aN 4 rfl T.zero125 fun b5=>?_
   refine bD ?_
   refine nD 10 12 ?_ ?_
   refine cI rfl (zU _ _ _ _ _ sE) ?_
   refine cG 12 ?_
   refine aN 5 rfl T.zero125 fun b6=>?_
   refine cG 13 ?_
   refine aB 1 [4] ?_
   refine cG 14 ?_
   refine aB 1 [5] ?_
   refine eZ ?_
   rotate_left
   refine aN 5 rfl T.zero125 fun b6=>?_
   refine cG 10 ?_
   refine cI rfl (zU _ _ _ _ _ sE) ?_
   refine cG 13 ?_
   refine aB 1 [4] ?_
   refine cG 14 ?_
   refine aB 1 [5] ?_
   refine eZ ?_
   rotate_left
   refine aN 4 rfl T.zero125 fun b5=>?_
   refine bD ?_
   refine nD 10 11 ?_ ?_
   refine cI rfl (zU _ _ _ _ _ sE) ?_
   refine cG 11 ?_
   refine aN 5 rfl T.zero125 fun b6=>?_
   refine cG 13 ?_
   refine aB 1 [5] ?_
   refine cG 14 ?_
   refine aB 1 [4] ?_
   refine eZ ?_
   rotate_left
   refine aN 5 rfl T.zero125 fun b6=>?_
   refine cG 10 ?_
   refine cI rfl (zU _ _ _ _ _ sE) ?_
   refine cG 13 ?_
   refine aB 1 [5] ?_
   refine cG 14 ?_
   refine aB 1 [4] ?_
   refine eZ ?_
   rotate_left
   refine aN 4 rfl T.zero125 fun b5=>?_
   refine bD ?_
   refine nD 6 12 ?_ ?_
   refine cI rfl (zU _ _ _ _ _ sE) ?_
   refine bD ?_
   refine nD 10 12 ?_ ?_
   refine cI rfl (zU _ _ _ _ _ sE) ?_
   refine cG 12 ?_
   refine aN 5 rfl T.zero125 fun b6=>?_
   refine cG 13 ?_
   refine aB 1 [4] ?_
   refine cG 14 ?_
   refine aB 1 [5] ?_
   refine eZ ?_
   rotate_left
   refine aN 5 rfl T.zero125 fun b6=>?_
   refine cG 10 ?_
   refine cI rfl (zU _ _ _ _ _ sE) ?_
   refine cG 13 ?_
   refine aB 1 [4] ?_
   refine cG 14 ?_
   refine aB 1 [5] ?_
   refine eZ ?_
   rotate_left
   refine aN 5 rfl T.zero125 fun b6=>?_
   refine cG 6 ?_
   refine cI rfl (zU _ _ _ _ _ sE) ?_
   refine cG 10 ?_
   refine cI rfl (zU _ _ _ _ _ sE) ?_
   refine cG 13 ?_
   refine aB 1 [4] ?_
   refine cG 14 ?_
   refine aB 1 [5] ?_
   refine eZ ?_
   rotate_left
   refine aN 4 rfl T.zero125 fun b5=>?_
   refine bD ?_
   refine nD 6 11 ?_ ?_
   refine cI rfl (zU _ _ _ _ _ sE) ?_
   refine bD ?_
   refine nD 10 11 ?_ ?_
   refine cI rfl (zU _ _ _ _ _ sE) ?_
   refine cG 11 ?_
   refine aN 5 rfl T.zero125 fun b6=>?_
   refine cG 13 ?_
   refine aB 1 [5] ?_
   refine cG 14 ?_
   refine aB 1 [4] ?_
   refine eZ ?_
   rotate_left
   refine aN 5 rfl T.zero125 fun b6=>?_
   refine cG 10 ?_
   refine cI rfl (zU _ _ _ _ _ sE) ?_
   refine cG 13 ?_
   refine aB 1 [5] ?_
   refine cG 14 ?_
   refine aB 1 [4] ?_
   refine eZ ?_
   rotate_left
   refine aN 5 rfl T.zero125 fun b6=>?_
   refine cG 6 ?_
   refine cI rfl (zU _ _ _ _ _ sE) ?_
   refine cG 10 ?_
   refine cI rfl (zU _ _ _ _ _ sE) ?_
   refine cG 13 ?_
   refine aB 1 [5] ?_
   refine cG 14 ?_
   refine aB 1 [4] ?_
   refine eZ ?_
   rotate_left
   all_goals first | (refine Ar.retag 4 60 rfl rfl (Ar.retag 5 61 rfl rfl (lZ (b5,b6) trivial rfl ?_ ?_)) <;> (repeat (first | exact trivial | refine ⟨rfl,?_⟩));done) | (refine Ar.retag 5 60 rfl rfl (Ar.retag 4 61 rfl rfl (lZ (b6,b5) trivial rfl ?_ ?_)) <;> (repeat (first | exact trivial | refine ⟨rfl,?_⟩));done)
 have hxy:=LY hI.val hI'.val (show sI la=sI qm1*sI lb+sI rm1 by rw [hqv1,hrv1,cD];exact (Int.mul_ediv_add_emod (sI la) (sI lb)).symm)
 have hrlt:sI rm1<sI lb:=by rw [hrv1];exact gA _ hB
 have hQ0:=nA (decide (n1≠n2)) hqa1 hql1 hqt1 (aH _) rfl
 have hy2:Big G1 ⟨n2,b,lb.length,cb⟩ zy:=⟨lb,rfl,hlc',hA',hI'⟩
 have hR0:=nA n1 hra1 hrl1 hrt1 (aH _) rfl
 refine bJ 7 [61] ?_
 refine kZ rfl (fun hc1=>?_) fun hc1=>?_
 refine dF ?_
 refine cX [0,1,2,3,61,60] [(61,4)] T.mixed [[0,61],[1,1]] ?_
 refine bV 2 ?_
 refine bX 62 rfl (dn _ ⟨n2,b,lb.length,cb⟩ zy hy2 (aV h2' sN)) fun v2 G2 Ho2 hle2 hp=>?_
 obtain ⟨nr2,rfl,hnr2,rfl,rfl⟩:=hp
 refine cG 3 ?_
 refine bX 62 rfl (LW _ ⟨(n1 && decide (0<rm1.length)),ra1,rm1.length,rm1.length⟩ nr2 _ _ hR0 hnr2 (aV hrn1 h2') (aV (gJ hnr2 (m:=lb.length) sE) h2')) fun v3 G3 Ho3 hle3 hp=>?_
 obtain ⟨rs3,rfl,hrs3,rfl⟩:=hp
 replace hnr2:=hnr2.up hle3
 replace hqa1:=hqa1.up hle3
 replace hra1:=hra1.up hle3
 replace hA:=hA.up hle3
 replace hA':=hA'.up hle3
 replace hQ0:=hQ0.up hle3
 replace hy2:=hy2.up hle3
 replace hR0:=hR0.up hle3
 refine cG 4 ?_
 refine aB 1 [61] ?_
 refine eZ ?_
 refine cO ?_
 refine cX [0,1,2,3,60,61] [(60,5)] T.mixed [[0,60],[1,1]] ?_
 refine bV 2 ?_
 refine cI rfl (YX _ _ _ _ _ zy hI' sE) ?_
 refine cG 3 ?_
 refine bX 62 rfl (HE _ _ (RX zy)) fun v4 G4 Ho4 hle4 hp=>?_
 obtain ⟨ro4,rfl,hro4,rfl⟩:=hp
 replace hrs3:=hrs3.up hle4
 replace hnr2:=hnr2.up hle4
 replace hqa1:=hqa1.up hle4
 replace hra1:=hra1.up hle4
 replace hA:=hA.up hle4
 replace hA':=hA'.up hle4
 replace hQ0:=hQ0.up hle4
 replace hy2:=hy2.up hle4
 replace hR0:=hR0.up hle4
 refine cG 4 ?_
 refine bX 62 rfl (WM _ ⟨(decide (n1≠n2) && decide (0<qm1.length)),qa1,qm1.length,qm1.length⟩ ro4 _ _ hQ0 hro4 (aV hqn1 h1') (aV (gJ hro4 (m:=1) (RY zy)) sN)) fun v5 G5 Ho5 hle5 hp=>?_
 obtain ⟨rd5,rfl,hrd5,rfl⟩:=hp
 replace hro4:=hro4.up hle5
 replace hrs3:=hrs3.up hle5
 replace hnr2:=hnr2.up hle5
 replace hqa1:=hqa1.up hle5
 replace hra1:=hra1.up hle5
 replace hA:=hA.up hle5
 replace hA':=hA'.up hle5
 replace hQ0:=hQ0.up hle5
 replace hy2:=hy2.up hle5
 replace hR0:=hR0.up hle5
 refine cG 5 ?_
 refine aB 1 [60] ?_
 refine eZ ?_
 refine mD 2 [] ?_
 refine cX [0,1,2,3,61,60] [(3,3),(2,2)] T.mixed [[0,60],[1,61]] ?_
 refine bV 2 ?_
 refine aB 1 [2] ?_
 refine cG 3 ?_
 refine aB 1 [3] ?_
 refine bD ?_
 refine dE [[4]] ?_
 refine cZ ?_
 refine dX 2 [] ?_
 refine rC (.inr rfl) (Ho:=Hp.only _ []) rfl (.agg 2 rfl rfl T.agg125) (.agg 3 rfl rfl T.agg125) (.tmp rfl) (aT _ _) ?_
 rotate_left
 refine bJ 3 [] ?_
 refine cX [0,1,2,3,61,60] [(3,3),(2,2)] T.mixed [[0,60],[1,61]] ?_
 refine bV 2 ?_
 refine aB 1 [2] ?_
 refine cG 3 ?_
 refine aB 1 [3] ?_
 refine bD ?_
 refine dE [[4]] ?_
 refine cZ ?_
 refine dX 2 [] ?_
 refine rC (.inr rfl) (Ho:=Hp.only _ []) rfl (.agg 2 rfl rfl T.agg125) (.agg 3 rfl rfl T.agg125) (.tmp rfl) (aT _ _) ?_
 rotate_left
 · have he:=SB hxy hy0 sE hc1 hrt1 hrl1
   refine ⟨rd5,rs3,rfl,?_,?_,rfl⟩
   · rw [←he.1];exact hrd5
   rw [←he.2];exact hrs3
 have he:=LZ hxy hy0 sE hc1 hrl1
 refine ⟨⟨(decide (n1≠n2) && decide (0<qm1.length)),qa1,qm1.length,qm1.length⟩,⟨(n1 && decide (0<rm1.length)),ra1,rm1.length,rm1.length⟩,rfl,?_,?_,rfl⟩
 · rw [←he.1];exact hQ0
 rw [←he.2];exact hR0
end
theorem SC {α:Type} [Cells α] {G:Imm} {a:Option Addr} {c sz:Nat} {l:List α} (h:Arr G a l) (n:Nat):Arr G (subA a c 0 sz) (l.take n):=by
 refine ⟨sV _,?_⟩
 rcases h.2 with h0 | ⟨b,o,rfl,hr⟩
 · left;rw [bG];omega
 refine .inr ⟨b,o,?_,fun i v hi=>hr i v ?_⟩
 · unfold subA
   split
   · rfl
   simp [Addr.add]
 have e:sY l=sY (l.take n)++sY (l.drop n):=by rw [←vD,fC]
 rw [e,bB (bZ.1 hi).1];exact hi
theorem dt (G:Imm) (op:Int):Does Tryz.prog 161 [.int .i64 op] G [] (fun v G' Ho=>v=.bool (decide (op=3∨op=4))∧G'=G∧Ho=[]):=by
 refine D0 Tryz.func161 Tryz.ntmps161 fun w=>?_
 refine aJ 10 [] ?_
 apply dP 3 5 8 rfl
 intro hg1
 refine aB 5 [] ?_
 exact dA 3 0
 intro hg1
 refine aB 3 [] ?_
 exact dA 3 0
 refine aR 4 [] ?_
 refine cP ?_
 exact ⟨by simp,rfl,rfl⟩
def sT (op c:Int):Bool:=
 if op=5∨op=6 then decide (c≠0∧-512≤c∧c≤512) else if op=7∨op=8 then decide (1≤c∧c≤64) else decide (c=0)
theorem dx (G:Imm) (i:Sl.Instr):Does Tryz.prog 162 [.agg (Cells.enc i).toArray] G [] (fun v G' Ho=>v=.bool (decide (sT i.op i.c=true))∧G'=G∧Ho=[]):=by
 refine D0 Tryz.func162 Tryz.ntmps162 fun w=>?_
 refine aJ 2 [] ?_
 refine dQ 0 fun b1=>?_
 refine aZ 18 [0] ?_
 refine cT (fun hc1=>?_) fun hc1=>?_
 refine aJ 9 [1,0] ?_
 apply bW 4 11 15 rfl
 intro hg1
 refine aB 7 [0] ?_
 exact dA 4 0
 intro hg1
 refine aB 4 [] ?_
 exact dA 4 0
 refine aB 1 [] ?_
 apply bW 4 16 20 rfl
 intro hg1
 refine aB 7 [0] ?_
 exact dA 4 0
 intro hg1
 refine aB 4 [] ?_
 exact dA 4 0
 refine aR 6 [] ?_
 refine cP ?_
 rotate_left
 refine bJ 5 [] ?_
 refine cT (fun hc2=>?_) fun hc2=>?_
 refine aJ 6 [0] ?_
 apply bW 4 11 15 rfl
 intro hg1
 refine aB 7 [0] ?_
 exact dA 4 0
 intro hg1
 refine aB 4 [] ?_
 exact dA 4 0
 refine aB 1 [] ?_
 apply bW 4 16 20 rfl
 intro hg1
 refine aB 7 [0] ?_
 exact dA 4 0
 intro hg1
 refine aB 4 [] ?_
 exact dA 4 0
 refine aR 6 [] ?_
 refine cP ?_
 rotate_left
 refine bJ 7 [] ?_
 refine cT (fun hc3=>?_) fun hc3=>?_
 refine aJ 9 [1,0] ?_
 apply bW 4 27 31 rfl
 intro hg1
 refine aB 7 [0] ?_
 exact dA 4 0
 intro hg1
 refine aB 4 [] ?_
 exact dA 4 0
 refine aR 6 [] ?_
 refine cP ?_
 rotate_left
 refine bJ 5 [] ?_
 refine cT (fun hc4=>?_) fun hc4=>?_
 refine aJ 6 [0] ?_
 apply bW 4 27 31 rfl
 intro hg1
 refine aB 7 [0] ?_
 exact dA 4 0
 intro hg1
 refine aB 4 [] ?_
 exact dA 4 0
 refine aR 6 [] ?_
 refine cP ?_
 rotate_left
 refine bE 12 [0] ?_
 refine cP ?_
 rotate_left
 all_goals refine ⟨?_,rfl,rfl⟩
 all_goals simp [sT, *]
 all_goals first | (split <;> first | rfl | omega) | omega | (simp only [Bool.and_assoc];rfl) | (simp only [Bool.and_assoc]) | skip
def sS (i:Sl.Instr):List Int:=if i.op=3∨i.op=4 then [i.a,i.b] else if 1≤i.op∧i.op≤8 then [i.a] else []
theorem HF (G:Imm) (i:Sl.Instr):Does Tryz.prog 83 [.agg (Cells.enc i).toArray] G [] (fun v G' Ho=>∃ a c junk,v=.slice a (sS i).length c∧OwnA a c (sS i) junk∧Ho=[(1,a.map (·.block),Row 3 (sS i) junk)]∧G'=G):=by
 refine D0 Tryz.func83 Tryz.ntmps83 fun w=>?_
 refine aJ 2 [] ?_
 refine dQ 0 fun b1=>?_
 refine aZ 18 [0] ?_
 refine cT (fun hc1=>?_) fun hc1=>?_
 refine aJ 9 [1,0,0] ?_
 refine dY (α:=Int) 1 [(Go.Sl.Instr.a i),(Go.Sl.Instr.b i)] rfl T.sl24 T.el3 rfl rfl rfl rfl rfl fun b2=>?_
 refine aR 6 [] ?_
 rotate_left
 refine bJ 5 [] ?_
 refine cT (fun hc2=>?_) fun hc2=>?_
 refine aJ 6 [0,0] ?_
 refine dY (α:=Int) 1 [(Go.Sl.Instr.a i),(Go.Sl.Instr.b i)] rfl T.sl24 T.el3 rfl rfl rfl rfl rfl fun b2=>?_
 refine aR 6 [] ?_
 rotate_left
 refine bJ 7 [] ?_
 refine cT (fun hc3=>?_) fun hc3=>?_
 refine aJ 7 [1,0] ?_
 refine dY (α:=Int) 1 [(Go.Sl.Instr.a i)] rfl T.sl24 T.el3 rfl rfl rfl rfl rfl fun b2=>?_
 refine aR 6 [] ?_
 rotate_left
 refine bJ 6 [] ?_
 refine cT (fun hc4=>?_) fun hc4=>?_
 refine aJ 7 [1,0] ?_
 refine dY (α:=Int) 1 [(Go.Sl.Instr.a i)] rfl T.sl24 T.el3 rfl rfl rfl rfl rfl fun b2=>?_
 refine aR 6 [] ?_
 rotate_left
 refine bJ 6 [] ?_
 refine cT (fun hc5=>?_) fun hc5=>?_
 refine aJ 7 [1,0] ?_
 refine dY (α:=Int) 1 [(Go.Sl.Instr.a i)] rfl T.sl24 T.el3 rfl rfl rfl rfl rfl fun b2=>?_
 refine aR 6 [] ?_
 rotate_left
 refine bJ 6 [] ?_
 refine cT (fun hc6=>?_) fun hc6=>?_
 refine aJ 7 [1,0] ?_
 refine dY (α:=Int) 1 [(Go.Sl.Instr.a i)] rfl T.sl24 T.el3 rfl rfl rfl rfl rfl fun b2=>?_
 refine aR 6 [] ?_
 rotate_left
 refine bJ 6 [] ?_
 refine cT (fun hc7=>?_) fun hc7=>?_
 refine aJ 7 [1,0] ?_
 refine dY (α:=Int) 1 [(Go.Sl.Instr.a i)] rfl T.sl24 T.el3 rfl rfl rfl rfl rfl fun b2=>?_
 refine aR 6 [] ?_
 rotate_left
 refine bJ 5 [] ?_
 refine cT (fun hc8=>?_) fun hc8=>?_
 refine aJ 4 [0] ?_
 refine dY (α:=Int) 1 [(Go.Sl.Instr.a i)] rfl T.sl24 T.el3 rfl rfl rfl rfl rfl fun b2=>?_
 refine aR 6 [] ?_
 rotate_left
 refine bE 9 [] ?_
 rotate_left
 rotate_right
 · have h:sS i=[]:=by unfold sS;rw [aD (by omega),aD (by omega)]
   refine Ju 1 (Row 3 ([]:List Int) []) ?_
   refine mB [1] ?_
   rw [h];exact ⟨_,_,_,rfl,eD,rfl,rfl⟩
 all_goals first | refine cK (.inr rfl) (Ho:=Hp.only _ [1]) rfl (.tmp rfl) (aT _ _) ?_
 all_goals first
  | (have h:sS i=[i.a,i.b]:=by unfold sS;rw [aF (by omega)]
     rw [h];exact ⟨_,_,_,rfl,fM Dd,rfl,rfl⟩)
  | (have h:sS i=[i.a]:=by unfold sS;rw [aD (by omega),aF (by omega)]
     rw [h];exact ⟨_,_,_,rfl,fM Dd,rfl,rfl⟩)
  | skip
def sP (i:Sl.Instr) (regs:Int):Bool:=
 decide (1≤i.op∧i.op≤8∧0≤i.to∧i.to<regs∧(i.op=3∨i.op=4∨i.b=0)) && sT i.op i.c && (sS i).all fun r=>decide (0≤r∧r<regs)
theorem Ic {α:Type} [Inhabited α] (p:α→Bool) {l:List α} {k:Nat} (h:k<l.length):(l.take (k+1)).all p=((l.take k).all p && p (l[((k:Nat):Int).toNat]?.getD default)):=by
 have:l.take (k+1)=l.take k++[l[(k:Int).toNat]?.getD default]:=by
  rw [cB,aE,aA h];rfl
 rw [this,List.all_append];simp
theorem dy (G:Imm) (i:Sl.Instr) (regs:Int):Does Tryz.prog 112 [.agg (Cells.enc i).toArray,.int .i64 regs] G [] (fun v G' Ho=>v=.bool (decide (sP i regs=true))∧G'=G∧Ho=[]):=by
 refine D0 Tryz.func112 Tryz.ntmps112 fun w=>?_
 refine aJ 2 [] ?_
 refine dQ 0 fun b1=>?_
 refine aL 10 [0] ?_
 apply dP 4 10 14 rfl
 intro hg1
 refine aB 7 [0] ?_
 exact dA 4 0
 intro hg1
 refine aB 4 [] ?_
 exact dA 4 0
 refine aB 1 [] ?_
 apply dP 4 15 19 rfl
 intro hg1
 refine aB 7 [0] ?_
 exact dA 4 0
 intro hg1
 refine aB 4 [] ?_
 exact dA 4 0
 refine aB 1 [] ?_
 apply dP 5 20 25 rfl
 intro hg1
 refine aB 9 [0] ?_
 exact dA 5 0
 intro hg1
 refine aB 5 [] ?_
 exact dA 5 0
 refine aB 1 [] ?_
 apply dP 10 26 36 rfl
 intro hg1
 refine aB 5 [0] ?_
 refine cI rfl (dt _ _) ?_
 refine aB 1 [] ?_
 refine aO (fF rfl) ?_
 refine aB 2 [] ?_
 apply bW 4 31 35 rfl
 intro hg1
 refine aB 8 [0] ?_
 exact dA 4 0
 intro hg1
 refine aB 5 [] ?_
 exact dA 4 0
 refine aB 1 [] ?_
 exact dA 7 0
 intro hg1
 refine aB 5 [] ?_
 refine No rfl rfl rfl ?_
 refine No rfl rfl rfl ?_
 refine No rfl rfl rfl ?_
 refine aB 2 [] ?_
 exact dA 10 0
 refine aB 1 [] ?_
 apply dP 4 37 41 rfl
 intro hg1
 refine aB 3 [0] ?_
 refine cI rfl (dx _ _) ?_
 refine aB 1 [] ?_
 refine aO (fF rfl) ?_
 refine aB 1 [] ?_
 exact dA 4 0
 intro hg1
 refine aB 4 [] ?_
 exact dA 4 0
 refine aZ 2 [] ?_
 refine cT (fun hc1=>?_) fun hc1=>?_
 refine bE 7 [] ?_
 refine cP ?_
 rotate_left
 refine aJ 6 [0] ?_
 refine bX 1 rfl (HF _ _) fun v1 G1 Ho1 hle1 hp=>?_
 obtain ⟨ad1,cd1,junk1,rfl,hoa1,rfl,rfl⟩:=hp
 refine aZ 5 [] ?_
 rotate_left
 · refine ⟨?_,rfl,rfl⟩
   have:sP i regs=false:=by
    unfold sP
    rcases hc1 with ((((h | h) | h) | h) | h) | h
    all_goals first | (rw [bQ sE];rfl) | simp [h]
   simp [this]
 have hasks:(sS i).length≤2:=by unfold sS;split <;> (try split) <;> simp
 refine gY (ι:=Nat) (fun k=>([(45,.int .i64 (k:Int)),(44,.int .i64 (↑(List.length (sS i)):Int)),(43,.slice ad1 (List.length (sS i)) cd1),(1,.int .i64 regs)],[(2,Option.map (fun x=>Go.Addr.block x) ad1,Row (α:=Int) 3 (sS i) (junk1)),(0,some b1,.cells (List.toArray (Cells.enc i)) 91)])) (fun k=>k≤(sS i).length∧((sS i).take k).all (fun r=>decide (0≤r∧r<regs))=true) (fun k=>(sS i).length - k) (0) (⟨aM _,rfl⟩) fun k=>fun hk=>?_
 obtain ⟨hk1,hk2⟩:=hk
 refine bJ 6 [] ?_
 refine cT (fun hc2=>?_) fun hc2=>?_
 refine aJ 6 [] ?_
 refine gX (α:=Int) T.sl24 ?_
 refine mS 2 0 T.one3 ?_
 refine aL 8 [] ?_
 apply dP 4 51 55 rfl
 intro hg1
 refine aB 7 [] ?_
 exact dA 4 0
 intro hg1
 refine aB 4 [] ?_
 exact dA 4 0
 refine aZ 2 [] ?_
 refine cT (fun hc3=>?_) fun hc3=>?_
 refine bE 11 [] ?_
 refine cP ?_
 rotate_left
 refine bE 7 [] ?_
 rotate_left
 refine bE 11 [] ?_
 refine cP ?_
 rotate_left
 · refine ⟨?_,rfl,rfl⟩
   have hl:k<(sS i).length:=sE
   have hx:(sS i)[(k:Int).toNat]?.getD default∈sS i:=by rw [aE,aA hl];simp
   have hf:((sS i).all fun r=>decide (0≤r∧r<regs))=false:=by
    rw [List.all_eq_false]
    exact ⟨_,hx,by simp only [aS];omega⟩
   have:sP i regs=false:=by unfold sP;rw [hf];simp
   simp [this]
 · refine cL (k+1) ?_ ?_
   · refine ⟨by omega,?_⟩
     rw [Ic _ sE,hk2]
     simp only [pG,aS]
     omega
   omega
 refine ⟨?_,rfl,rfl⟩
 have hk:k=(sS i).length:=sE
 subst hk
 rw [bC] at hk2
 have:sP i regs=true:=by
  unfold sP
  rw [hk2]
  simp only [not_or] at hc1
  simp only [pH,aU,aS]
  refine ⟨by omega,?_⟩
  have:=hc1.2
  simpa using this
 simp [this]
structure PV where
 ins:Int
 regs:Int
 code:List Sl.Instr
 outs:List Int
def wP (p:PV):Bool:=decide (1≤p.ins∧p.ins≤p.regs∧p.regs≤128∧p.code.length≤16384∧1≤p.outs.length∧p.outs.length≤128) && p.outs.all fun r=>decide (0≤r∧r<p.regs)
def Bw (p:PV):Option Nat:=p.code.findIdx? fun i=>!sP i p.regs
def uD (p:PV):Int×Bool:=if wP p=false then (-1,true) else match Bw p with | some k=>(k,true) | none=>(0,false)
theorem Yi {α:Type} [Inhabited α] {p:α→Bool} {l:List α} {k:Nat} (h:k<l.length) (h1:(l.take k).all p=true) (h2:¬p (l[((k:Nat):Int).toNat]?.getD default)=true):l.findIdx? (fun i=>!p i)=some k:=by
 rw [mR]
 rw [aE,aA h,dK] at h2
 refine ⟨h,by simpa using h2,fun j hj=>?_⟩
 have hm:l[j]'(by omega)∈l.take k:=by rw [List.mem_take_iff_getElem];exact ⟨j,by omega,rfl⟩
 have:=eJ.1 h1 _ hm
 simpa using this
theorem Ry {α:Type} {p:α→Bool} {l:List α} (h1:l.all p=true):l.findIdx? (fun i=>!p i)=none:=by
 rw [gI]
 intro x hx
 simpa using eJ.1 h1 x hx
theorem YA (G:Imm) (p:PV) (ac ao:Option Addr) (cc co:Nat) (hc:Arr G ac p.code) (ho:Arr G ao p.outs) (h1:p.code.length≤1099511627776) (h2:p.outs.length≤1099511627776) :
 Does Tryz.prog 56 [.agg #[.int .i64 p.ins,.int .i64 p.regs,.slice ac p.code.length cc,.slice ao p.outs.length co]] G [] (fun v G' Ho=>v=.tuple #[.int .i64 (uD p).1,.int .i64 (if (uD p).2 then 80 else 0)]∧G'=G∧Ho=[]):=by
 refine D0 Tryz.func56 Tryz.ntmps56 fun w=>?_
 refine aJ 2 [] ?_
 refine dQ 0 fun b1=>?_
 refine aL 11 [0] ?_
 apply dP 6 11 17 rfl
 intro hg1
 refine aB 11 [0,0] ?_
 exact dA 6 0
 intro hg1
 refine aB 6 [] ?_
 exact dA 6 0
 refine aB 1 [] ?_
 apply dP 4 18 22 rfl
 intro hg1
 refine aB 7 [0] ?_
 exact dA 4 0
 intro hg1
 refine aB 4 [] ?_
 exact dA 4 0
 refine aB 1 [] ?_
 apply dP 5 23 28 rfl
 intro hg1
 refine aB 9 [0] ?_
 exact dA 5 0
 intro hg1
 refine aB 5 [] ?_
 exact dA 5 0
 refine aB 1 [] ?_
 apply dP 5 29 34 rfl
 intro hg1
 refine aB 9 [0] ?_
 exact dA 5 0
 intro hg1
 refine aB 5 [] ?_
 exact dA 5 0
 refine aB 1 [] ?_
 apply dP 5 35 40 rfl
 intro hg1
 refine aB 9 [0] ?_
 exact dA 5 0
 intro hg1
 refine aB 5 [] ?_
 exact dA 5 0
 refine aZ 2 [] ?_
 refine cT (fun hc1=>?_) fun hc1=>?_
 refine bE 8 [] ?_
 refine gR ?_
 rotate_left
 refine bJ 12 [0] ?_
 rotate_left
 · refine ⟨?_,rfl,rfl⟩
   have:wP p=false:=by unfold wP;rw [bQ sE];rfl
   simp [uD,this]
 refine gY (ι:=Nat) (fun k=>([(44,.int .i64 (k:Int)),(43,.int .i64 (↑p.outs.length:Int)),(42,.slice ao p.outs.length co),(1,.pointer (some ⟨b1,0,none⟩))],[(0,some b1,.cells #[.int .i64 p.ins,.int .i64 p.regs,.slice ac p.code.length cc,.slice ao p.outs.length co] 26)])) (fun k=>k≤p.outs.length∧(p.outs.take k).all (fun r=>decide (0≤r∧r<p.regs))=true) (fun k=>p.outs.length - k) (0) (⟨aM _,rfl⟩) fun k=>fun hk=>?_
 obtain ⟨hk1,hk2⟩:=hk
 refine bJ 6 [] ?_
 refine cT (fun hc2=>?_) fun hc2=>?_
 refine aJ 6 [] ?_
 refine fP (α:=Int) T.sl24 ?_
 refine iY 0 T.one3 ?_
 refine aL 8 [] ?_
 apply dP 5 50 55 rfl
 intro hg1
 refine aB 9 [0] ?_
 exact dA 5 0
 intro hg1
 refine aB 5 [] ?_
 exact dA 5 0
 refine aZ 2 [] ?_
 refine cT (fun hc3=>?_) fun hc3=>?_
 refine bE 12 [] ?_
 refine gR ?_
 rotate_left
 refine bE 7 [] ?_
 rotate_left
 refine bJ 15 [0] ?_
 rotate_left
 · refine ⟨?_,rfl,rfl⟩
   have hl:k<p.outs.length:=sE
   have hx:p.outs[(k:Int).toNat]?.getD default∈p.outs:=by rw [aE,aA hl];simp
   have hf:(p.outs.all fun r=>decide (0≤r∧r<p.regs))=false:=by
    rw [List.all_eq_false]
    exact ⟨_,hx,by simp only [aS];omega⟩
   have:wP p=false:=by unfold wP;rw [hf,Bool.and_false]
   simp [uD,this]
 · refine cL (k+1) ?_ ?_
   · refine ⟨by omega,?_⟩
     rw [Ic _ sE,hk2]
     simp only [pG,aS]
     omega
   omega
 have hk:k=p.outs.length:=sE
 subst hk
 rw [bC] at hk2
 have hh:wP p=true:=by
  unfold wP
  rw [hk2,pH,aS]
  omega
 clear hk1 hk2 hc2
 refine gY (ι:=Nat) (fun k=>([(60,.int .i64 (k:Int)),(59,.int .i64 (↑p.code.length:Int)),(58,.slice ac p.code.length cc),(1,.pointer (some ⟨b1,0,none⟩))],[(0,some b1,.cells #[.int .i64 p.ins,.int .i64 p.regs,.slice ac p.code.length cc,.slice ao p.outs.length co] 26)])) (fun k=>k≤p.code.length∧(p.code.take k).all (fun i=>sP i p.regs)=true) (fun k=>p.code.length - k) (0) (⟨aM _,rfl⟩) fun k=>fun hk=>?_
 obtain ⟨hk1,hk2⟩:=hk
 refine bJ 6 [] ?_
 refine cT (fun hc2=>?_) fun hc2=>?_
 refine aJ 7 [] ?_
 refine fP (α:=Instr) T.sl23 ?_
 refine lB T.agg91 ?_
 refine aN 1 rfl T.zero91 fun b2=>?_
 refine aL 9 [1,1,0] ?_
 refine cI rfl (dy _ _ _) ?_
 refine aO (fF rfl) ?_
 refine aZ 2 [] ?_
 refine cT (fun hc3=>?_) fun hc3=>?_
 refine bE 13 [] ?_
 refine gR ?_
 rotate_left
 refine bE 7 [] ?_
 rotate_left
 refine bE 12 [] ?_
 refine gR ?_
 rotate_left
 · refine ⟨?_,rfl,rfl⟩
   have hl:k<p.code.length:=sE
   have:Bw p=some k:=Yi hl hk2 hc3
   simp [uD,hh,this]
 · refine cL (k+1) ?_ ?_
   · refine ⟨by omega,?_⟩
     rw [Ic _ sE,hk2]
     simpa using hc3
   omega
 refine ⟨?_,rfl,rfl⟩
 have hk:k=p.code.length:=sE
 subst hk
 rw [bC] at hk2
 have:Bw p=none:=Ry hk2
 simp [uD,hh,this]
def sH (p:PV):Bool:=!(uD p).2
theorem tB (i:Sl.Instr) (regs:Int):sP i regs=true↔(1≤i.op∧i.op≤8∧0≤i.to∧i.to<regs∧0≤i.a∧i.a<regs)∧
 (if i.op=3∨i.op=4 then 0≤i.b∧i.b<regs∧i.c=0 else i.b=0∧(if i.op=5∨i.op=6 then i.c≠0∧-512≤i.c∧i.c≤512 else if i.op=7∨i.op=8 then 1≤i.c∧i.c≤64 else i.c=0)):=by
 unfold sP sT sS
 by_cases h3:i.op=3∨i.op=4
 · have h5:¬(i.op=5∨i.op=6):=sE
   have h7:¬(i.op=7∨i.op=8):=sE
   simp only [aF h3,aD h5,aD h7,kB,List.all_nil,pH,aU,aS]
   omega
 by_cases h1:1≤i.op∧i.op≤8
 · simp only [aD h3,aF h1,kB,List.all_nil,pH,aU,aS]
   by_cases h5:i.op=5∨i.op=6
   · simp only [aF h5,aS];omega
   by_cases h7:i.op=7∨i.op=8
   · simp only [aD h5,aF h7,aS];omega
   simp only [aD h5,aD h7,aS];omega
 simp only [aD h3,aD h1,List.all_nil,pH,aU,aS]
 constructor <;> (intro h;omega)
instance:DecidableEq PV:=fun a b=>by
 cases a;cases b;simp only [PV.mk.injEq];infer_instance
theorem Ie {α:Type} [Inhabited α] {l m:List α} {k:Nat} (hl:k<l.length) (hm:k<m.length) (h:l.take k=m.take k)
 (he:l[((k:Nat):Int).toNat]?.getD default=m[((k:Nat):Int).toNat]?.getD default):l.take (k+1)=m.take (k+1):=by
 rw [aE,aA hl,aA hm] at he
 rw [cB,cB,h,aA hl,aA hm]
 simp only [dK] at he
 rw [he]
structure Tab where
 held:List Int
 known:List (K4×Int)
 first:List (K4×Int)
 next:Int
def start (p:PV):List Int:=(List.range p.regs.toNat).map fun r=>if (p.ins:Int)<((r:Nat):Int) then p.ins else ((r:Nat):Int)
def holder (l:List Int) (v:Int):Int:=match l.findIdx? (fun x=>decide (x=v)) with | some k=>(k:Int) | none=>-1
def keyOf (held:List Int) (i:Sl.Instr):K4:=
 let a:=held[i.a.toNat]?.getD default
 if i.op=3∨i.op=4 then
  let b:=held[i.b.toNat]?.getD default
  if i.op=3∧b<a then ⟨i.op,b,a,i.c⟩ else ⟨i.op,a,b,i.c⟩
 else ⟨i.op,a,-1,i.c⟩
theorem Yj (i:Sl.Instr):(1<((sS i).length:Int))↔(i.op=3∨i.op=4):=by
 unfold sS
 by_cases h:i.op=3∨i.op=4
 · simp [h]
 rw [aD h];split <;> simp [h]
def reckonP (t:Tab) (n:Int) (i:Sl.Instr):(Int×Int)×Tab:=
 if i.op=1 then ((t.held[i.a.toNat]?.getD default,-1),t)
 else match mget t.known (keyOf t.held i) with
  | none=>((t.next,n),{ t with known:=t.known++[(keyOf t.held i,t.next)],first:=t.first++[(keyOf t.held i,n)],next:=t.next+1 })
  | some v=>((v,(mget t.first (keyOf t.held i)).getD 0),t)
theorem Sa {xs:List (K4×Int)} {k:K4} {v:Int} (h:mget xs k=none):mget (xs++[(k,v)]) k=some v:=by
 rw [←yN xs k v h,wX,aF rfl]
def askedP (held:List Int) (i:Sl.Instr):Sl.Instr:=
 { i with a:=holder held (held[i.a.toNat]?.getD default),b:=if i.op=3∨i.op=4 then holder held (held[i.b.toNat]?.getD default) else i.b }
def sX (s:Tab×List Sl.Instr) (n:Int) (i:Sl.Instr):Tab×List Sl.Instr:=
 let v:=(reckonP s.1 n i).1.1
 let t:=(reckonP s.1 n i).2
 let j:=askedP t.held i
 if t.held[i.to.toNat]?.getD default=v then (t,s.2)
 else ({ t with held:=t.held.set i.to.toNat v },s.2++[if 0≤holder t.held v then ⟨1,j.to,holder t.held v,0,0⟩ else j])
def tK (p:PV):Nat→Tab×List Sl.Instr
 | 0=>(⟨start p,[],[],p.ins+1⟩,[])
 | k+1=>sX (tK p k) k (p.code[((k:Nat):Int).toNat]?.getD default)
def vL (p:PV) (held:List Int):List Int:=p.outs.map fun r=>holder held (held[r.toNat]?.getD default)
def xG (p:PV):PV:=⟨p.ins,p.regs,(tK p p.code.length).2,vL p (tK p p.code.length).1.held⟩
theorem sK {p:PV} (h:sH p=true):1≤p.ins∧p.ins≤p.regs∧p.regs≤128∧p.code.length≤16384∧1≤p.outs.length∧p.outs.length≤128∧(∀ r∈p.outs,0≤r∧r<p.regs)∧(∀ i∈p.code,sP i p.regs=true):=by
 unfold sH uD at h
 by_cases hh:wP p=false
 · rw [aF hh] at h;cases h
 rw [aD hh] at h
 have hb:Bw p=none:=by
  cases hb:Bw p with
  | none=>rfl
  | some k=>rw [hb] at h;cases h
 have hh':wP p=true:=by simpa using hh
 unfold wP at hh'
 rw [aU,aS,eJ] at hh'
 unfold Bw at hb
 rw [gI] at hb
 obtain ⟨⟨g1,g2,g3,g4,g5,g6⟩,g7⟩:=hh'
 refine ⟨g1,g2,g3,g4,g5,g6,fun r hr=>?_,fun i hi=>?_⟩
 · have:=g7 r hr;rw [aS] at this;exact this
 simpa using hb i hi
theorem Bg (t:Tab) (n:Int) (i:Sl.Instr):(reckonP t n i).2.held=t.held:=by
 unfold reckonP;split
 · rfl
 split <;> rfl
theorem Jz {t:Tab} {n:Int} {i:Sl.Instr} (h:∀ x,mget t.known x=none→mget t.first x=none):∀ x,mget (reckonP t n i).2.known x=none→mget (reckonP t n i).2.first x=none:=by
 unfold reckonP
 split
 · exact h
 split
 · rename_i hk
   intro x hx
   rw [←yN _ _ _ hk,wX] at hx
   rw [←yN _ _ _ (h _ hk),wX]
   split at hx
   · cases hx
   rename_i hne;rw [aD hne];exact h _ hx
 exact h
theorem xW {t:Tab} (h:0≤t.next) (n:Int) (i:Sl.Instr):0≤(reckonP t n i).2.next∧(reckonP t n i).2.next≤t.next+1:=by
 unfold reckonP
 split
 · exact ⟨h,by show t.next≤_;omega⟩
 split
 · exact ⟨by show 0≤t.next+1;omega,kP _⟩
 exact ⟨h,by show t.next≤_;omega⟩
section
variable {t:Tab} {out:List Sl.Instr} {n:Int} {i:Sl.Instr}
theorem Fs (h:(reckonP t n i).2.held[(askedP (reckonP t n i).2.held i).to.toNat]?.getD default=(reckonP t n i).1.1):sX (t,out) n i=((reckonP t n i).2,out):=aF h
theorem Ft (h:¬(reckonP t n i).2.held[(askedP (reckonP t n i).2.held i).to.toNat]?.getD default=(reckonP t n i).1.1) (h2:0≤holder (reckonP t n i).2.held (reckonP t n i).1.1) :
 sX (t,out) n i=({ (reckonP t n i).2 with held:=(reckonP t n i).2.held.set (askedP (reckonP t n i).2.held i).to.toNat (reckonP t n i).1.1 },out++[⟨1,(askedP (reckonP t n i).2.held i).to,holder (reckonP t n i).2.held (reckonP t n i).1.1,0,0⟩]):=
 (aD h).trans (by rw [aF h2];rfl)
theorem Fu (h:¬(reckonP t n i).2.held[(askedP (reckonP t n i).2.held i).to.toNat]?.getD default=(reckonP t n i).1.1) (h2:¬0≤holder (reckonP t n i).2.held (reckonP t n i).1.1) :
 sX (t,out) n i=({ (reckonP t n i).2 with held:=(reckonP t n i).2.held.set (askedP (reckonP t n i).2.held i).to.toNat (reckonP t n i).1.1 },out++[askedP (reckonP t n i).2.held i]):=
 (aD h).trans (by rw [aD h2];rfl)
end
theorem Bh {l:List Int} {v:Int} (h:0≤holder l v):holder l v<l.length∧l[(holder l v).toNat]?.getD default=v:=by
 unfold holder at h ⊢
 cases hk:l.findIdx? (fun x=>decide (x=v)) with
 | none=>rw [hk] at h;simp at h
 | some k =>
   rw [mR] at hk
   obtain ⟨h1,h2,_⟩:=hk
   simp only [aS] at h2
   refine ⟨by show (k:Int)<_;omega,?_⟩
   show l[(k:Int).toNat]?.getD default=v
   rw [aE,aA h1];exact h2
theorem Yk {l:List Int} {v:Int} (h:¬0≤holder l v):holder l v=-1:=by
 unfold holder at h ⊢
 cases hk:l.findIdx? (fun x=>decide (x=v)) with
 | none=>rfl
 | some k=>rw [hk] at h;exact absurd (rH k) h
theorem CL {l:List Int} {v:Int} (h:v∈l):0≤holder l v:=by
 unfold holder
 cases hk:l.findIdx? (fun x=>decide (x=v)) with
 | none=>rw [gI] at hk;have:=hk v h;simp at this
 | some k=>exact rH k
theorem HG {l:List Int} {v n:Int} (hl:∀ x∈l,x<n) (h:n≤v):holder l v=-1:=by
 refine Yk fun hh=>?_
 obtain ⟨h1,h2⟩:=Bh hh
 have hm:v∈l:=by
  have hlt:(holder l v).toNat<l.length:=sE
  rw [aA hlt,dK] at h2
  rw [←h2];exact bI hlt
 have:=hl v hm;omega
theorem get_mem {l:List Int} {r:Int} (h:0≤r∧r<l.length):l[r.toNat]?.getD default∈l:=by
 have hlt:r.toNat<l.length:=sE
 rw [aA hlt];exact bI hlt
theorem yQ {l:List Int} {r:Int} (h:0≤r∧r<l.length):0≤holder l (l[r.toNat]?.getD default)∧holder l (l[r.toNat]?.getD default)<l.length∧
 l[(holder l (l[r.toNat]?.getD default)).toNat]?.getD default=l[r.toNat]?.getD default:=by
 have h0:=CL (get_mem h)
 exact ⟨h0,Bh h0⟩
structure Sound (t:Tab) (regs:Int):Prop where
 len:(t.held.length:Int)=regs
 held:∀ x∈t.held,x<t.next
 known:∀ k v,mget t.known k=some v→v<t.next
theorem HH {l:List Int} {i:Sl.Instr} (h:sP i l.length=true):keyOf l (askedP l i)=keyOf l i∧askedP l (askedP l i)=askedP l i∧sP (askedP l i) l.length=true:=by
 have h':=h
 rw [tB] at h
 obtain ⟨⟨h1,h2,h3,h4,h5,h6⟩,hb⟩:=h
 obtain ⟨a1,a2,a3⟩:=yQ (l:=l) (r:=i.a) ⟨h5,h6⟩
 by_cases ht:i.op=3∨i.op=4
 · rw [aF ht] at hb
   obtain ⟨b1,b2,b3⟩:=yQ (l:=l) (r:=i.b) ⟨hb.1,hb.2.1⟩
   have e:askedP l i=⟨i.op,i.to,holder l (l[i.a.toNat]?.getD default),holder l (l[i.b.toNat]?.getD default),i.c⟩:=by unfold askedP;rw [aF ht]
   refine ⟨?_,?_,?_⟩
   · rw [e];unfold keyOf;simp only [a3,b3]
   · rw [e];unfold askedP;simp only [a3,b3,aF ht]
   rw [e,tB,aF ht];exact ⟨⟨h1,h2,h3,h4,a1,a2⟩,b1,b2,hb.2.2⟩
 rw [aD ht] at hb
 have e:askedP l i=⟨i.op,i.to,holder l (l[i.a.toNat]?.getD default),i.b,i.c⟩:=by unfold askedP;rw [aD ht]
 refine ⟨?_,?_,?_⟩
 · rw [e];unfold keyOf;simp only [a3,aD ht]
 · rw [e];unfold askedP;simp only [a3,aD ht]
 rw [e,tB,aD ht];exact ⟨⟨h1,h2,h3,h4,a1,a2⟩,hb⟩
theorem If {t:Tab} {regs:Int} (h:Sound t regs) (n:Int) (i:Sl.Instr) (ha:0≤i.a∧i.a<regs):Sound (reckonP t n i).2 regs∧(reckonP t n i).1.1<(reckonP t n i).2.next:=by
 unfold reckonP
 split
 · exact ⟨h,h.held _ (get_mem (by rw [h.len];exact ha))⟩
 split
 · rename_i hk
   refine ⟨⟨h.len,fun x hx=>?_,fun k v hv=>?_⟩,?_⟩
   · have:=h.held x hx;show x<t.next+1;omega
   · show v<t.next+1
     have hv':mget (t.known++[(keyOf t.held i,t.next)]) k=some v:=hv
     rw [←yN _ _ _ hk,wX] at hv'
     split at hv'
     · cases hv';omega
     have:=h.known k v hv';omega
   show t.next<t.next+1;omega
 rename_i v hk
 exact ⟨h,h.known _ _ hk⟩
theorem EE {l:List Int} {k:Nat} {v regs:Int} (h:(l.length:Int)=regs):((l.set k v).length:Int)=regs:=by rw [aG];exact h
theorem Lu {p:PV} (h:1≤p.ins∧p.ins≤p.regs):Sound ⟨start p,[],[],p.ins+1⟩ p.regs:=by
 refine ⟨?_,fun x hx=>?_,fun k v hv=>by simp [mget] at hv⟩
 · show ((start p).length:Int)=_;simp [start];omega
 simp only [start,dJ,iM] at hx
 obtain ⟨r,_,rfl⟩:=hx
 show _<p.ins+1
 split <;> omega
def p2 (n:Nat):Int:=((2 ^ n:Nat):Int)
theorem Oa (n:Nat):0<p2 n:=by unfold p2;exact Int.ofNat_lt.2 (pA sN)
theorem WN (m n:Nat):p2 (m+n)=p2 m*p2 n:=by unfold p2;rw [mP,jQ]
theorem ZA {m n:Nat} (h:m≤n):p2 m≤p2 n:=by unfold p2;exact Int.ofNat_le.2 (gU sN h)
def cst (i:Sl.Instr):Int:=if i.op=5∨i.op=6 then i.c else p2 i.c.toNat
theorem Ob {i:Sl.Instr} (h:i.op=5∨i.op=6):cst i=i.c:=aF h
theorem MA {i:Sl.Instr} (h:¬(i.op=5∨i.op=6)):cst i=p2 i.c.toNat:=aD h
def xE (y:Int) (xs:List Int):Prop:=∀ i:Nat,i<xs.length→xs[i]?.getD 0 % y=0
instance (y:Int) (xs:List Int):Decidable (xE y xs):=by unfold xE;infer_instance
def wQ (i:Sl.Instr) (rs:List (List Int)):Option (List Int):=
 let a:=rs[i.a.toNat]?.getD []
 if i.op=2 then some (a.map (fun x=>-1*x))
 else if i.op=3 then some (List.zipWith (fun x y=>x+1*y) a (rs[i.b.toNat]?.getD []))
 else if i.op=4 then some (List.zipWith (fun x y=>x+(-1)*y) a (rs[i.b.toNat]?.getD []))
 else if i.op=5∨i.op=7 then some (a.map (fun x=>cst i*x))
 else if i.op=6∨i.op=8 then (if xE (cst i) a then some (a.map (· / cst i)) else none)
 else some a
def uI (p:PV) (gs:List (List Int)):List (List Int):=(List.range p.regs.toNat).map fun k=>if k<gs.length then gs[k]?.getD [] else List.replicate (gs[0]?.getD []).length 0
def wC (p:PV) (gs:List (List Int)):Nat→Option (List (List Int))
 | 0=>some (uI p gs)
 | k+1=>(wC p gs k).bind fun rs=>(wQ (p.code[((k:Nat):Int).toNat]?.getD default) rs).map fun x=>rs.set (p.code[((k:Nat):Int).toNat]?.getD default).to.toNat x
def wG (p:PV) (rs:List (List Int)):List (List Int):=p.outs.map fun r=>rs[r.toNat]?.getD []
def sQ (p:PV) (gs:List (List Int)):Option (List (List Int)):=(wC p gs p.code.length).map (wG p)
theorem Cp {p:PV} {gs:List (List Int)} {k:Nat} {rs x:List (List Int)} {y:List Int} (h:wC p gs k=some rs) (hd:wQ (p.code[((k:Nat):Int).toNat]?.getD default) rs=some y) :
 wC p gs (k+1)=some (rs.set (p.code[((k:Nat):Int).toNat]?.getD default).to.toNat y):=by
 unfold wC;rw [h];simp only [eF,hd,fO]
theorem Gg {p:PV} {gs:List (List Int)} {k:Nat} (h:wC p gs k=none) (j:Nat):wC p gs (k+j)=none:=by
 induction j with
 | zero=>exact h
 | succ j ih=>rw [←nM];unfold wC;rw [ih];rfl
theorem CM {p:PV} {gs:List (List Int)} {k:Nat} {rs:List (List Int)} (h:wC p gs k=some rs) (hd:wQ (p.code[((k:Nat):Int).toNat]?.getD default) rs=none) (hk:k<p.code.length):sQ p gs=none:=by
 have h1:wC p gs (k+1)=none:=by unfold wC;rw [h];simp only [eF,hd,jO]
 have h2:=Gg h1 (p.code.length - (k+1))
 rw [show k+1+(p.code.length - (k+1))=p.code.length by omega] at h2
 unfold sQ;rw [h2];rfl
theorem MB:∀ c:Nat,c≤64→((p2 c).natAbs:Int)<pw 5:=fun c hc=>by
 have h1:=ZA hc
 have h2:=Oa c
 have h3:p2 64<pw 5:=by unfold p2 pw;decide
 omega
theorem tE {i:Sl.Instr} {regs:Int} (h:sP i regs=true):(1≤i.op∧i.op≤8)∧(0≤i.to∧i.to<regs)∧(0≤i.a∧i.a<regs)∧(i.op=3∨i.op=4→0≤i.b∧i.b<regs)∧sT i.op i.c=true∧
 (i.op≠1→i.op≠2→i.op≠3→i.op≠4→cst i≠0∧((cst i).natAbs:Int)<pw 5)∧(i.op=5∨i.op=6→-9223372036854775808≤i.c∧i.c≤9223372036854775807)∧(¬(i.op=5∨i.op=6)→0≤i.c∧i.c≤64):=by
 unfold sP at h
 rw [aU,aU,aS,eJ] at h
 obtain ⟨⟨⟨g1,g2,g3,g4,g5⟩,g6⟩,g7⟩:=h
 have hA:∀ r∈sS i,0≤r∧r<regs:=fun r hr=>by have:=g7 r hr;rwa [aS] at this
 have ha:i.a∈sS i:=by
  unfold sS
  split
  · exact bF
  rw [aF ⟨g1,g2⟩];exact bF
 have hc:=g6
 unfold sT at g6
 have k1:i.op=5∨i.op=6→i.c≠0∧-512≤i.c∧i.c≤512:=fun h=>by rw [aF h,aS] at g6;exact g6
 have k2:¬(i.op=5∨i.op=6)→(i.op=7∨i.op=8→1≤i.c∧i.c≤64)∧(¬(i.op=7∨i.op=8)→i.c=0):=fun h=>by
  rw [aD h] at g6
  refine ⟨fun h2=>?_,fun h2=>?_⟩
  · rw [aF h2,aS] at g6;exact g6
  rw [aD h2,aS] at g6;exact g6
 refine ⟨⟨g1,g2⟩,⟨g3,g4⟩,hA _ ha,fun h34=>hA _ UZ,hc,fun n1 n2 n3 n4=>?_,fun h56=>by have:=k1 h56;omega,fun h56=>?_⟩
 · by_cases h56:i.op=5∨i.op=6
   · rw [Ob h56]
     have:=k1 h56
     have h3:(65536:Int)<pw 5:=by unfold pw;decide
     exact ⟨this.1,by omega⟩
   rw [MA h56]
   have h2:=(k2 h56).1 sE
   have:=Oa i.c.toNat
   exact ⟨by omega,MB _ sE⟩
 by_cases h78:i.op=7∨i.op=8
 · have:=(k2 h56).1 h78;omega
 have:=(k2 h56).2 h78;omega
theorem vM (p:PV) (gs:List (List Int)):(uI p gs).length=p.regs.toNat:=by unfold uI;rw [aP,bS]
theorem Bx {p:PV} {gs:List (List Int)} {k:Nat} (hk:k<p.regs.toNat):(uI p gs)[k]?.getD []=if k<gs.length then gs[k]?.getD [] else List.replicate (gs[0]?.getD []).length 0:=by
 unfold uI
 rw [bN,eR hk];rfl
def SD (op c:Int) (a b:List Int):Option (List Int):=wQ ⟨op,0,0,1,c⟩ [a,b]
theorem Ig (i:Sl.Instr) (rs:List (List Int)):wQ i rs=SD i.op i.c (rs[i.a.toNat]?.getD []) (rs[i.b.toNat]?.getD []):=rfl
theorem MC (a b:List Int):List.zipWith (fun x y=>x+1*y) a b=List.zipWith (fun x y=>x+1*y) b a:=by
 rw [List.zipWith_comm]
 congr 1
 funext x y
 omega
theorem MD (c:Int) (a b:List Int):SD 3 c a b=SD 3 c b a:=by
 show some (List.zipWith (fun x y=>x+1*y) a b)=some (List.zipWith (fun x y=>x+1*y) b a)
 rw [MC]
theorem Uv {op:Int} (h:¬(op=3∨op=4)) (c:Int) (a b b':List Int):SD op c a b=SD op c a b':=by
 have h3:¬op=3:=fun e=>h (.inl e)
 have h4:¬op=4:=fun e=>h (.inr e)
 unfold SD wQ
 simp only [h3,h4,jR]
 rfl
def Sb (E:Int→List Int) (k:K4):Option (List Int):=SD k.op k.c (E k.a) (E k.b)
theorem Sc {E:Int→List Int} {held:List Int} {rs:List (List Int)} {regs:Int} {i:Sl.Instr} (hm:sP i regs=true) (hv:∀ r:Int,0≤r∧r<regs→rs[r.toNat]?.getD []=E (held[r.toNat]?.getD default)) :
 Sb E (keyOf held i)=wQ i rs:=by
 obtain ⟨m1,m2,m3,m4,m5,m6,m7,m8⟩:=tE hm
 rw [Ig,hv _ m3]
 unfold keyOf
 by_cases h34:i.op=3∨i.op=4
 · rw [hv _ (m4 h34)]
   simp only [aF h34]
   split
   · rename_i hsw
     unfold Sb
     simp only
     rw [hsw.1]
     exact MD _ _ _
   rfl
 simp only [aD h34]
 exact Uv h34 _ _ _ _
def xP:List Sl.Instr→List (List Int)→Option (List (List Int))
 | [],rs=>some rs
 | i :: l,rs=>(wQ i rs).bind fun x=>xP l (rs.set i.to.toNat x)
theorem Yl (l m:List Sl.Instr) (rs:List (List Int)):xP (l++m) rs=(xP l rs).bind (xP m):=by
 induction l generalizing rs with
 | nil=>rfl
 | cons i l ih =>
   show (wQ i rs).bind (fun x=>xP (l++m) (rs.set i.to.toNat x))=_
   show _=((wQ i rs).bind fun x=>xP l (rs.set i.to.toNat x)).bind (xP m)
   cases wQ i rs with
   | none=>rfl
   | some x=>exact ih _
theorem By {l:List Sl.Instr} {i:Sl.Instr} {rs:List (List Int)}:xP (l++[i]) rs=(xP l rs).bind fun r=>(wQ i r).map fun x=>r.set i.to.toNat x:=by
 rw [Yl]
 congr 1
 funext r
 show (wQ i r).bind (fun x=>xP [] (r.set i.to.toNat x))=_
 cases wQ i r <;> rfl
theorem xQ (p:PV) (gs:List (List Int)):∀ k,k≤p.code.length→wC p gs k=xP (p.code.take k) (uI p gs)
 | 0,_=>by rw [cM];rfl
 | k+1,h=>by
   have hk:k<p.code.length:=sE
   have e:p.code.take (k+1)=p.code.take k++[p.code[(k:Int).toNat]?.getD default]:=by
    rw [mY hk,aE,aA hk];rfl
   rw [e,By,←xQ p gs k sE]
   rfl
structure Val (t:Tab) (rs:List (List Int)) (E:Int→List Int) (regs:Int):Prop where
 len:(rs.length:Int)=regs
 reg:∀ r:Int,0≤r∧r<regs→rs[r.toNat]?.getD []=E (t.held[r.toNat]?.getD default)
 key:∀ k v,mget t.known k=some v→Sb E k=some (E v)
 old:∀ k v,mget t.known k=some v→k.a<t.next∧k.b<t.next
 pos:0≤t.next
theorem EF {t:Tab} {regs:Int} {i:Sl.Instr} (hs:Sound t regs) (hp:0≤t.next) (hm:sP i regs=true):(keyOf t.held i).a<t.next∧(keyOf t.held i).b<t.next:=by
 obtain ⟨m1,m2,m3,m4,m5,m6,m7,m8⟩:=tE hm
 have hl:=hs.len
 have ha:=hs.held _ (get_mem (l:=t.held) (r:=i.a) sE)
 unfold keyOf
 by_cases h34:i.op=3∨i.op=4
 · have hb:=hs.held _ (get_mem (l:=t.held) (r:=i.b) (by have:=m4 h34;omega))
   simp only [aF h34]
   split
   · exact ⟨hb,ha⟩
   exact ⟨ha,hb⟩
 simp only [aD h34]
 exact ⟨ha,by show (-1:Int)<_;omega⟩
theorem Sd {t:Tab} {rs:List (List Int)} {E:Int→List Int} {regs:Int} {i:Sl.Instr} (hs:Sound t regs) (hv:Val t rs E regs) (hm:sP i regs=true):wQ (askedP t.held i) rs=wQ i rs:=by
 obtain ⟨m1,m2,m3,m4,m5,m6,m7,m8⟩:=tE hm
 have hl:=hs.len
 obtain ⟨a1,a2,a3⟩:=yQ (l:=t.held) (r:=i.a) sE
 have ea:rs[(holder t.held (t.held[i.a.toNat]?.getD default)).toNat]?.getD []=rs[i.a.toNat]?.getD []:=by
  rw [hv.reg _ ⟨a1,by omega⟩,hv.reg _ m3,a3]
 rw [Ig,Ig i]
 unfold askedP
 simp only
 rw [ea]
 by_cases h34:i.op=3∨i.op=4
 · obtain ⟨b1,b2,b3⟩:=yQ (l:=t.held) (r:=i.b) (by have:=m4 h34;omega)
   have eb:rs[(holder t.held (t.held[i.b.toNat]?.getD default)).toNat]?.getD []=rs[i.b.toNat]?.getD []:=by
    rw [hv.reg _ ⟨b1,by omega⟩,hv.reg _ (m4 h34),b3]
   rw [aF h34,eb]
 exact Uv h34 _ _ _ _
theorem CN {t:Tab} {rs:List (List Int)} {E:Int→List Int} {regs n:Int} {i:Sl.Instr} {x:List Int} (hs:Sound t regs) (hv:Val t rs E regs) (hm:sP i regs=true) (hd:wQ i rs=some x) :
 ∃ E1,Val (reckonP t n i).2 rs E1 regs∧E1 (reckonP t n i).1.1=x:=by
 obtain ⟨m1,m2,m3,m4,m5,m6,m7,m8⟩:=tE hm
 have hl:=hs.len
 have hk:=Sc hm hv.reg
 unfold reckonP
 by_cases h1:i.op=1
 · rw [aF h1]
   refine ⟨E,hv,?_⟩
   have:wQ i rs=some (rs[i.a.toNat]?.getD []):=by unfold wQ;simp [h1]
   rw [this] at hd
   cases hd
   exact (hv.reg _ m3).symm
 rw [aD h1]
 cases hg:mget t.known (keyOf t.held i) with
 | some v =>
   refine ⟨E,hv,?_⟩
   have e:=hv.key _ _ hg
   rw [hk,hd] at e
   exact (jD e).symm
 | none =>
   have hold:∀ y:Int,y<t.next→(fun z=>if z=t.next then x else E z) y=E y:=fun y hy=>aD (by omega)
   have hev:∀ k:K4,k.a<t.next∧k.b<t.next→Sb (fun z=>if z=t.next then x else E z) k=Sb E k:=fun k hk=>by
    unfold Sb;rw [hold _ hk.1,hold _ hk.2]
   have hgm:∀ k,mget (t.known++[(keyOf t.held i,t.next)]) k=if keyOf t.held i=k then some t.next else mget t.known k:=fun k=>by
    rw [←yN _ _ _ hg,wX];by_cases he:k=keyOf t.held i <;> simp [he,eq_comm]
   refine ⟨fun z=>if z=t.next then x else E z,⟨hv.len,fun r hr=>?_,fun k v hkv=>?_,fun k v hkv=>?_,by have:=hv.pos;show (0:Int)≤t.next+1;omega⟩,aF rfl⟩
   · have:=hs.held _ (get_mem (l:=t.held) (r:=r) sE)
     exact (hv.reg r hr).trans (hold _ this).symm
   · have hkv:mget (t.known++[(keyOf t.held i,t.next)]) k=some v:=hkv
     rw [hgm] at hkv
     split at hkv
     · rename_i he
       cases hkv
       subst he
       rw [hev _ (EF hs hv.pos hm),hk,hd]
       exact congrArg some (aF rfl).symm
     have hlt:=hs.known _ _ hkv
     rw [hev _ (hv.old _ _ hkv),hv.key _ _ hkv]
     exact congrArg some (hold _ hlt).symm
   have hkv:mget (t.known++[(keyOf t.held i,t.next)]) k=some v:=hkv
   rw [hgm] at hkv
   show k.a<t.next+1∧k.b<t.next+1
   split at hkv
   · rename_i he
     subst he
     have:=EF hs hv.pos hm
     omega
   have:=hv.old _ _ hkv
   omega
theorem Ih {l:List (List Int)} {k:Nat} {x:List Int} {r:Int} (hr:0≤r∧r<l.length):(l.set k x)[r.toNat]?.getD []=if (k:Int)=r then x else l[r.toNat]?.getD []:=by
 have h1:r.toNat<l.length:=sE
 rw [cC]
 by_cases h:(k:Int)=r
 · rw [aF (by omega),aF (by omega),aF h];rfl
 rw [aD (by omega),aD h]
theorem yF {l:List Int} {k:Nat} {x:Int} {r:Int} (hr:0≤r∧r<l.length):(l.set k x)[r.toNat]?.getD default=if (k:Int)=r then x else l[r.toNat]?.getD default:=by
 have h1:r.toNat<l.length:=sE
 rw [cC]
 by_cases h:(k:Int)=r
 · rw [aF (by omega),aF (by omega),aF h];rfl
 rw [aD (by omega),aD h]
theorem Uw {l:List (List Int)} {k:Nat} (hk:k<l.length) {x:List Int} (h:l[k]?.getD []=x):l.set k x=l:=by
 rw [aA hk] at h
 have h:l[k]=x:=h
 rw [←h,List.set_getElem_self]
theorem ME {t:Tab} {rs r0:List (List Int)} {E:Int→List Int} {regs n:Int} {i:Sl.Instr} {x:List Int} {out:List Sl.Instr} (hs:Sound t regs) (hv:Val t rs E regs) (hm:sP i regs=true) (hr:xP out r0=some rs) (hd:wQ i rs=some x) :
 xP (sX (t,out) n i).2 r0=some (rs.set i.to.toNat x)∧∃ E1,Val (sX (t,out) n i).1 (rs.set i.to.toNat x) E1 regs:=by
 obtain ⟨m1,m2,m3,m4,m5,m6,m7,m8⟩:=tE hm
 obtain ⟨E1,hv1,hx⟩:=CN (n:=n) hs hv hm hd
 have hh:=Bg t n i
 have hl:=hs.len
 have hrl:=hv.len
 have hask:=Sd hs hv hm
 unfold sX
 simp only
 split
 · rename_i hc
   have e:rs.set i.to.toNat x=rs:=Uw sE (by rw [hv1.reg _ m2,hc,hx])
   rw [e]
   exact ⟨hr,E1,hv1⟩
 rename_i hc
 refine ⟨?_,E1,⟨by rw [aG];exact hrl,fun r hr9=>?_,hv1.key,hv1.old,hv1.pos⟩⟩
 · rw [By,hr]
   show ((wQ _ rs).map fun x=>rs.set _ x)=_
   split
   · rename_i h0
     obtain ⟨g1,g2⟩:=Bh h0
     have e:wQ ⟨1,(askedP (reckonP t n i).2.held i).to,holder (reckonP t n i).2.held (reckonP t n i).1.1,0,0⟩ rs=some x:=by
      show some (rs[(holder (reckonP t n i).2.held (reckonP t n i).1.1).toNat]?.getD [])=some x
      rw [hv1.reg _ ⟨h0,by rw [hh] at g1 ⊢;omega⟩,g2,hx]
     rw [e];rfl
   rw [hh,hask,hd];rfl
 rw [Ih sE]
 show _=E1 (((reckonP t n i).2.held.set i.to.toNat (reckonP t n i).1.1)[r.toNat]?.getD default)
 rw [yF (by rw [hh];omega)]
 split
 · exact hx.symm
 exact hv1.reg r hr9
theorem HI {t:Tab} {rs r0:List (List Int)} {E:Int→List Int} {regs n:Int} {i:Sl.Instr} {out:List Sl.Instr} (hs:Sound t regs) (hv:Val t rs E regs) (hm:sP i regs=true) (hr:xP out r0=some rs) (hd:wQ i rs=none) :
 xP (sX (t,out) n i).2 r0=none:=by
 obtain ⟨m1,m2,m3,m4,m5,m6,m7,m8⟩:=tE hm
 have hh:=Bg t n i
 have hl:=hs.len
 have hask:=Sd hs hv hm
 have hk:=Sc hm hv.reg
 have h1:¬i.op=1:=fun h=>by
  have:wQ i rs=some (rs[i.a.toNat]?.getD []):=by unfold wQ;simp [h]
  rw [this] at hd;cases hd
 have hg:mget t.known (keyOf t.held i)=none:=by
  cases hg:mget t.known (keyOf t.held i) with
  | none=>rfl
  | some v=>have:=hv.key _ _ hg;rw [hk,hd] at this;cases this
 have hn:(reckonP t n i).1.1=t.next:=by unfold reckonP;rw [aD h1,hg]
 have hto:=hs.held _ (get_mem (l:=t.held) (r:=i.to) sE)
 have hho:=HG (l:=t.held) (v:=t.next) (n:=t.next) hs.held (kP _)
 unfold sX
 simp only
 rw [hn,hh,aD (by omega),hho,aD (by decide),By,hr]
 show ((wQ _ rs).map fun x=>rs.set _ x)=_
 rw [hask,hd];rfl
theorem CO {t:Tab} {regs n:Int} {i:Sl.Instr} {out:List Sl.Instr} (hs:Sound t regs) (hm:sP i regs=true):Sound (sX (t,out) n i).1 regs:=by
 obtain ⟨m1,m2,m3,m4,m5,m6,m7,m8⟩:=tE hm
 obtain ⟨s1,s2⟩:=If hs n i m3
 unfold sX
 simp only
 split
 · exact s1
 refine ⟨EE s1.len,fun x hx=>?_,s1.known⟩
 rcases eN hx with h | h
 · exact s1.held x h
 rw [h];exact s2
theorem HJ {t:Tab} {n:Int} {i:Sl.Instr} {out:List Sl.Instr} {r0:List (List Int)} (h:xP out r0=none):xP (sX (t,out) n i).2 r0=none:=by
 unfold sX
 simp only
 split
 · exact h
 rw [By,h];rfl
theorem HK {p:PV} {gs:List (List Int)} (h:1≤p.ins∧p.ins≤p.regs) (hg:(gs.length:Int)=p.ins) :
 Val ⟨start p,[],[],p.ins+1⟩ (uI p gs) (fun v=>if v<p.ins then gs[v.toNat]?.getD [] else List.replicate (gs[0]?.getD []).length 0) p.regs:=by
 refine ⟨by rw [vM];omega,fun r hr=>?_,fun k v hk=>(nomatch (show (none:Option Int)=some v from hk)),fun k v hk=>(nomatch (show (none:Option Int)=some v from hk)),by show (0:Int)≤p.ins+1;omega⟩
 have e:(start p)[r.toNat]?.getD default=if p.ins<r then p.ins else r:=by
  unfold start
  rw [bN,eR sE]
  show (if p.ins<((r.toNat:Nat):Int) then p.ins else ((r.toNat:Nat):Int))=_
  rw [cS hr.1]
 show _=(fun v:Int=>if v<p.ins then gs[v.toNat]?.getD [] else List.replicate (gs[0]?.getD []).length 0) ((start p)[r.toNat]?.getD default)
 rw [Bx sE,e]
 by_cases h1:r<p.ins
 · rw [aF (by omega)]
   show _=if (if p.ins<r then p.ins else r)<p.ins then _ else _
   rw [aD (show ¬p.ins<r by omega),aF h1]
 rw [aD (by omega)]
 show _=if (if p.ins<r then p.ins else r)<p.ins then _ else _
 rw [aD (by split <;> omega)]
theorem Ym {p:PV} {gs:List (List Int)} (hR:sH p=true) (hg:(gs.length:Int)=p.ins):∀ k,k≤p.code.length→
 Sound (tK p k).1 p.regs∧((∃ rs E,wC p gs k=some rs∧xP (tK p k).2 (uI p gs)=some rs∧Val (tK p k).1 rs E p.regs)∨(wC p gs k=none∧xP (tK p k).2 (uI p gs)=none))
 | 0,_=>by
   obtain ⟨f1,f2,f3,f4,f5,f6,f7,f8⟩:=sK hR
   exact ⟨Lu ⟨f1,f2⟩,.inl ⟨_,_,rfl,rfl,HK ⟨f1,f2⟩ hg⟩⟩
 | k+1,h=>by
   obtain ⟨f1,f2,f3,f4,f5,f6,f7,f8⟩:=sK hR
   obtain ⟨hs,ih⟩:=Ym hR hg k sE
   have hm:sP (p.code[(k:Int).toNat]?.getD default) p.regs=true:=by
    refine f8 _ ?_
    rw [aE,aA sE];exact bI _
   refine ⟨CO hs hm,?_⟩
   rcases ih with ⟨rs,E,h1,h2,h3⟩ | ⟨h1,h2⟩
   · cases hd:wQ (p.code[(k:Int).toNat]?.getD default) rs with
     | some x =>
       obtain ⟨g1,E1,g2⟩:=ME (n:=k) hs h3 hm h2 hd
       exact .inl ⟨_,E1,Cp (x:=[]) h1 hd,g1,g2⟩
     | none =>
       refine .inr ⟨?_,HI (n:=k) hs h3 hm h2 hd⟩
       unfold wC;rw [h1];simp only [eF,hd,jO]
   exact .inr ⟨Gg h1 1,HJ h2⟩
theorem Yn {p:PV} {gs:List (List Int)} (hR:sH p=true) (hg:(gs.length:Int)=p.ins):sQ (xG p) gs=sQ p gs:=by
 obtain ⟨f1,f2,f3,f4,f5,f6,f7,f8⟩:=sK hR
 obtain ⟨hs,ih⟩:=Ym hR hg p.code.length (aH _)
 have e:wC (xG p) gs (xG p).code.length=xP (tK p p.code.length).2 (uI p gs):=by
  rw [xQ _ _ _ (aH _),bC];rfl
 unfold sQ
 rw [e]
 rcases ih with ⟨rs,E,h1,h2,h3⟩ | ⟨h1,h2⟩
 · rw [h1,h2]
   show some _=some _
   congr 1
   show (vL p (tK p p.code.length).1.held).map _=p.outs.map _
   unfold vL
   rw [iW]
   refine fT fun r hr=>?_
   have hl:=hs.len
   obtain ⟨a1,a2,a3⟩:=yQ (l:=(tK p p.code.length).1.held) (r:=r) (by have:=f7 r hr;omega)
   show rs[(holder _ _).toNat]?.getD []=_
   rw [h3.reg _ ⟨a1,by omega⟩,a3,h3.reg _ (f7 r hr)]
 rw [h1,h2];rfl
section
variable {B:Bs} {e:Env} {D:List Deferred} {H:Hp} {G:Imm}
theorem retagH {a:Act} {w:World} (hh:Hold B ⟨e,D,H,G⟩ a w) (t t':Nat) {k:Option Nat} {o:Obj} (ht:H.get t=some (k,o)) (hn:t≠t') (hk:H.get t'=none∨True):Hold B ⟨e,D,(t',k,o) :: (t,none,o) :: H,G⟩ a w:=by
 have key:∀ i b o',Hp.get ((t',k,o) :: (t,none,o) :: H) i=some (some b,o')→(i=t'∧H.get t=some (some b,o'))∨(i≠t'∧i≠t∧H.get i=some (some b,o')):=fun i b o' hx=>by
  rw [bH] at hx
  split at hx
  · rename_i hi;left;refine ⟨hi.symm,?_⟩;rw [ht];exact hx
  rename_i hi
  rw [bH] at hx
  split at hx
  · simp at hx
  rename_i hi2;exact .inr ⟨fun h=>hi h.symm,fun h=>hi2 h.symm,hx⟩
 refine ⟨hh.size,hh.defers,hh.env,⟨?_,?_,hh.mem.imm,?_⟩,hh.upd,?_,hh.le,hh.new⟩
 · intro i b o' hx
   rcases key i b o' hx with ⟨_,h⟩ | ⟨_,_,h⟩
   · exact hh.mem.own _ b o' h
   exact hh.mem.own _ b o' h
 · intro i i' b o1 o2 hx hy
   rcases key i b o1 hx with ⟨h1,h2⟩ | ⟨h1,h1',h2⟩ <;> rcases key i' b o2 hy with ⟨h3,h4⟩ | ⟨h3,h3',h4⟩
   · rw [h1,h3]
   · exact absurd (hh.mem.one _ _ b _ _ h2 h4).symm h3'
   · exact absurd (hh.mem.one _ _ b _ _ h2 h4) h1'
   exact hh.mem.one _ _ b _ _ h2 h4
 · intro i b o' hx
   rcases key i b o' hx with ⟨_,h⟩ | ⟨_,_,h⟩
   · exact hh.mem.off _ b o' h
   exact hh.mem.off _ b o' h
 intro i b o' hx
 rcases key i b o' hx with ⟨_,h⟩ | ⟨_,_,h⟩
 · exact hh.mine _ b o' h
 exact hh.mine _ b o' h
theorem Ar.retag {x:Exit} {Q:Exit→Act→World→Prop} (t t':Nat) {k:Option Nat} {o:Obj} (ht:H.get t=some (k,o)) (hn:Nat.beq t t'=false) (h:Ar Q x B ⟨e,D,(t',k,o) :: (t,none,o) :: H,G⟩):Ar Q x B ⟨e,D,H,G⟩:=
 fun a w hh=>h a w (retagH hh t t' ht (fun e=>by subst e;simp at hn) (.inr trivial))
end
section
attribute [local irreducible] Me pw tY p2
end
section
attribute [local irreducible] Me pw tY p2
def WO (m N:Nat) (rs:List (List Int)):Prop:=∀ zs∈rs,zs.length=N∧Go.Sl.Below m zs
end
def Bigs (G:Imm) (l:List IV) (zs:List Int):Prop:=l.length=zs.length∧∀ i:Nat,i<l.length→Big G (l[i]?.getD default) (zs[i]?.getD 0)
theorem Bigs.up {G G':Imm} {l:List IV} {zs:List Int} (h:Bigs G l zs) (hl:G.le G'):Bigs G' l zs:=⟨h.1,fun i hi=>(h.2 i hi).up hl⟩
theorem Bigs.at {G:Imm} {l:List IV} {zs:List Int} (h:Bigs G l zs) {k:Int} (hk:0≤k∧k<l.length):Big G (l[k.toNat]?.getD default) (zs[k.toNat]?.getD 0):=h.2 _ sE
theorem Bigs.nil (G:Imm):Bigs G [] []:=⟨rfl,fun i hi=>by simp at hi⟩
theorem Bigs.set {G:Imm} {l:List IV} {zs:List Int} (h:Bigs G l zs) (k:Nat) {x:IV} {z:Int} (hx:Big G x z):Bigs G (l.set k x) (zs.set k z):=by
 refine ⟨by rw [aG,aG];exact h.1,fun i hi=>?_⟩
 rw [aG] at hi
 rw [cC,cC]
 have h1:=h.1
 by_cases hk:k=i
 · subst hk
   rw [aF rfl,aF rfl,aF hi,aF (by omega)];exact hx
 rw [aD hk,aD hk];exact h.2 i hi
theorem Bigs.snoc {G:Imm} {l:List IV} {zs:List Int} (h:Bigs G l zs) {x:IV} {z:Int} (hx:Big G x z):Bigs G (l++[x]) (zs++[z]):=by
 refine ⟨by rw [aC,aC,h.1];rfl,fun i hi=>?_⟩
 rw [aC,iU] at hi
 have h1:=h.1
 rcases aK i l.length with h2 | h2
 · rw [bB h2,bB sE];exact h.2 i h2
 have e:i=l.length:=sE
 subst e
 rw [bT (aH _),hJ,h1,bT (aH _),hJ];exact hx
theorem CP (G:Imm) (n:Nat):Bigs G (List.replicate n (default:IV)) (List.replicate n 0):=by
 refine ⟨by rw [aI,aI],fun i hi=>?_⟩
 rw [aI] at hi
 rw [eL,eL,aF hi,aF hi]
 exact Big.zero G
abbrev oX:=@CP
def Below (m:Nat) (zs:List Int):Prop:=∀ z∈zs,(z.natAbs:Int)<pb m
theorem Below.at {m:Nat} {zs:List Int} (h:Below m zs) (k:Nat):((zs[k]?.getD 0).natAbs:Int)<pb m:=by
 rcases aK k zs.length with h1 | h1
 · rw [aA h1];exact h _ (bI h1)
 rw [bP h1];exact xO m
theorem WP:((1:Int).natAbs:Int)<pb 1:=by unfold pb;decide
theorem WQ (n:Nat):p2 n=((2 ^ n:Nat):Int):=rfl
theorem Ii {z:Int}:Yh z=0↔z=0:=by
 unfold Yh
 split
 · simp [*]
 split <;> omega
theorem Oc {x y:Int} (hy:y≠0):((x % y).natAbs:Int)<y.natAbs:=by
 have e1:=kY x hy
 rcases Int.lt_or_gt_of_ne hy with h | h
 · have e2:=gA x (show 0 < -y by omega)
   rw [Int.emod_neg] at e2
   omega
 have e2:=gA x h
 omega
section
attribute [local irreducible] sI pb tY tF p2
theorem ee (G:Imm) (n:Nat) (hn:n≤64) :
 Does Tryz.prog 221 [.int .i64 (n:Int)] G [] (fun v G' Ho=>∃ r:IV,v=.agg (Cells.enc r).toArray∧Big G' r (p2 n)∧Ho=[]):=by
 refine D0 Tryz.func221 Tryz.ntmps221 fun w=>?_
 refine aJ 2 [] ?_
 refine aN 0 rfl T.zero125 fun b1=>?_
 refine aL 4 [] ?_
 refine bX 1 rfl (HE _ _ sE) fun v1 G1 Ho1 hle1 hp=>?_
 obtain ⟨ro1,rfl,hro1,rfl⟩:=hp
 refine aB 1 [] ?_
 refine gK 7 rfl (show _=Value.int .i64 ((32*(n / 32)+n % 32:Nat):Int) by rw [nX]) ?_
 refine bX 20 rfl (dq _ ro1 1 (n / 32) (n % 32) hro1 (aV (gJ hro1 WP) sN) (Nat.mod_lt _ sN) sE) fun v9 G9 Ho9 hle9 hp=>?_
 obtain ⟨r9,rfl,hr9,rfl⟩:=hp
 refine aB 3 [] ?_
 refine aN 1 rfl T.zero125 fun b2=>?_
 refine aR 11 [1,1,0] ?_
 refine cK (.inr rfl) (Ho:=Hp.only _ []) rfl (.agg 0 rfl rfl T.agg125) (aT _ _) ?_
 exact ⟨r9,rfl,Big.out hr9 (by rw [nX,cY,WQ]),rfl⟩
theorem ZB (G:Imm) (x y:IV) (zx zy:Int) (hx:Big G x zx) (hy:Big G y zy) (h1:x.n≤268435456) (h2:y.n≤268435456) (hy0:zy≠0) :
 Does Tryz.prog 178 [.agg (Cells.enc x).toArray,.agg (Cells.enc y).toArray] G [] (fun v G' Ho=>∃ q:IV,v=.tuple #[.agg (Cells.enc q).toArray,.bool (decide (zx % zy=0))]∧Big G' q (zx / zy)∧Ho=[]):=by
 have hlt:((zx % zy).natAbs:Int)<pb y.n:=by
  have e2:=Oc (x:=zx) hy0
  have e3:=Big.lt hy
  omega
 refine D0 Tryz.func178 Tryz.ntmps178 fun w=>?_
 refine aJ 2 [] ?_
 refine dQ 0 fun b1=>?_
 refine dQ 1 fun b2=>?_
 refine aN 2 rfl T.zero125 fun b3=>?_
 refine aL 7 [0,1] ?_
 refine bX 3 rfl (YZ _ _ _ _ _ hx hy h1 h2 hy0) fun v1 G1 Ho1 hle1 hp=>?_
 obtain ⟨q1,r1,rfl,hq1,hr1,rfl⟩:=hp
 replace hx:=hx.up hle1
 replace hy:=hy.up hle1
 refine aB 4 [] ?_
 refine aN 3 rfl T.zero125 fun b4=>?_
 refine aN 4 rfl T.zero125 fun b5=>?_
 refine aZ 6 [3,4] ?_
 refine cX [0,1,2,3,4] [(2,4)] T.mixed [[0,3],[1,4]] ?_
 refine bV 2 ?_
 refine cI rfl (Nz _ r1 (zx % zy) hr1 (aV (gJ hr1 hlt) (aV h2 sN))) ?_
 refine bD ?_
 refine dE [[3]] ?_
 refine bV 4 ?_
 refine aB 1 [2] ?_
 refine bD ?_
 refine dE [[5]] ?_
 refine cZ ?_
 refine dX 2 [] ?_
 refine fS (.inr rfl) (Ho:=Hp.only _ []) rfl (.agg 2 rfl rfl T.agg125) (.tmp rfl) (aT _ _) ?_
 all_goals exact ⟨q1,by rw [rT.2 Ii],hq1,rfl⟩
end
def near (a b:Int):Prop:=-16≤a∧a≤16∧-16≤b∧b≤16
instance (a b:Int):Decidable (near a b):=inferInstanceAs (Decidable (_∧_))
theorem ZC (G:Imm) (n:Int):Does Tryz.prog 128 [.int .i64 n] G [] (fun v G' Ho=>v=.bool (decide (-16≤n∧n≤16))∧G'=G∧Ho=[]):=by
 refine D0 Tryz.func128 Tryz.ntmps128 fun w=>?_
 refine aJ 10 [] ?_
 apply bW 3 5 8 rfl
 intro hg1
 refine aB 5 [] ?_
 exact dA 3 0
 intro hg1
 refine aB 3 [] ?_
 exact dA 3 0
 refine aR 4 [] ?_
 refine cP ?_
 exact ⟨rfl,rfl,rfl⟩
theorem ef (G:Imm) (n:Int) (h:-9223372036854775807≤n):Does Tryz.prog 264 [.int .i64 n] G [] (fun v G' Ho=>v=.int .i64 (n.natAbs:Int)∧G'=G∧Ho=[]):=by
 refine D0 Tryz.func264 Tryz.ntmps264 fun w=>?_
 refine bJ 12 [] ?_
 refine cT (fun hc1=>?_) fun hc1=>?_
 refine aJ 3 [] ?_
 refine aO (qO rfl sE) ?_
 refine aR 5 [] ?_
 refine cP ?_
 rotate_left
 refine bE 9 [] ?_
 refine cP ?_
 rotate_left
 · exact ⟨by congr 1;omega,rfl,rfl⟩
 exact ⟨by congr 1;omega,rfl,rfl⟩
theorem ZD (G:Imm) (a b:Int) (h1:-4611686018427387904≤a∧a≤4611686018427387904) (h2:-4611686018427387904≤b∧b≤4611686018427387904):Does Tryz.prog 227 [.int .i64 a,.int .i64 b] G [] (fun v G' Ho=>v=.int .i64 (Int.gcd a b:Int)∧G'=G∧Ho=[]):=by
 refine D0 Tryz.func227 Tryz.ntmps227 fun w=>?_
 refine bJ 7 [] ?_
 refine gY (ι:=Int×Int) (fun (x,y)=>([(0,.int .i64 x),(1,.int .i64 y),(4,.int .i64 0)],[])) (fun (x,y)=>Int.gcd x y=Int.gcd a b∧(-4611686018427387904≤x∧x≤4611686018427387904)∧(-4611686018427387904≤y∧y≤4611686018427387904)) (fun (x,y)=>y.natAbs) ((a,b)) (⟨rfl,h1,h2⟩) fun ⟨x,y⟩=>fun hk=>?_
 obtain ⟨hg,hx,hy⟩:=hk
 refine bJ 7 [] ?_
 refine cT (fun hc1=>?_) fun hc1=>?_
 refine bJ 3 [] ?_
 refine cX [] [] T.mixed [[0],[1],[2]] ?_
 refine dN 3 [] rfl (rU rfl rfl sE) ?_
 refine dE [[4],[5]] ?_
 refine cZ ?_
 refine rS ?_
 rotate_left
 refine aJ 8 [] ?_
 refine cI rfl (ef _ _ sE) ?_
 refine aR 4 [] ?_
 refine cP ?_
 rotate_left
 · have e:=Int.natAbs_tmod x y
   have hyp:0<y.natAbs:=sE
   have e2:=Nat.mod_lt x.natAbs hyp
   have e3:=Nat.mod_le x.natAbs y.natAbs
   refine cL ((y,x.tmod y)) ?_ ?_
   · refine ⟨?_,hy,by omega⟩
     rw [←hg]
     show Nat.gcd y.natAbs (x.tmod y).natAbs=Nat.gcd x.natAbs y.natAbs
     rw [e,Nat.gcd_comm,←Nat.gcd_rec,Nat.gcd_comm]
   show (x.tmod y).natAbs<y.natAbs
   omega
 refine ⟨?_,rfl,rfl⟩
 rw [←hg]
 have e:y=0:=sE
 subst e
 rw [Int.gcd_zero_right]
theorem c72 (G:Imm) (a b:Int):Does Tryz.prog 72 [.agg #[.int .i64 a,.int .i64 b]] G [] (fun v G' Ho=>v=.bool (decide (near a b))∧G'=G∧Ho=[]):=by
 refine D0 Tryz.func72 Tryz.ntmps72 fun w=>?_
 refine aJ 2 [] ?_
 refine dQ 0 fun b1=>?_
 refine aL 7 [0] ?_
 refine cI rfl (by apply ZC <;> first | assumption | omega | rfl) ?_
 refine aB 1 [] ?_
 apply bW 4 6 10 rfl
 intro hg1
 refine aB 5 [0] ?_
 refine cI rfl (by apply ZC <;> first | assumption | omega | rfl) ?_
 refine aB 1 [] ?_
 exact dA 4 0
 intro hg1
 refine aB 4 [] ?_
 exact dA 4 0
 refine aR 4 [] ?_
 refine cP ?_
 exact ⟨by congr 1;exact decide_eq_decide.mpr (by unfold near;omega),rfl,rfl⟩
theorem ZE (G:Imm) (a b:Int):Does Tryz.prog 105 [.agg #[.int .i64 a,.int .i64 b]] G [] (fun v G' Ho=>v=.bool (decide (a=0∧b=0))∧G'=G∧Ho=[]):=by
 refine D0 Tryz.func105 Tryz.ntmps105 fun w=>?_
 refine aJ 2 [] ?_
 refine dQ 0 fun b1=>?_
 refine aL 6 [0] ?_
 refine aO (bO (cs:=[_,_]) T.st52 rfl rfl rfl) ?_
 refine aO (rJ [_,_] [_,_] T.ai52 rfl rfl rfl rfl) ?_
 refine aR 4 [] ?_
 refine cP ?_
 exact ⟨by congr 1;exact decide_eq_decide.mpr tR,rfl,rfl⟩
def uT (a b:Int):Int:=if b<0∨(b=0∧a<0) then -(Int.gcd a b:Int) else (Int.gcd a b:Int)
def EG (a b:Int):Int×Int:=if a=0∧b=0 then (a,b) else (a.tdiv (uT a b),b.tdiv (uT a b))
theorem wR (a g:Int):-(a.natAbs:Int)≤a.tdiv g∧a.tdiv g≤a.natAbs:=by
 have h:(a.tdiv g).natAbs=a.natAbs / g.natAbs:=mK a g
 have h2:=Nat.div_le_self a.natAbs g.natAbs
 omega
theorem ZF (G:Imm) (a b:Int) (h1:-4611686018427387904≤a∧a≤4611686018427387904) (h2:-4611686018427387904≤b∧b≤4611686018427387904):Does Tryz.prog 201 [.agg #[.int .i64 a,.int .i64 b]] G [] (fun v G' Ho=>v=.agg #[.int .i64 (EG a b).1,.int .i64 (EG a b).2]∧G'=G∧Ho=[]):=by
 refine D0 Tryz.func201 Tryz.ntmps201 fun w=>?_
 have hga:=sB a b
 have hgb:=rO a b
 have hgm:(Int.gcd a b:Int)≤4611686018427387904:=by
  by_cases h:a=0
  · subst h;rw [Int.gcd_zero_left];omega
  have:=Int.le_of_dvd (show 0<(a.natAbs:Int) by omega) (Int.dvd_natAbs.mpr hga);omega
 have q1:=wR a (Int.gcd a b:Int)
 have q2:=wR b (Int.gcd a b:Int)
 have q3:=wR a (-(Int.gcd a b:Int))
 have q4:=wR b (-(Int.gcd a b:Int))
 refine aJ 2 [] ?_
 refine dQ 0 fun b1=>?_
 refine aN 1 rfl T.zero52 fun b2=>?_
 refine aL 8 [0,0] ?_
 refine cI rfl (ZD _ _ _ sE sE) ?_
 refine aZ 12 [] ?_
 refine cT (fun hc1=>?_) fun hc1=>?_
 refine bE 9 [0,1] ?_
 refine cK (.inr rfl) (Ho:=Hp.only _ []) rfl (.agg 1 rfl rfl T.agg52) (aT _ _) ?_
 rotate_left
 refine bJ 9 [0] ?_
 refine cT (fun hc2=>?_) fun hc2=>?_
 refine aJ 5 [1] ?_
 refine aO (qO rfl sE) ?_
 refine aZ 5 [] ?_
 refine cX [0,1] [(1,9)] T.mixed [[0],[1,0],[2]] ?_
 refine dN 3 [] rfl (nW rfl rfl sE sE) ?_
 refine dE [[4],[5,0],[6]] ?_
 refine dN 7 [] rfl (nW rfl rfl sE sE) ?_
 refine dN 8 [] rfl (bO (cs:=[_,_]) T.st52 rfl rfl rfl) ?_
 refine bV 9 ?_
 refine aB 1 [1] ?_
 refine eZ ?_
 refine dX 2 [] ?_
 refine cK (.inr rfl) (Ho:=Hp.only _ []) rfl (.agg 1 rfl rfl T.agg52) (aT _ _) ?_
 rotate_left
 refine aJ 5 [0] ?_
 apply bW 4 20 24 rfl
 intro hg1
 refine aB 7 [0] ?_
 exact dA 4 0
 intro hg1
 refine aB 4 [] ?_
 exact dA 4 0
 refine aZ 3 [] ?_
 refine cT (fun hc3=>?_) fun hc3=>?_
 refine aJ 2 [] ?_
 refine aO (qO rfl sE) ?_
 refine aZ 5 [] ?_
 refine cX [0,1] [(1,9)] T.mixed [[0],[1,0],[2]] ?_
 refine dN 3 [] rfl (nW rfl rfl sE sE) ?_
 refine dE [[4],[5,0],[6]] ?_
 refine dN 7 [] rfl (nW rfl rfl sE sE) ?_
 refine dN 8 [] rfl (bO (cs:=[_,_]) T.st52 rfl rfl rfl) ?_
 refine bV 9 ?_
 refine aB 1 [1] ?_
 refine eZ ?_
 refine dX 2 [] ?_
 refine cK (.inr rfl) (Ho:=Hp.only _ []) rfl (.agg 1 rfl rfl T.agg52) (aT _ _) ?_
 rotate_left
 refine bJ 4 [] ?_
 refine cX [0,1] [(1,9)] T.mixed [[0],[1,0],[2]] ?_
 refine dN 3 [] rfl (nW rfl rfl sE sE) ?_
 refine dE [[4],[5,0],[6]] ?_
 refine dN 7 [] rfl (rB rfl rfl sE) ?_
 refine dN 8 [] rfl (bO (cs:=[_,_]) T.st52 rfl rfl rfl) ?_
 refine bV 9 ?_
 refine aB 1 [1] ?_
 refine eZ ?_
 refine dX 2 [] ?_
 refine cK (.inr rfl) (Ho:=Hp.only _ []) rfl (.agg 1 rfl rfl T.agg52) (aT _ _) ?_
 rotate_left
 · obtain ⟨ea,eb⟩:=Int.gcd_eq_zero_iff.mp (show Int.gcd a b=0 by omega)
   exact ⟨by unfold EG;rw [aF ⟨ea,eb⟩],rfl,rfl⟩
 · have hn:¬(a=0∧b=0):=sE
   exact ⟨by unfold EG uT;rw [aD hn,aF (by omega)],rfl,rfl⟩
 · have hn:¬(a=0∧b=0):=sE
   exact ⟨by unfold EG uT;rw [aD hn,aF (by omega)],rfl,rfl⟩
 have hn:¬(a=0∧b=0):=fun h=>hc1 (by rw [h.1,h.2];rfl)
 exact ⟨by unfold EG uT;rw [aD hn,aD (by omega),Int.tdiv_eq_ediv_of_nonneg (a:=b) sE],rfl,rfl⟩
def same (a b c d:Int):Prop:=EG a b=EG c d
instance (a b c d:Int):Decidable (same a b c d):=inferInstanceAs (Decidable (_=_))
theorem eg (G:Imm) (a b c d:Int):Does Tryz.prog 154 [.agg #[.int .i64 a,.int .i64 b],.agg #[.int .i64 c,.int .i64 d]] G [] (fun v G' Ho=>v=.tuple #[.bool (decide (near a b∧near c d∧same a b c d)),.int .i64 (if near a b∧near c d then 0 else 2)]∧G'=G∧Ho=[]):=by
 refine D0 Tryz.func154 Tryz.ntmps154 fun w=>?_
 refine aJ 2 [] ?_
 refine dQ 0 fun b1=>?_
 refine dQ 1 fun b2=>?_
 refine aL 8 [0] ?_
 refine cI rfl Lj ?_
 refine aO (fF rfl) ?_
 refine aB 1 [] ?_
 apply dP 4 9 13 rfl
 intro hg1
 refine aB 3 [1] ?_
 refine cI rfl Lj ?_
 refine aB 1 [] ?_
 refine aO (fF rfl) ?_
 refine aB 1 [] ?_
 exact dA 4 0
 intro hg1
 refine aB 4 [] ?_
 exact dA 4 0
 refine aZ 2 [] ?_
 refine cT (fun hc1=>?_) fun hc1=>?_
 refine bE 8 [] ?_
 refine gR ?_
 rotate_left
 refine bJ 3 [] ?_
 refine cX [0,1] [] T.mixed [[0,0],[2,1]] ?_
 refine bV 1 ?_
 refine cI rfl (ZF _ _ _ Nd Nd) ?_
 refine cG 3 ?_
 refine cI rfl (ZF _ _ _ Nd Nd) ?_
 refine bD ?_
 refine dN 4 [] rfl (rJ [_,_] [_,_] T.ai52 rfl rfl rfl rfl) ?_
 refine dE [[5],[6]] ?_
 refine cZ ?_
 refine dX 2 [] ?_
 refine gR ?_
 rotate_left
 · exact ⟨by rw [aD (by unfold near at *;omega),bQ (fun h=>absurd (And.intro h.1 h.2.1) Nd)],rfl,rfl⟩
 refine ⟨?_,rfl,rfl⟩
 rw [aF (by unfold near at *;omega)]
 congr 4
 exact decide_eq_decide.mpr (by unfold same near at *;rw [Prod.ext_iff];simp;omega)
theorem EH {a b c d:Int} (h:near a b) (k:near c d):-256≤a*d∧a*d≤256:=by
 unfold near at *
 have h1:(a*d).natAbs≤16*16:=by rw [eX];exact fQ sE sE
 omega
theorem eh (G:Imm) (a b c d:Int):Does Tryz.prog 229 [.agg #[.int .i64 a,.int .i64 b],.agg #[.int .i64 c,.int .i64 d]] G [] (fun v G' Ho=>v=.tuple #[.int .i64 (if near a b∧near c d then a*d - c*b else 0),.int .i64 (if near a b∧near c d then 0 else 2)]∧G'=G∧Ho=[]):=by
 refine D0 Tryz.func229 Tryz.ntmps229 fun w=>?_
 refine aJ 2 [] ?_
 refine dQ 0 fun b1=>?_
 refine dQ 1 fun b2=>?_
 refine aL 8 [0] ?_
 refine cI rfl Lj ?_
 refine aO (fF rfl) ?_
 refine aB 1 [] ?_
 apply dP 4 9 13 rfl
 intro hg1
 refine aB 3 [1] ?_
 refine cI rfl Lj ?_
 refine aB 1 [] ?_
 refine aO (fF rfl) ?_
 refine aB 1 [] ?_
 exact dA 4 0
 intro hg1
 refine aB 4 [] ?_
 exact dA 4 0
 refine aZ 2 [] ?_
 refine cT (fun hc1=>?_) fun hc1=>?_
 refine bE 8 [] ?_
 refine gR ?_
 rotate_left
 refine aJ 8 [0,1] ?_
 refine aO (lW rfl rfl) ?_
 refine aB 4 [1,0] ?_
 refine aO (lW rfl rfl) ?_
 refine aO (Hm rfl rfl) ?_
 refine aR 5 [] ?_
 refine gR ?_
 rotate_left
 · exact ⟨by rw [aD (by unfold near at *;omega),aD (by unfold near at *;omega)],rfl,rfl⟩
 have hn:near a b∧near c d:=Nd
 have m1:=EH hn.1 hn.2
 have m2:=EH hn.2 hn.1
 exact ⟨by rw [aF hn,aF hn,jK (a*d) sE,jK (c*b) sE,jK _ sE],rfl,rfl⟩
def Ux (p q:R2):Prop:=near p.a p.b∧near q.a q.b∧same p.a p.b q.a q.b
def Twin (l:List R2):Prop:=∃ j,j<l.length∧∃ i,i<j∧Ux (l[i]?.getD default) (l[j]?.getD default)
theorem ZG (G:Imm) (a:Option Addr) (c:Nat) (l:List R2) (ha:Arr G a l) (h1:l.length≤1048576) (hc:l.length≤c):Does Tryz.prog 106 [.slice a l.length c] G [] (fun v G' Ho=>∃ (i j:Int) (b:Bool),v=.tuple #[.int .i64 i,.int .i64 j,.bool b]∧(b=true↔Twin l)∧G'=G∧Ho=[]):=by
 refine D0 Tryz.func106 Tryz.ntmps106 fun w=>?_
 refine bJ 16 [] ?_
 refine gY (ι:=Nat) (fun j=>([(13,.int .i64 (j:Int)),(12,.int .i64 (l.length:Int)),(11,.slice a (List.length l) c),(0,.slice a (List.length l) c)],[])) (fun j=>j≤l.length∧(∀ j',j'<j→∀ i,i<j'→¬Ux (l[i]?.getD default) (l[j']?.getD default))) (fun j=>l.length - j) (0) (⟨aM _,fun j' h=>absurd h sE⟩) fun j=>fun hk=>?_
 obtain ⟨hj,hno⟩:=hk
 refine bJ 6 [] ?_
 refine cT (fun hc1=>?_) fun hc1=>?_
 refine aJ 7 [] ?_
 refine fP (α:=R2) T.sl22 ?_
 refine lB T.agg52 ?_
 refine aN 0 rfl T.zero52 fun b1=>?_
 refine aL 8 [0] ?_
 refine aO (pU T.sl22 rfl rfl sE) ?_
 refine aZ 5 [] ?_
 rotate_left
 refine bE 13 [] ?_
 refine kM ?_
 rotate_left
 · have haj:Arr G (subA a c 0 2) (l.take j):=Hw ha j
   have ej:(l.take j).length=j:=by rw [bG];omega
   refine iI 20 rfl (show _=Value.slice (subA a c 0 2) (l.take j).length c by rw [ej];rfl) ?_
   refine gY (ι:=Nat) (fun i=>([(22,.int .i64 (i:Int)),(0,.slice a l.length c),(11,.slice a l.length c),(12,.int .i64 (l.length:Int)),(20,.slice (Go.Sl.subA a c 0 2) (List.length (List.take j l)) c),(21,.int .i64 (↑(Int.toNat (↑j:Int)):Int)),(5,.int .i64 (↑j:Int)),(6,.pointer (some ⟨b1,0,none⟩)),(13,.int .i64 (↑j:Int))],[(0,some b1,.cells (List.toArray (Cells.enc (Option.getD l[Int.toNat (↑j:Int)]? default))) 52)])) (fun i=>i≤j∧(∀ i',i'<i→¬Ux (l[i']?.getD default) (l[j]?.getD default))) (fun i=>j - i) (0) (⟨aM _,fun i' h=>absurd h sE⟩) fun i=>fun hk=>?_
   obtain ⟨hi,hni⟩:=hk
   have eti:i<j→(l.take j)[(i:Int).toNat]?.getD default=l[i]?.getD default:=fun h=>by rw [oO,aF (by omega)];rfl
   have etj:l[(j:Int).toNat]?.getD default=l[j]?.getD default:=rfl
   refine bJ 6 [] ?_
   refine cT (fun hc2=>?_) fun hc2=>?_
   refine aJ 7 [] ?_
   refine fP (α:=R2) T.sl22 ?_
   refine lB T.agg52 ?_
   refine aN 1 rfl T.zero52 fun b2=>?_
   refine aL 8 [1,1,0] ?_
   refine cI rfl (by apply eg <;> first | assumption | omega | rfl) ?_
   refine aZ 12 [] ?_
   refine cT (fun hc3=>?_) fun hc3=>?_
   refine bE 19 [] ?_
   refine kM ?_
   rotate_left
   refine bE 7 [] ?_
   rotate_left
   refine bE 10 [] ?_
   rotate_left
   · rw [eti sE] at hc3
     exact ⟨_,_,true,rfl,⟨fun _=>⟨j,by omega,i,by omega,hc3⟩,fun _=>rfl⟩,rfl,rfl⟩
   · refine cN 22 rfl (show _=Value.int .i64 ((i+1:Nat):Int) from rfl) ?_
     refine cL (i+1) ?_ ?_
     · refine ⟨by omega,fun i' h2=>?_⟩
       rcases aK i' i with h | h
       · exact hni i' h
       have e:i'=i:=sE
       subst e;intro hq;rw [eti sE] at hc3;exact hc3 hq
     omega
   refine cN 13 rfl (show _=Value.int .i64 ((j+1:Nat):Int) from rfl) ?_
   refine cL (j+1) ?_ ?_
   · refine ⟨by omega,fun j' h1 i h2=>?_⟩
     rcases aK j' j with h | h
     · exact hno j' h i h2
     have e:j'=j:=sE
     subst e;exact hni i sE
   omega
 refine ⟨0,0,false,rfl,⟨fun h=>absurd h sN,fun ⟨j',h1,i',h2,h3⟩=>absurd h3 (hno j' sE i' h2)⟩,rfl,rfl⟩
def Od (p:R2):Prop:=near p.a p.b∧¬(p.a=0∧p.b=0)
def tL (l:List R2):Prop:=1≤l.length∧l.length≤15∧(∀ i,i<l.length→Od (l[i]?.getD default))∧¬Twin l
theorem ek (G:Imm) (a:Option Addr) (c:Nat) (l:List R2) (ha:Arr G a l) (h1:l.length≤1048576) (hc:l.length≤c):Does Tryz.prog 144 [.slice a l.length c] G [] (fun v G' Ho=>∃ b:Bool,v=.bool b∧(b=true↔tL l)∧G'=G∧Ho=[]):=by
 refine D0 Tryz.func144 Tryz.ntmps144 fun w=>?_
 refine aJ 12 [] ?_
 apply dP 4 11 15 rfl
 intro hg1
 refine aB 7 [] ?_
 exact dA 4 0
 intro hg1
 refine aB 4 [] ?_
 exact dA 4 0
 refine aZ 2 [] ?_
 refine cT (fun hc1=>?_) fun hc1=>?_
 refine bE 7 [] ?_
 refine cP ?_
 rotate_left
 refine bJ 11 [] ?_
 rotate_left
 · exact ⟨false,rfl,⟨fun h=>absurd h sN,fun h=>absurd h.1 (by have:=h.2.1;omega)⟩,rfl,rfl⟩
 refine gY (ι:=Nat) (fun j=>([(18,.int .i64 (j:Int)),(0,.slice a l.length c),(17,.int .i64 (l.length:Int)),(16,.slice a (List.length l) c)],[])) (fun j=>j≤l.length∧(∀ i,i<j→Od (l[i]?.getD default))) (fun j=>l.length - j) (0) (⟨aM _,fun j' h=>absurd h sE⟩) fun j=>fun hk=>?_
 obtain ⟨hj,hno⟩:=hk
 refine bJ 6 [] ?_
 refine cT (fun hc2=>?_) fun hc2=>?_
 refine aJ 6 [] ?_
 refine fP (α:=R2) T.sl22 ?_
 refine lB T.agg52 ?_
 refine aN 0 rfl T.zero52 fun b1=>?_
 refine aL 6 [0,0] ?_
 refine cI rfl Lj ?_
 refine aO (fF rfl) ?_
 refine aB 1 [] ?_
 apply dP 3 25 28 rfl
 intro hg1
 refine aB 3 [0] ?_
 refine cI rfl (by apply ZE <;> first | assumption | omega | rfl) ?_
 refine aB 1 [] ?_
 exact dA 3 0
 intro hg1
 refine aB 3 [] ?_
 exact dA 3 0
 refine aZ 2 [] ?_
 refine cT (fun hc3=>?_) fun hc3=>?_
 refine bE 11 [] ?_
 refine cP ?_
 rotate_left
 refine bE 7 [] ?_
 rotate_left
 refine aJ 8 [] ?_
 refine bX 0 rfl (ZG _ _ _ _ sF sE tJ) fun v1 G1 Ho1 hle1 hp=>?_
 obtain ⟨ti1,tj1,tb1,rfl,htb1,rfl,rfl⟩:=hp
 refine aR 17 [] ?_
 refine cP ?_
 rotate_left
 · exact ⟨false,rfl,⟨fun h=>absurd h sN,fun h=>absurd (h.2.2.1 j sE) (by show ¬Od (l[(j:Int).toNat]?.getD default);unfold Od;unfold near at *;omega)⟩,rfl,rfl⟩
 · refine cN 18 rfl (show _=Value.int .i64 ((j+1:Nat):Int) from rfl) ?_
   refine cL (j+1) ?_ ?_
   · refine ⟨by omega,fun i' h2=>?_⟩
     rcases aK i' j with h | h
     · exact hno i' h
     have e:i'=j:=sE
     subst e
     show Od (l[(i':Int).toNat]?.getD default)
     unfold Od;unfold near at *;omega
   omega
 refine ⟨!tb1,rfl,?_,rfl,rfl⟩
 have e:(∀ i,i<l.length→Od (l[i]?.getD default)):=fun i hi=>hno i sE
 rw [rR,lG,ne_eq,htb1]
 exact ⟨fun h=>⟨by omega,by omega,e,h⟩,fun h=>h.2.2.2⟩
instance (a b c d:Int):Decidable (if (a=0∧b=0)∨(c=0∧d=0) then (a=0∧b=0)∧(c=0∧d=0) else a*d - c*b=0):=by split <;> infer_instance
def SE (a b c d:Int):Prop:=if (a=0∧b=0)∨(c=0∧d=0) then (a=0∧b=0)∧(c=0∧d=0) else a*d - c*b=0
instance (a b c d:Int):Decidable (SE a b c d):=inferInstanceAs (Decidable (if (a=0∧b=0)∨(c=0∧d=0) then (a=0∧b=0)∧(c=0∧d=0) else a*d - c*b=0))
theorem Ij {y g:Int} (h:y*g<0) (hg:g<0):0<y:=by
 rcases rN y 0 with h1 | h1 | h1
 · have:=Int.mul_pos_of_neg_of_neg h1 hg;omega
 · subst h1;rw [dV] at h;omega
 exact h1
theorem Fv {y g:Int} (h:0<y*g) (hg:0<g):0<y:=by
 rcases rN y 0 with h1 | h1 | h1
 · have:=Int.mul_neg_of_neg_of_pos h1 hg;omega
 · subst h1;rw [dV] at h;omega
 exact h1
theorem Ka {a b:Int} (h:¬(a=0∧b=0)):∃ x y g:Int,EG a b=(x,y)∧g≠0∧x*g=a∧y*g=b∧Int.gcd x y=1∧(0<y∨(y=0∧0<x)):=by
 have hg0:0<Int.gcd a b:=by
  rcases fZ (Int.gcd a b) with h0 | h0
  · exact absurd (Int.gcd_eq_zero_iff.mp h0) h
  exact h0
 have hgn:uT a b≠0:=by unfold uT;split <;> omega
 have habs:(uT a b).natAbs=Int.gcd a b:=by unfold uT;split <;> omega
 have d1:uT a b ∣ a:=Int.natAbs_dvd.mp (by rw [habs];exact sB a b)
 have d2:uT a b ∣ b:=Int.natAbs_dvd.mp (by rw [habs];exact rO a b)
 have e1:=kD d1
 have e2:=kD d2
 refine ⟨a.tdiv (uT a b),b.tdiv (uT a b),uT a b,by unfold EG;rw [aD h],hgn,e1,e2,?_,?_⟩
 · show Nat.gcd (a.tdiv (uT a b)).natAbs (b.tdiv (uT a b)).natAbs=1
   rw [show (a.tdiv (uT a b)).natAbs=a.natAbs / (uT a b).natAbs from mK _ _,show (b.tdiv (uT a b)).natAbs=b.natAbs / (uT a b).natAbs from mK _ _,habs]
   exact Nat.coprime_div_gcd_div_gcd hg0
 generalize hx:a.tdiv (uT a b)=x at *
 generalize hy:b.tdiv (uT a b)=y at *
 rcases rN b 0 with hb | hb | hb
 · left
   refine Ij (g:=uT a b) sE ?_
   unfold uT;rw [aF (.inl hb)];omega
 · right
   have hy0:y=0:=by
    rcases Int.mul_eq_zero.mp (show y*uT a b=0 by omega) with h1 | h1
    · exact h1
    exact absurd h1 hgn
   refine ⟨hy0,?_⟩
   rcases (show a<0∨0≤a by omega) with ha | ha
   · refine Ij (g:=uT a b) sE ?_
     unfold uT;rw [aF (.inr ⟨hb,ha⟩)];omega
   refine Fv (g:=uT a b) sE ?_
   unfold uT;rw [aD (by omega)];omega
 left
 refine Fv (g:=uT a b) sE ?_
 unfold uT;rw [aD (by omega)];omega
theorem HL {x y u v:Int} (h1:Int.gcd x y=1) (h2:Int.gcd u v=1) (s1:0<y∨(y=0∧0<x)) (s2:0<v∨(v=0∧0<u)) (h:x*v=u*y):x=u∧y=v:=by
 have e:x.natAbs*v.natAbs=u.natAbs*y.natAbs:=by rw [←eX,←eX,h]
 have c1:Nat.Coprime x.natAbs y.natAbs:=h1
 have c2:Nat.Coprime u.natAbs v.natAbs:=h2
 have p1:x.natAbs ∣ u.natAbs:=c1.dvd_of_dvd_mul_right (e▸Nat.dvd_mul_right _ _)
 have p2:u.natAbs ∣ x.natAbs:=c2.dvd_of_dvd_mul_right (e▸Nat.dvd_mul_right _ _)
 have p3:y.natAbs ∣ v.natAbs:=c1.symm.dvd_of_dvd_mul_left (e▸Nat.dvd_mul_left _ _)
 have p4:v.natAbs ∣ y.natAbs:=c2.symm.dvd_of_dvd_mul_left (e▸Nat.dvd_mul_left _ _)
 have q1:=Nat.dvd_antisymm p1 p2
 have q2:=Nat.dvd_antisymm p3 p4
 have hyv:y=v:=sE
 refine ⟨?_,hyv⟩
 subst hyv
 rcases s1 with s | s
 · exact oT sE h
 omega
theorem MF (a b c d:Int):same a b c d↔SE a b c d:=by
 unfold same SE
 by_cases hp:a=0∧b=0
 · by_cases hq:c=0∧d=0
   · rw [aF (.inl hp)]
     obtain ⟨rfl,rfl⟩:=hp
     obtain ⟨rfl,rfl⟩:=hq
     exact ⟨fun _=>⟨⟨rfl,rfl⟩,rfl,rfl⟩,fun _=>rfl⟩
   rw [aF (.inl hp)]
   refine ⟨fun h=>?_,fun h=>absurd h.2 hq⟩
   obtain ⟨u,v,k,e2,hk,_,_,_,s2⟩:=Ka hq
   have e1:EG a b=(0,0):=by unfold EG;rw [aF hp,hp.1,hp.2]
   rw [e1,e2] at h
   injection h with h3 h4
   omega
 obtain ⟨x,y,g,e1,hg,f1,f2,c1,s1⟩:=Ka hp
 by_cases hq:c=0∧d=0
 · rw [aF (.inr hq)]
   refine ⟨fun h=>?_,fun h=>absurd h.1 hp⟩
   have e2:EG c d=(0,0):=by unfold EG;rw [aF hq,hq.1,hq.2]
   rw [e1,e2] at h
   injection h with h3 h4
   omega
 obtain ⟨u,v,k,e2,hk,f3,f4,c2,s2⟩:=Ka hq
 rw [aD (fun h=>h.elim hp hq),e1,e2]
 have key:a*d - c*b=(x*v - u*y)*(g*k):=by
  rw [←f1,←f2,←f3,←f4,kN]
  congr 1 <;> ac_rfl
 constructor
 · intro h
   injection h with h3 h4
   rw [key,h3,h4,rM,dV]
 intro h
 rw [key] at h
 have hgk:g*k≠0:=fun h0=>(Int.mul_eq_zero.mp h0).elim hg hk
 have h5:x*v - u*y=0:=(Int.mul_eq_zero.mp h).resolve_right hgk
 obtain ⟨r1,r2⟩:=HL c1 c2 s1 s2 sE
 rw [r1,r2]
section
attribute [local irreducible] sI pb tY tF p2
theorem ZH (G:Imm) (x:IV) (z n:Int) (hx:Big G x z) (h1:x.n≤536870912) (hn:-9223372036854775808≤n∧n≤9223372036854775807) :
 Does Tryz.prog 207 [.agg (Cells.enc x).toArray,.int .i64 n] G [] (fun v G' Ho=>∃ r:IV,v=.agg (Cells.enc r).toArray∧Big G' r (z*n)∧Ho=[]):=by
 have hn3:(n.natAbs:Int)<pb 3:=by
  have e:pb 3=79228162514264337593543950336:=by unfold pb;decide
  omega
 obtain ⟨n1,a,k1,ca⟩:=x
 refine D0 Tryz.func207 Tryz.ntmps207 fun w=>?_
 refine aJ 2 [] ?_
 refine dQ 0 fun b1=>?_
 refine aN 1 rfl T.zero125 fun b2=>?_
 refine aZ 3 [] ?_
 refine cX [0,1] [(1,4)] T.mixed [[0,0],[1]] ?_
 refine bV 2 ?_
 refine bX 2 rfl (HE _ _ sE) fun v1 G1 Ho1 hle1 hp=>?_
 obtain ⟨ro,rfl,hro,rfl⟩:=hp
 replace hx:=hx.up hle1
 refine cG 3 ?_
 refine bX 2 rfl (WL _ _ _ _ _ hx hro h1 (aV (gJ hro hn3) sN)) fun v2 G2 Ho2 hle2 hp=>?_
 obtain ⟨rm,rfl,hrm,rfl⟩:=hp
 replace hro:=hro.up hle2
 replace hx:=hx.up hle2
 refine cG 4 ?_
 refine aB 1 [1] ?_
 refine eZ ?_
 refine dX 2 [] ?_
 refine cK (.inr rfl) (Ho:=Hp.only _ []) rfl (.agg 1 rfl rfl T.agg125) (aT _ _) ?_
 exact ⟨rm,rfl,hrm,rfl⟩
end
section
attribute [local irreducible] sI pb tY tF p2
def wH (a b:Int) (n:Nat):List Int:=(List.range n).map fun j=>a ^ j*b ^ (n - 1 - j)
theorem ZI (G:Imm) (a b:Int) (n:Nat) (hp:near a b) (hn:n≤15) :
 Does Tryz.prog 157 [.agg #[.int .i64 a,.int .i64 b],.int .i64 n] G [] (fun v G' Ho=>∃ (s:Option Addr) (r:List IV) (c':Nat),v=.tuple #[.slice s r.length c',.int .i64 0]∧Arr G' s r∧Bigs G' r (wH a b n)∧r.length≤c'∧Ho=[]):=by
 refine D0 Tryz.func157 Tryz.ntmps157 fun w=>?_
 have hpn:¬((¬near a b∨(n:Int)<0)∨16<(n:Int)):=Nd
 refine aJ 2 [] ?_
 refine dQ 0 fun b1=>?_
 refine aL 8 [0] ?_
 refine cI rfl Lj ?_
 refine aO (fF rfl) ?_
 refine aB 1 [] ?_
 apply dP 3 14 17 rfl
 intro hg1
 refine aB 5 [] ?_
 exact dA 3 0
 intro hg1
 refine aB 3 [] ?_
 exact dA 3 0
 refine aB 1 [] ?_
 apply dP 3 18 21 rfl
 intro hg1
 refine aB 5 [] ?_
 exact dA 3 0
 intro hg1
 refine aB 3 [] ?_
 exact dA 3 0
 refine aL 8 [0] ?_
 refine fV (α:=IV) 1 rfl T.sl68 T.el125 rfl rfl sE sE fun b2=>?_
 refine aL 5 [] ?_
 refine bX 2 rfl (HE _ 1 sN) fun v1 G1 Ho1 hle1 hp=>?_
 obtain ⟨ro1,rfl,hro1,rfl⟩:=hp
 refine bX 2 rfl (HE _ 1 sN) fun v2 G2 Ho2 hle2 hp=>?_
 obtain ⟨ro2,rfl,hro2,rfl⟩:=hp
 replace hro1:=hro1.up hle2
 refine aN 2 rfl T.zero125 fun b3=>?_
 refine aN 3 rfl T.zero125 fun b4=>?_
 refine aZ 13 [2,3] ?_
 refine iI 6 rfl (show _=Value.slice (some ⟨b2,0,none⟩) (List.replicate n (default:IV)).length n by simp) ?_
 have e2:(List.replicate n (default:IV)).length=n:=aI ..
 refine iZ (ι:=Nat×Imm×List IV×IV×(Option Addr×Nat×List Value)) (fun (k,Gx,r,x,(o,d,j))=>([(28,.int .i64 (k:Int)),(6,.slice o r.length d),(27,.int .i64 (↑(List.length (List.replicate (Int.toNat (↑n:Int)) default)):Int)),(8,.pointer (some (Addr.mk b4 0 none))),(7,.pointer (some (Addr.mk b3 0 none))),(5,.int .i64 0),(4,.slice none 0 0),(2,.pointer (some ⟨b1,0,none⟩)),(1,.int .i64 (↑n:Int))],[(1,o.map (·.block),Row 125 r j),(2,some b3,.cells (Cells.enc x).toArray 125),(3,some b4,.cells (List.toArray (Cells.enc ro2)) 125),(0,some b1,.cells #[.int .i64 a,.int .i64 b] 52)])) (fun (k,Gx,r,x,(o,d,j))=>Gx) (fun (k,Gx,r,x,(o,d,j))=>k≤n∧G2.le Gx∧r.length=n∧Bigs Gx r ((List.range n).map fun i=>if i<k then a ^ i else 0)∧Big Gx x (a ^ k)∧OwnA o d r j) (fun (k,Gx,r,x,(o,d,j))=>n - k) ((0,G2,List.replicate n default,ro1,(some ⟨b2,0,none⟩,n,[]))) (⟨aM _,bK _,aI ..,by have e:(List.range n).map (fun i=>if i<0 then a ^ i else 0)=List.replicate n (0:Int):=by { apply fB <;> simp };rw [e];exact oX _ _,by rw [iN];exact hro1,.inr ⟨b2,rfl,by rw [aI];rfl,by omega,by simp only [maxLen];omega⟩⟩) rfl ⟨rfl,rfl,rfl,rfl,rfl,rfl,rfl,rfl,rfl,trivial⟩ ⟨rfl,rfl,rfl,rfl,trivial⟩ fun ⟨k,Gx,r,x,(o,d,j)⟩=>fun hk=>?_
 obtain ⟨hk1,hk2,hk3,hk4,hk5,hob⟩:=hk
 have e1:(List.replicate ((n:Int)).toNat (default:IV)).length=n:=DM
 have e0:(List.replicate n (default:IV)).length=n:=aI ..
 have hx3:k≤15→((a ^ k).natAbs:Int)<pb 3:=fun h=>by
  have e:pb 3=79228162514264337593543950336:=by unfold pb;decide
  have e2:(a ^ k).natAbs≤16 ^ 15:=by
   rw [oR]
   exact aV (oC (show a.natAbs≤16 by unfold near at hp;omega) k) (gU sE h)
  have e3:(16:Nat) ^ 15=1152921504606846976:=sN
  omega
 have hxn:x.n≤536870912:=aV (gJ hk5 (hx3 sE)) sN
 refine bJ 6 [] ?_
 refine cT (fun hc1=>?_) fun hc1=>?_
 refine aJ 15 [2] ?_
 refine gX (α:=IV) T.sl68 ?_
 rotate_left
 refine bJ 14 [] ?_
 rotate_left
 · refine cU (z:=x) 1 T.size125 rfl rfl rfl sF sE rfl fun h9=>?_
   refine aL 6 [2,0] ?_
   refine bX 4 rfl (ZH _ _ _ a hk5 hxn Wz) fun v3 G3 Ho3 hle3 hp=>?_
   obtain ⟨rt,rfl,hrt,rfl⟩:=hp
   replace hk4:=hk4.up hle3
   replace hk5:=hk5.up hle3
   refine aR 8 [2] ?_
   have hle3':Gx.le G3:=hle3
   refine cN 28 rfl (show _=Value.int .i64 ((k+1:Nat):Int) from rfl) ?_
   refine cN 6 rfl (show _=Value.slice o (r.set (k:Int).toNat x).length d by rw [aG]) ?_
   refine cL ((k+1,G3,r.set (k:Int).toNat x,rt,(o,d,j))) ?_ ?_
   · refine ⟨by omega,aQ hk2 hle3',by rw [aG];exact hk3,?_,by rw [fJ];exact hrt,h9⟩
     have h8:=hk4.set k hk5
     rw [aE]
     have e:((List.range n).map fun i=>if i<k then a ^ i else 0).set k (a ^ k)=(List.range n).map fun i=>if i<k+1 then a ^ i else 0:=by
      apply fB
      · simp
      intro i h1 h2
      rw [List.getElem_set]
      simp only [fA,iV]
      by_cases h:k=i
      · subst h;simp
      rw [aD h]
      by_cases h7:i<k
      · rw [aF h7,aF (by omega)]
      rw [aD h7,aD (by omega)]
     rw [e] at h8;exact h8
   show n - (k+1)<n - k
   omega
 have hkn:k=n:=sE
 subst hkn
 have hl1:(List.range k).map (fun i=>if i<k then a ^ i else (0:Int))=(List.range k).map fun m=>if ((m:Nat):Int)≤(k:Int) - 1 then a ^ m else a ^ m*b ^ (k - 1 - m):=by
  apply fT
  intro m hm
  rw [iM] at hm
  rw [aF hm,aF (by omega)]
 rw [hl1] at hk4
 refine Wc.lg (ι:=Int×Imm×List IV×IV) (fun (i,Gy,q,y)=>([(10,.int .i64 i),(6,.slice o q.length d),(8,.pointer (some (Addr.mk b4 0 none))),(5,.int .i64 0),(4,.slice none 0 0),(2,.pointer (some ⟨b1,0,none⟩))],[(1,o.map (·.block),Row 125 q j),(3,some b4,.cells (Cells.enc y).toArray 125),(2,some b3,.cells (List.toArray (Cells.enc x)) 125),(0,some b1,.cells #[.int .i64 a,.int .i64 b] 52)])) (fun (i,Gy,q,y)=>Gy) (fun (i,Gy,q,y)=>-1≤i∧i<k∧Gx.le Gy∧q.length=k∧Bigs Gy q ((List.range k).map fun m=>if ((m:Nat):Int)≤i then a ^ m else a ^ m*b ^ (k - 1 - m))∧Big Gy y (b ^ ((k:Int) - 1 - i).toNat)∧OwnA o d q j) (fun (i,Gy,q,y)=>(i+1).toNat) (((k:Int) - 1,Gx,r,ro2)) (⟨by omega,by omega,bK _,hk3,hk4,by rw [show ((k:Int) - 1 - ((k:Int) - 1)).toNat=0 by omega,iN];exact hro2.up hk2,hob⟩) fun ⟨i,Gy,q,y⟩=>fun hk=>?_
 obtain ⟨hi1,hi2,hi3,hi4,hi5,hi6,hi7⟩:=hk
 rcases pZ i 0 with hi0 | hi0
 · have hi9:i=-1:=sE
   subst hi9
   have hl2:(List.range k).map (fun m=>if ((m:Nat):Int)≤-1 then a ^ m else a ^ m*b ^ (k - 1 - m))=wH a b k:=by
    unfold wH
    apply fT
    intro m hm
    rw [aD (by omega)]
   rw [hl2] at hi5
   refine bE 21 [0] ?_
   refine cQ 1 rfl hi7 fun G8 hle8 hA8=>?_
   refine gR ?_
   exact ⟨_,_,_,rfl,hA8,hi5.up hle8,hi7.le,rfl⟩
 obtain ⟨m,rfl⟩:∃ m:Nat,i=(m:Int):=⟨i.toNat,by omega⟩
 have hmk:m<k:=sE
 have hbe:Big Gy (q[(m:Int).toNat]?.getD default) (a ^ m):=by
  have h9:=hi5.2 m sE
  rw [bN,eR hmk] at h9
  rw [aE]
  simpa using h9
 have hsm:∀ (c:Int) (e:Nat),-16≤c∧c≤16→e≤15→((c ^ e).natAbs:Int)<pb 3:=fun c e hc he=>by
  have e0:pb 3=79228162514264337593543950336:=by unfold pb;decide
  have e2:(c ^ e).natAbs≤16 ^ 15:=by
   rw [oR]
   exact aV (oC (show c.natAbs≤16 by omega) e) (gU sE he)
  have e3:(16:Nat) ^ 15=1152921504606846976:=sN
  omega
 have hlq:=gJ hbe (hsm a m Wz sE)
 have hly:=gJ hi6 (hsm b _ Wz sE)
 have hyn:y.n≤536870912:=aV hly sN
 refine bJ 13 [1] ?_
 refine cX [0,2,3,1] [(1,9),(3,9),(2,9),(0,9)] T.mixed [[0],[1],[2],[3]] ?_
 refine fH (α:=IV) 4 T.sl68 ?_
 refine dN 5 [1] rfl (pK 1 T.agg125 rfl rfl sF sE) ?_
 refine dE [[6,3]] ?_
 refine bV 7 ?_
 refine bX 4 rfl (WL _ _ _ _ _ hbe hi6 (aV hlq sN) (aV hly sN)) fun v3 G3 Ho3 hle3 hp=>?_
 obtain ⟨rm3,rfl,hrm3,rfl⟩:=hp
 replace hi5:=hi5.up hle3
 replace hi6:=hi6.up hle3
 replace hbe:=hbe.up hle3
 refine bD ?_
 refine fH (α:=IV) 8 T.sl68 ?_
 refine bV 9 ?_
 refine cU (z:=rm3) 1 T.size125 rfl rfl rfl sF sE rfl fun h9=>?_
 refine eZ ?_
 refine nE 5 [3,0] ?_
 refine bX 4 rfl (ZH _ _ _ b sF hyn Wz) fun v4 G4 Ho4 hle4 hp=>?_
 obtain ⟨rt4,rfl,hrt4,rfl⟩:=hp
 replace hrm3:=hrm3.up hle4
 replace hi5:=hi5.up hle4
 replace hi6:=hi6.up hle4
 replace hbe:=hbe.up hle4
 refine aR 9 [3] ?_
 refine cN 6 rfl (show _=Value.slice o (q.set (m:Int).toNat rm3).length d by rw [aG]) ?_
 refine cL (((m:Int) - 1,_,q.set (m:Int).toNat rm3,rt4)) ?_ ?_
 · refine ⟨by omega,by omega,aQ hi3 (aQ sF sF),by rw [aG];exact hi4,?_,?_,h9⟩
   · have h8:=hi5.set m hrm3
     rw [aE]
     have e:((List.range k).map fun q=>if ((q:Nat):Int)≤(m:Int) then a ^ q else a ^ q*b ^ (k - 1 - q)).set m (a ^ m*b ^ ((k:Int) - 1 - (m:Int)).toNat)=(List.range k).map fun q=>if ((q:Nat):Int)≤(m:Int) - 1 then a ^ q else a ^ q*b ^ (k - 1 - q):=by
      apply fB
      · simp
      intro i h1 h2
      rw [List.getElem_set]
      simp only [fA,iV]
      by_cases h:m=i
      · subst h
        rw [aF rfl,aD (by omega)]
        congr 2
        omega
      rw [aD h]
      by_cases h7:(i:Int)≤(m:Int)
      · rw [aF h7,aF (by omega)]
      rw [aD h7,aD (by omega)]
     rw [e] at h8;exact h8
   have e:((k:Int) - 1 - ((m:Int) - 1)).toNat=((k:Int) - 1 - (m:Int)).toNat+1:=sE
   rw [e,fJ];exact hrt4
 show ((m:Int) - 1+1).toNat<((m:Int)+1).toNat
 omega
end
section
attribute [local irreducible] sI pb tY tF p2 tL wH
def BRow (G:Imm) (s:SV) (zs:List Int):Prop:=∃ l:List IV,l.length=s.n∧s.n≤s.c∧Arr G s.a l∧Bigs G l zs
theorem BRow.up {G G':Imm} {s:SV} {zs:List Int} (h:BRow G s zs) (hl:G.le G'):BRow G' s zs:=by
 obtain ⟨l,h1,h2,h3,h4⟩:=h
 exact ⟨l,h1,h2,h3.up hl,h4.up hl⟩
def BGrid (G:Imm) (l:List SV) (rs:List (List Int)):Prop:=l.length=rs.length∧∀ i:Nat,i<l.length→BRow G (l[i]?.getD default) (rs[i]?.getD [])
theorem BGrid.up {G G':Imm} {l:List SV} {rs:List (List Int)} (h:BGrid G l rs) (hl:G.le G'):BGrid G' l rs:=⟨h.1,fun i hi=>(h.2 i hi).up hl⟩
theorem BGrid.nil (G:Imm):BGrid G [] []:=⟨rfl,fun i hi=>by simp at hi⟩
theorem BGrid.snoc {G:Imm} {l:List SV} {rs:List (List Int)} (h:BGrid G l rs) {s:SV} {zs:List Int} (hs:BRow G s zs):BGrid G (l++[s]) (rs++[zs]):=by
 refine ⟨by rw [aC,aC,h.1];rfl,fun i hi=>?_⟩
 rw [aC,iU] at hi
 rcases aK i l.length with h1 | h1
 · rw [bB h1,bB (by rw [←h.1];exact h1)];exact h.2 i h1
 have:i=l.length:=sE
 subst this
 rw [bT (aH _),bT (by rw [h.1];exact aH _),hJ,h.1,hJ]
 exact hs
theorem VF (G:Imm) (a:Option Addr) (c:Nat) (l:List R2) (ha:Arr G a l) (h1:l.length≤1048576) (hc:l.length≤c) (hR:tL l):Does Tryz.prog 144 [.slice a l.length c] G [] (fun v G' Ho=>v=.bool true∧G'=G∧Ho=[]):=
 (ek G a c l ha h1 hc).mono fun v G' Ho _ ⟨b,e1,e2,e3,e4⟩=>⟨by rw [e1,e2.2 hR],e3,e4⟩
def vJ (l:List R2):List (List Int):=l.map fun p=>wH p.a p.b l.length
theorem MG (G:Imm) (a:Option Addr) (c:Nat) (l:List R2) (ha:Arr G a l) (h1:l.length≤1048576) (hc:l.length≤c) (hR:tL l) (hr1:l.length≤15) (hr2:∀ i,i<l.length→Od (l[i]?.getD default)) :
 Does Tryz.prog 158 [.slice a l.length c] G [] (fun v G' Ho=>∃ (s:Option Addr) (r:List SV) (c':Nat),v=.tuple #[.slice s r.length c',.int .i64 0]∧Arr G' s r∧BGrid G' r (vJ l)∧r.length≤c'∧Ho=[]):=by
 refine D0 Tryz.func158 Tryz.ntmps158 fun w=>?_
 refine dZ 9 (Row 68 ([]:List SV) []) ?_
 refine aJ 10 [] ?_
 refine cI rfl (VF _ _ _ l sF sE hc hR) ?_
 refine aZ 20 [0] ?_
 refine iZ (ι:=Nat×Imm×List SV×(Option Addr×Nat×List Value)) (fun (i,Gx,r,(o,d,j))=>([(14,.int .i64 (i:Int)),(4,.slice o r.length d),(13,.int .i64 (l.length:Int)),(12,.slice a (List.length l) c),(3,.int .i64 0),(2,.slice none 0 0),(0,.slice a (List.length l) c)],[(9,o.map (·.block),Row 68 r j)])) (fun (i,Gx,r,(o,d,j))=>Gx) (fun (i,Gx,r,(o,d,j))=>i≤l.length∧G.le Gx∧r.length=i∧BGrid Gx r ((vJ l).take i)∧OwnA o d r j) (fun (i,Gx,r,(o,d,j))=>l.length - i) ((0,G,[],(none,0,[]))) (⟨aM _,bK _,rfl,by rw [cM];exact BGrid.nil _,eD⟩) rfl ⟨rfl,rfl,rfl,rfl,rfl,rfl,rfl,trivial⟩ ⟨rfl,trivial⟩ fun ⟨i,Gx,r,(o,d,j)⟩=>fun hk=>?_
 obtain ⟨hi1,hi2,hi3,hi4,hi5⟩:=hk
 replace ha:=ha.up hi2
 rcases aK i l.length with hil | hil
 · have hnear:near (l[(i:Int).toNat]?.getD default).a (l[(i:Int).toNat]?.getD default).b:=(hr2 i hil).1
   refine aJ 13 [1] ?_
   refine fP (α:=R2) T.sl22 ?_
   refine lB T.agg52 ?_
   refine aN 10 rfl T.zero52 fun b1=>?_
   refine aL 8 [10,10] ?_
   refine bX 11 rfl (ZI _ _ _ l.length hnear sE) fun v1 G1 Ho1 hle1 hp=>?_
   obtain ⟨ps1,pr1,pc1,rfl,hpA1,hpB1,hpL1,rfl⟩:=hp
   replace ha:=ha.up hle1
   refine aL 10 [] ?_
   refine dY (α:=SV) 11 [⟨_,_,_⟩] rfl T.sl237 T.el68 rfl rfl rfl rfl rfl fun b2=>?_
   refine jS (α:=SV) 9 T.sl237 T.el68 (fE 11 rfl) fun a1 c1 junk1 ho1=>?_
   refine aR 8 [] ?_
   refine cN 14 rfl (show _=Value.int .i64 ((i+1:Nat):Int) from rfl) ?_
   refine cL ((i+1,_,r++[⟨ps1,pr1.length,pc1⟩],(a1,c1,junk1))) ?_ ?_
   · refine ⟨by omega,aQ hi2 sF,by rw [aC,hi3];rfl,?_,ho1⟩
     have e:(vJ l).take (i+1)=(vJ l).take i++[wH (l[(i:Int).toNat]?.getD default).a (l[(i:Int).toNat]?.getD default).b l.length]:=by
      rw [cB]
      congr 1
      unfold vJ
      rw [bN,aE,aA hil];rfl
     rw [e]
     exact (hi4.up sF).snoc ⟨pr1,rfl,hpL1,hpA1,hpB1⟩
   show l.length - (i+1)<l.length - i
   omega
 have hie:i=l.length:=sE
 subst hie
 have e:(vJ l).take l.length=vJ l:=dL (by unfold vJ;rw [aP];exact aH _)
 rw [e] at hi4
 refine bE 20 [0] ?_
 refine cQ 9 rfl hi5 fun G8 hle8 hA8=>?_
 refine gR ?_
 exact ⟨_,_,_,rfl,hA8,hi4.up hle8,hi5.le,rfl⟩
end
section
attribute [local irreducible] sI Me pb pw tY tF p2 tL wH
def small (z:Int):Prop:=z.natAbs<18446744073709551616
end
section
attribute [local irreducible] sI Me pb pw tY tF p2 tL wH
end
theorem Oe {p:PV} {gs os:List (List Int)} (h:sQ p gs=some os):os.length=p.outs.length:=by
 unfold sQ at h
 obtain ⟨rs,h1,h2⟩:=iL.1 h
 subst h2
 unfold wG;rw [aP]
theorem Gh (l:List R2):(vJ l).length=l.length:=by unfold vJ;rw [aP]
theorem Se {a b:Int} {n:Nat} (h:near a b) (hn:n≤15):(wH a b n).length=n∧Go.Sl.Below 4 (wH a b n):=by
 refine ⟨by unfold wH;rw [aP,bS],fun z hz=>?_⟩
 unfold wH at hz
 obtain ⟨k,hk,rfl⟩:=dJ.1 hz
 have hk:=iM.1 hk
 have e4:pw 4=18446744073709551616:=by unfold pw;decide
 have e:(a ^ k*b ^ (n - 1 - k)).natAbs≤16 ^ 15:=by
  rw [eX,oR,oR]
  refine aV (fQ (oC (show a.natAbs≤16 by unfold near at h;omega) k) (oC (show b.natAbs≤16 by unfold near at h;omega) _)) ?_
  rw [←mP]
  exact gU sE sE
 have e3:(16:Nat) ^ 15=1152921504606846976:=sN
 omega
theorem CQ {l:List R2} (h1:l.length≤15) (hr:∀ i,i<l.length→near (l[i]?.getD default).a (l[i]?.getD default).b):WO 4 l.length (vJ l):=fun zs hz=>by
 unfold vJ at hz
 obtain ⟨p,hp,rfl⟩:=dJ.1 hz
 obtain ⟨i,hi,rfl⟩:=fL.1 hp
 have:=hr i hi
 rw [aA hi] at this
 have this:near l[i].a l[i].b:=this
 exact Se this h1
def tW (n j:Nat):List Int:=(List.replicate n 0).set j 1
theorem Of (n j m:Nat) (hm:1≤m):Go.Sl.Below m (tW n j):=by
 have h1:pw 1=65536:=by unfold pw;decide
 refine Go.Sl.Below.mono (m:=1) (fun z hz=>?_) hm
 unfold tW at hz
 rcases eN hz with h | h
 · rw [iX h,h1];decide
 rw [h,h1];decide
def tQ (p:PV) (l:List R2):Prop:=sH p=true∧p.ins=l.length∧p.outs.length=l.length∧sQ p (vJ l)=some ((List.range l.length).map (tW l.length))
instance (p:PV) (l:List R2):Decidable (tQ p l):=inferInstanceAs (Decidable (_∧_))
section
attribute [local irreducible] sI Me pb pw tY tF p2 wH vJ sQ sH
end
theorem ZJ (G:Imm) (k:Int):Does Tryz.prog 103 [.int .i64 k] G [] (fun v G' Ho=>v=.bool (decide (1≤k∧k≤8))∧G'=G∧Ho=[]):=by
 refine D0 Tryz.func103 Tryz.ntmps103 fun w=>?_
 refine dF ?_
 refine dH rfl ?_
 refine aB 1 [] ?_
 refine eM ?_
 refine cO ?_
 refine dF ?_
 refine dH rfl ?_
 refine aB 3 [] ?_
 apply bW 3 5 8 rfl
 intro hg1
 refine aB 5 [] ?_
 exact dA 3 0
 intro hg1
 refine aB 3 [] ?_
 exact dA 3 0
 refine aB 1 [] ?_
 refine eM ?_
 refine cO ?_
 refine mT ?_
 refine cP ?_
 exact ⟨rfl,rfl,rfl⟩
theorem el (G:Imm) (a:Option Addr) (c:Nat) (l:List R2) (ha:Arr G a l) (h1:l.length≤1048576):Does Tryz.prog 153 [.slice a l.length c,.func (.func 105) #[] #[]] G [] (fun v G' Ho=>∃ z:Int,v=.int .i64 z∧(0≤z↔∃ i,i<l.length∧((l[i]?.getD default).a=0∧(l[i]?.getD default).b=0))∧G'=G∧Ho=[]):=by
 refine D0 Tryz.func153 Tryz.ntmps153 fun w=>?_
 refine dF ?_
 refine dH rfl ?_
 refine aB 1 [] ?_
 refine eM ?_
 refine cO ?_
 refine dF ?_
 refine dF ?_
 refine dH rfl ?_
 refine aB 3 [] ?_
 refine eM ?_
 refine cO ?_
 refine Wc.block ?_
 refine gY (ι:=Nat) (fun j=>([(8,.int .i64 (j:Int)),(0,.slice a l.length c),(1,.func (.func 105) #[] #[]),(7,.int .i64 (l.length:Int))],[])) (fun j=>j≤l.length∧∀ i,i<j→¬((l[i]?.getD default).a=0∧(l[i]?.getD default).b=0)) (fun j=>l.length - j) (0) (⟨aM _,fun j' h=>absurd h sE⟩) fun j=>fun hk=>?_
 obtain ⟨hj,hno⟩:=hk
 refine dF ?_
 refine dH rfl ?_
 refine aB 1 [] ?_
 refine eM ?_
 refine cO ?_
 refine dF ?_
 refine cT (fun hc1=>?_) fun hc1=>?_
 refine kC ?_
 refine cO ?_
 refine dF ?_
 refine Wc.block ?_
 refine dF ?_
 refine dH rfl ?_
 refine aB 2 [] ?_
 refine eM ?_
 refine cO ?_
 refine dF ?_
 refine dH rfl ?_
 refine aB 3 [] ?_
 refine fP (α:=R2) T.sl22 ?_
 refine lB T.agg52 ?_
 rotate_left
 refine Wc.exit ?_
 refine qY ?_
 refine qY ?_
 refine DP ?_
 refine cO ?_
 refine dF ?_
 refine dH rfl ?_
 refine aB 1 [] ?_
 refine eM ?_
 refine cO ?_
 refine mT ?_
 refine cP ?_
 rotate_left
 · refine eC (fst:=[]) (cap:=[]) 2 rfl T.fn105 rfl rfl (ZE _ (l[(j:Int).toNat]?.getD default).a (l[(j:Int).toNat]?.getD default).b) (sJ trivial) fun v1 G1 Ho1 hle1 hp=>?_
   obtain ⟨rfl,rfl,rfl⟩:=hp
   refine eM ?_
   refine cO ?_
   refine cT (fun hc2=>?_) fun hc2=>?_
   refine dF ?_
   refine dH rfl ?_
   refine aB 2 [] ?_
   refine eM ?_
   refine cO ?_
   refine mT ?_
   refine Jn ?_
   refine qC ?_
   refine qC ?_
   refine Jn ?_
   refine qC ?_
   refine cP ?_
   rotate_left
   refine kC ?_
   refine rS ?_
   refine cO ?_
   refine dH rfl ?_
   refine aB 2 [] ?_
   refine eM ?_
   rotate_left
   · exact ⟨(j:Int),rfl,⟨fun _=>⟨j,by omega,hc2⟩,fun _=>by omega⟩,rfl,rfl⟩
   refine cN 8 rfl (show _=Value.int .i64 ((j+1:Nat):Int) from rfl) ?_
   refine cL (j+1) ?_ ?_
   · refine ⟨by omega,fun i' h2=>?_⟩
     rcases aK i' j with h | h
     · exact hno i' h
     have e:i'=j:=sE
     subst e;exact hc2
   omega
 exact ⟨-1,rfl,⟨fun h=>absurd h sE,fun ⟨i,hi,h⟩=>absurd h (hno i sE)⟩,rfl,rfl⟩
theorem en (G:Imm) (a:Option Addr) (c:Nat) (l:List R2) (ha:Arr G a l) (h1:l.length≤1048576):Does Tryz.prog 104 [.slice a l.length c,.func (.func 105) #[] #[]] G [] (fun v G' Ho=>∃ b:Bool,v=.bool b∧(b=true↔∃ i,i<l.length∧((l[i]?.getD default).a=0∧(l[i]?.getD default).b=0))∧G'=G∧Ho=[]):=by
 refine D0 Tryz.func104 Tryz.ntmps104 fun w=>?_
 refine dF ?_
 refine dH rfl ?_
 refine aB 1 [] ?_
 refine eM ?_
 refine cO ?_
 refine dF ?_
 refine dH rfl ?_
 refine aB 2 [] ?_
 refine bX 0 rfl (el _ _ _ _ sF sE) fun v1 G1 Ho1 hle1 hp=>?_
 obtain ⟨tz1,rfl,htz1,rfl,rfl⟩:=hp
 refine aB 2 [] ?_
 refine eM ?_
 refine cO ?_
 refine mT ?_
 refine cP ?_
 exact ⟨decide (0≤tz1),rfl,by rw [aS];exact htz1,rfl,rfl⟩
theorem c33 (G:Imm) (a:Option Addr) (c:Nat) (l:List R2) (ha:Arr G a l) (hl:l.length≤1048576) :
 Does Tryz.prog 33 [.slice a l.length c] G [] (fun v G' Ho=>∃ s d j,v=.slice s l.length d∧OwnA s d l j∧G'=G∧Ho=[(0,s.map (·.block),Row 52 l j)]):=by
 refine D0 Tryz.func33 Tryz.ntmps33 fun w=>?_
 by_cases hne:a=none
 · subst hne
   have hl0:l=[]:=by
    rcases ha.2 with h0 | ⟨_,_,h,_⟩
    · exact List.length_eq_zero_iff.mp h0
    cases h
   subst hl0
   refine dZ 0 (Row 52 ([]:List R2) []) ?_
   refine aJ 9 [] ?_
   refine aO (jI T.sl22 rfl rfl) ?_
   refine aZ 2 [] ?_
   refine cT (fun hc1=>?_) fun hc1=>?_
   refine bE 7 [] ?_
   rotate_left
   refine aJ 4 [] ?_
   refine rA 1 rfl T.sl22 fun b1=>?_
   refine aB 1 [] ?_
   rotate_left
   refine cK (.inr rfl) (Ho:=[(0,none,Row 52 ([]:List R2) [])]) rfl (.tmp rfl) ⟨rfl,trivial⟩ ?_
   · exact ⟨none,0,[],rfl,eD,rfl,rfl⟩
   exact absurd rfl hc1
 refine aJ 9 [] ?_
 refine aO (jI T.sl22 rfl rfl) ?_
 refine aL 7 [0] ?_
 refine rA 0 rfl T.sl22 fun b1=>?_
 refine aB 1 [] ?_
 refine nU 0 (Row 52 ([]:List R2) []) rfl rfl ?_
 refine gM (α:=R2) (xs:=[]) (ys:=l) (junk:=[]) 0 rfl T.sl22 T.el52 rfl rfl rfl (.inr ⟨b1,rfl,rfl,aH _,aM _⟩) (lC ha) (by rw [cH];omega) JK fun a1 c1 junk1 ho1=>?_
 rw [fW] at ho1 ⊢
 refine aR 4 [] ?_
 refine cK (.inr rfl) (Ho:=[(0,a1.map (·.block),Row 52 l junk1)]) rfl (.tmp rfl) ⟨rfl,trivial⟩ ?_
 exact ⟨a1,c1,junk1,rfl,ho1,rfl,rfl⟩
end Go.Proofs.YtfdcckcadfhpeaaGreatDoor
