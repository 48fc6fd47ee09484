/- wG of the proof (part 4): what the rows' text needs of the texts that lead to it. -/
import Derived.Test.YtngphgeghfdjbaaGreatDoorMDc
set_option linter.unusedVariables false
set_option linter.unusedSimpArgs false
set_option linter.unusedSectionVars false
set_option maxHeartbeats 4000000
set_option maxRecDepth 100000
namespace Go.Proofs.YtngphgeghfdjbaaGreatDoor
open Go Go.Sl
theorem D9.make {neg:Bool} {m:List A4} (hd:A6 m) (ht:E8 m):D9 (neg && decide (0<m.length)) m (if neg=true then -uM m else uM m):=by
 refine ⟨hd,ht,fun e=>by rw [e];simp,?_⟩;by_cases h:0<m.length
 · simp [h]
 have e:m=[]:=bS uJ;rw [e];simp [vF]
theorem B9.make {G:A3} {b:Option Addr} {c:Nat} {m:List A4} (neg:Bool) (hA:Arr G b m) (hd:A6 m) (ht:E8 m) (hc:m.length≤c) {z:Int} (hz:z=if neg=true then -uM m else uM m):B9 G ⟨neg && decide (0<m.length),b,m.length,c⟩ z:=
 ⟨m,U,hc,hA,hz▸D9.make hd ht⟩
abbrev nM:=@B9.make
theorem B9.len {G:A3} {x:IV} {z:Int} (h:B9 G x z) {m:Nat} (hz:(z.natAbs:Int)<pb m):x.n≤m:=by
 obtain ⟨l,h1,_,_,h4⟩:=h;rw [←h1];exact h4.len hz
abbrev jG:=@B9.len
theorem B9.out {G:A3} {x:IV} {z z':Int} (h:B9 G x z) (e:z=z'):B9 G x z':=e▸h
def Jd (z:Int):Int:=if z=0 then 0 else if z<0 then -1 else 1
section
attribute [local irreducible] uM pb vJ uZ
theorem Mr (G:A3) (neg:Bool) (a:Option Addr) (n c:Nat) (hn:n≤1099511627776) :
 Does Tryz.prog 96 [.bool neg,.slice a n c] G [] (fun v G' Ho=>v=.agg #[.bool (neg && decide (0<n)),.slice a n c]∧G'=G∧Ho=[]):=by
 refine D0 Tryz.func96 Tryz.ntmps96 fun w=>?_;have e:((0:Int)<(n:Int))=(0<n):=by rw [eq_iff_iff];omega
 cases neg
 · refine aL 2 [] ?_;refine bB 0 U T.zero89 fun b1=>?_;refine aN 11 [] ?_;refine aT (fY (cs:=[_,_]) T.st89 U U U) ?_;refine bA 4 [0] ?_;refine cP (.inr U) (Ho:=Hp.only _ []) U (.agg 0 U U T.agg89) (aV _ _) ?_;exact ⟨by simp only [Bool.false_and],U,U⟩
 refine aL 2 [] ?_;refine bB 0 U T.zero89 fun b1=>?_;refine aN 14 [] ?_;refine aT (fY (cs:=[_,_]) T.st89 U U U) ?_;refine bA 4 [0] ?_;refine cP (.inr U) (Ho:=Hp.only _ []) U (.agg 0 U U T.agg89) (aV _ _) ?_;exact ⟨by simp only [e,pI],U,U⟩
theorem qf (G:A3) (neg:Bool) (a:Option Addr) (c:Nat) (l:List A4) (ha:Arr G a l) (hd:A6 l) (hb:l.length≤1073741824) (hc:l.length≤c) :
 Does Tryz.prog 100 [.bool neg,.slice a l.length c] G [] (fun v G' Ho=>∃ r:IV,v=.agg (A2.enc r).toArray∧B9 G' r (if neg=true then -uM l else uM l)∧Ho=[]):=by
 refine D0 Tryz.func100 Tryz.ntmps100 fun w=>?_;refine aL 2 [] ?_;refine bB 0 U T.zero89 fun b1=>?_;refine aN 6 [] ?_;refine cQ 1 U (WI _ _ _ _ uK Sp Sp) fun v1 G1 Ho1 hle1 hp=>?_;obtain ⟨na1,nm1,rfl,hna1,hne1,hnt1,hnl1,rfl⟩:=hp;replace ha:=ha.up hle1;refine dC U (Mr _ _ _ _ _ uJ) ?_;refine bA 4 [0] ?_;refine cP (.inr U) (Ho:=Hp.only _ []) U (.agg 0 U U T.agg89) (aV _ _) ?_;refine ⟨⟨neg && decide (0<nm1.length),na1,nm1.length,nm1.length⟩,U,nM neg hna1 (xA hne1 hd) (Fc hne1 hnt1) (aG _) (by rw [xK hne1 hnt1]),U⟩
theorem fy (G:A3) (neg:Bool) (a:Option Addr) (c:Nat) (l:List A4) (z:Int) (h:D9 neg l z) (h1:l.length≤1073741824) :
 Does Tryz.prog 48 [.agg #[.bool neg,.slice a l.length c]] G [] (fun v G' Ho=>v=.int .i64 (Jd z)∧G'=G∧Ho=[]):=by
 have hz:=h.zero_iff;have hn:=h.neg_iff;refine D0 Tryz.func48 Tryz.ntmps48 fun w=>?_;by_cases h0:l.length=0
 · have hz0:=hz.1 h0;refine aL 2 [] ?_;refine fK 0 fun b1=>?_;refine bA 23 [0,1] ?_;refine cZ ?_;exact ⟨by rw [hz0];rfl,U,U⟩
 have hz0:z≠0:=fun e=>h0 (hz.2 e);by_cases hs:z<0
 · rw [hn,cX hs];refine aL 2 [] ?_;refine fK 0 fun b1=>?_;refine bA 31 [0,0,0,1] ?_;refine cZ ?_;exact ⟨by unfold Jd;rw [aE hz0,aM hs],U,U⟩
 rw [hn,cM hs];refine aL 2 [] ?_;refine fK 0 fun b1=>?_;refine bA 32 [0,0,0,0] ?_;refine cZ ?_;exact ⟨by unfold Jd;rw [aE hz0,aE hs],U,U⟩
theorem qg (G:A3) (x:IV) (z:Int) (hx:B9 G x z) (h1:x.n≤1073741824) :
 Does Tryz.prog 55 [.agg (A2.enc x).toArray] G [] (fun v G' Ho=>∃ r:IV,v=.agg (A2.enc r).toArray∧B9 G' r (-z)∧G'=G∧Ho=[]):=by
 obtain ⟨neg,a,n,c⟩:=x;obtain ⟨l,hl,hlc,hA,hI⟩:=hx;simp only at hl hlc hA hI h1;subst hl;show Does Tryz.prog 55 [.agg #[.bool neg,.slice a l.length c]] G [] _;refine D0 Tryz.func55 Tryz.ntmps55 fun w=>?_;refine aL 2 [] ?_;refine fK 0 fun b1=>?_;refine bB 1 U T.zero89 fun b2=>?_;refine aN 9 [0,0] ?_;refine dC U (Mr _ _ _ _ _ uJ) ?_;refine bA 4 [1] ?_;refine cP (.inr U) (Ho:=Hp.only _ []) U (.agg 1 U U T.agg89) (aV _ _) ?_;refine ⟨⟨!neg && decide (0<l.length),a,l.length,c⟩,U,nM (!neg) hA hI.digs hI.top hlc ?_,U,U⟩;rw [hI.val];cases neg <;> simp
theorem c58 (G:A3) (x:IV) (z:Int) (hx:B9 G x z) (h1:x.n≤1073741824) :
 Does Tryz.prog 58 [.agg (A2.enc x).toArray] G [] (fun v G' Ho=>∃ r:IV,v=.agg (A2.enc r).toArray∧B9 G' r (z.natAbs:Int)∧G'=G∧Ho=[]):=by
 obtain ⟨neg,a,n,c⟩:=x;obtain ⟨l,hl,hlc,hA,hI⟩:=hx;simp only at hl hlc hA hI h1;subst hl;show Does Tryz.prog 58 [.agg #[.bool neg,.slice a l.length c]] G [] _;refine D0 Tryz.func58 Tryz.ntmps58 fun w=>?_;refine aL 2 [] ?_;refine fK 0 fun b1=>?_;refine bB 1 U T.zero89 fun b2=>?_;refine aN 6 [0] ?_;refine dC U (Mr _ _ _ _ _ uJ) ?_;refine bA 4 [1] ?_;refine cP (.inr U) (Ho:=Hp.only _ []) U (.agg 1 U U T.agg89) (aV _ _) ?_;refine ⟨⟨false && decide (0<l.length),a,l.length,c⟩,U,nM false hA hI.digs hI.top hlc ?_,U,U⟩;rw [aE (by decide),hI.abs]
theorem AF (G:A3) (x:IV) (z:Int) (hx:B9 G x z) (h1:x.n≤1073741824) :
 Does Tryz.prog 48 [.agg (A2.enc x).toArray] G [] (fun v G' Ho=>v=.int .i64 (Jd z)∧G'=G∧Ho=[]):=by
 obtain ⟨n1,a,k1,ca⟩:=x;obtain ⟨la,hl,hlc,hA,hI⟩:=hx;simp only at hl hlc hA hI h1;subst hl;exact fy G n1 a ca la z hI h1
theorem c57 (G:A3) (x y:IV) (zx zy:Int) (hx:B9 G x zx) (hy:B9 G y zy) (h1:x.n≤1073741824) (h2:y.n≤1073741824) :
 Does Tryz.prog 57 [.agg (A2.enc x).toArray,.agg (A2.enc y).toArray] G [] (fun v G' Ho=>v=.int .i64 (vJ zx zy)∧G'=G∧Ho=[]):=by
 obtain ⟨n1,a,k1,ca⟩:=x;obtain ⟨n2,b,k2,cb⟩:=y;obtain ⟨la,hl,hlc,hA,hI⟩:=hx;obtain ⟨lb,hl',hlc',hA',hI'⟩:=hy;simp only at hl hlc hA hI hl' hlc' hA' hI' h1 h2;subst hl hl';have da:=hI.digs;have db:=hI'.digs;have ta:=hI.top;have tb:=hI'.top;have va:=hI.abs;have vb:=hI'.abs;have na:=hI.neg_iff;have nb:=hI'.neg_iff;have cs:∀ u v:Int,u<v→vJ u v=-1:=fun u v h=>Ci h;have cg:∀ u v:Int,v<u→vJ u v=1:=fun u v h=>Dv h;show Does Tryz.prog 57 [.agg #[.bool n1,.slice a la.length ca],.agg #[.bool n2,.slice b lb.length cb]] G [] _;refine D0 Tryz.func57 Tryz.ntmps57 fun w=>?_;by_cases sx:zx<0 <;> by_cases sy:zy<0
 · rw [na,nb,cX sx,cX sy];refine aL 2 [] ?_;refine fK 0 fun b1=>?_;refine fK 1 fun b2=>?_;refine aN 25 [0,1,1,1,0] ?_;refine dC U (ZG _ _ _ _ _ _ _ uK uK uK uK uJ uJ uJ uJ) ?_;refine bA 6 [] ?_;refine cZ ?_;exact ⟨by rw [Pg (x:=uM lb) (y:=uM la) (u:=zx) (v:=zy) uJ uJ],U,U⟩
 · rw [na,nb,cX sx,cM sy];refine aL 2 [] ?_;refine fK 0 fun b1=>?_;refine fK 1 fun b2=>?_;refine bA 35 [0,1,0,0,1] ?_;refine cZ ?_;exact ⟨by rw [cs zx zy uJ],U,U⟩
 · rw [na,nb,cM sx,cX sy];refine aL 2 [] ?_;refine fK 0 fun b1=>?_;refine fK 1 fun b2=>?_;refine bA 41 [0,0,0,0,1,1] ?_;refine cZ ?_;exact ⟨by rw [cg zx zy uJ],U,U⟩
 rw [na,nb,cM sx,cM sy];refine aL 2 [] ?_;refine fK 0 fun b1=>?_;refine fK 1 fun b2=>?_;refine aN 42 [0,0,0,0,1,0,0,1] ?_;refine dC U (ZG _ _ _ _ _ _ _ uK uK uK uK uJ uJ uJ uJ) ?_;refine bA 4 [] ?_;refine cZ ?_;exact ⟨by rw [Pg (x:=uM la) (y:=uM lb) (u:=zx) (v:=zy) uJ uJ],U,U⟩
theorem oq (G:A3) (x y:IV) (zx zy:Int) (hx:B9 G x zx) (hy:B9 G y zy) (h1:x.n≤536870912) (h2:y.n≤536870912) :
 Does Tryz.prog 65 [.agg (A2.enc x).toArray,.agg (A2.enc y).toArray] G [] (fun v G' Ho=>∃ r:IV,v=.agg (A2.enc r).toArray∧B9 G' r (zx*zy)∧Ho=[]):=by
 obtain ⟨n1,a,k1,ca⟩:=x;obtain ⟨n2,b,k2,cb⟩:=y;obtain ⟨la,hl,hlc,hA,hI⟩:=hx;obtain ⟨lb,hl',hlc',hA',hI'⟩:=hy;simp only at hl hlc hA hI hl' hlc' hA' hI' h1 h2;subst hl hl';have da:=hI.digs;have db:=hI'.digs;have ta:=hI.top;have tb:=hI'.top;show Does Tryz.prog 65 [.agg #[.bool n1,.slice a la.length ca],.agg #[.bool n2,.slice b lb.length cb]] G [] _;refine D0 Tryz.func65 Tryz.ntmps65 fun w=>?_;refine aL 2 [] ?_;refine fK 0 fun b1=>?_;refine fK 1 fun b2=>?_;refine bB 2 U T.zero89 fun b3=>?_;refine bY 3 [] ?_;refine gK [0,1,2] [(2,11)] T.mixed [[0],[1,0],[2],[3,1]] ?_;refine eP 4 [] U (Ih T.u4 U U) ?_;refine gS [[5],[6,0],[7],[8,1]] ?_;refine fC 9 ?_;refine cQ 3 U (py _ _ _ _ _ _ _ uK uK uK uK uJ uJ) fun v1 G1 Ho1 hle1 hp=>?_;obtain ⟨⟨ra1,rm1,rfl,hra1,hrl1,hrt1,hrv1,hrn1⟩,rfl⟩:=hp;replace hA:=hA.up hle1;replace hA':=hA'.up hle1;refine eD 10 ?_;refine dC U (Mr _ _ _ _ _ uJ) ?_;refine eD 11 ?_;refine aF 1 [2] ?_;refine lC ?_;refine iN 2 [] ?_;refine cP (.inr U) (Ho:=Hp.only _ []) U (.agg 2 U U T.agg89) (aV _ _) ?_;refine ⟨⟨decide (n1≠n2) && decide (0<rm1.length),ra1,rm1.length,rm1.length⟩,U,nM (decide (n1≠n2)) hra1 hrl1 hrt1 (aG _) ?_,U⟩;rw [hrv1,hI.val,hI'.val];cases n1 <;> cases n2 <;> simp [lK,Int.mul_neg]
end
theorem AG {n:Int} (h:-9223372036854775808≤n∧n<0):IntKind.u64.wrap (0 - IntKind.u64.wrap n)=-n:=by
 rw [pB,pB];omega
theorem WK (u:Int):uM [(⟨u % 4294967296⟩:A4),⟨u / 4294967296⟩]=u:=by
 rw [wE,wE,vF];show u % 4294967296+4294967296*(u / 4294967296+4294967296*0)=u;omega
theorem QH {u:Int} (h:0≤u∧u<18446744073709551616):A6 [(⟨u % 4294967296⟩:A4),⟨u / 4294967296⟩]:=by
 intro d hd;simp only [dK,List.mem_nil_iff,or_false] at hd;rcases hd with rfl | rfl
 · exact Iu u
 show 0≤u / 4294967296∧u / 4294967296<4294967296;omega
theorem B9.lt {G:A3} {x:IV} {z:Int} (h:B9 G x z):(z.natAbs:Int)<pb x.n:=by
 obtain ⟨l,h1,_,_,h4⟩:=h;rw [←h4.abs,←h1];exact wL h4.digs
section
attribute [local irreducible] uM pb vJ uZ
theorem OC (G:A3) (n:Int) (hn:-9223372036854775808≤n∧n≤9223372036854775807) :
 Does Tryz.prog 43 [.int .i64 n] G [] (fun v G' Ho=>∃ r:IV,v=.agg (A2.enc r).toArray∧B9 G' r n∧Ho=[]):=by
 refine D0 Tryz.func43 Tryz.ntmps43 fun w=>?_;refine aL 2 [] ?_;refine bB 0 U T.zero89 fun b1=>?_;refine aN 5 [] ?_;refine aT (jM U T.u165 U) ?_;refine bY 3 [] ?_;refine Il (ι:=Int) (fun u=>([(0,.int .i64 n),(2,.pointer (some ⟨b1,0,none⟩)),(3,.int .u64 u)],[(0,some b1,.cells #[.bool false,.slice none 0 0] 89)])) (fun u=>0≤u∧u<18446744073709551616∧n=if decide (n<0)=true then -u else u) ?_ fun u=>fun (hk:0≤u∧u<18446744073709551616∧n=if decide (n<0)=true then -u else u)=>?_
 · by_cases hneg:n<0
   · refine aL 9 [1] ?_;refine aT (nN U) ?_;refine bA 2 [] ?_;refine dH 3 U (show _=Value.int .u64 (-n) by rw [AG ⟨hn.1,hneg⟩]) ?_;refine Ar.mt (-n) ?_;exact ⟨by omega,by omega,by rw [aM (by simpa using hneg)];omega⟩
   refine cJ 8 [0] ?_;refine dH 3 U (show _=Value.int .u64 n by rw [kO _ uJ]) ?_;refine Ar.mt (n) ?_;exact ⟨by omega,by omega,by rw [aE (by simpa using hneg)]⟩
 obtain ⟨hu0,hu1,hun⟩:=hk;refine aL 5 [] ?_;refine aT (hJ U T.u166 U) ?_;refine aF 1 [] ?_;refine aT (fT U U uJ) ?_;refine aT (iO U T.u166 U uJ) ?_;refine eV (α:=A4) 1 [⟨u % 4294967296⟩,⟨u / 4294967296⟩] U T.sl87 T.el166 U U U U U fun b2=>?_;have hd:=QH ⟨hu0,hu1⟩;refine eC 1 U (kW (xs:=[(⟨u % 4294967296⟩:A4),⟨u / 4294967296⟩]) Oe) fun G9 hle9 hA9=>?_;refine cQ 2 U (qf _ _ _ _ _ uK uK Sp Sp) fun v1 G1 Ho1 hle1 hp=>?_;obtain ⟨r1,rfl,hr1,rfl⟩:=hp;replace hA9:=hA9.up hle1;refine bA 4 [0] ?_;refine cP (.inr U) (Ho:=Hp.only _ []) U (.agg 0 U U T.agg89) (aV _ _) ?_;exact ⟨_,U,B9.out hr1 (by rw [WK];exact hun.symm),U⟩
theorem gf (G:A3) (x y:IV) (zx zy:Int) (hx:B9 G x zx) (hy:B9 G y zy) (h1:x.n≤536870912) (h2:y.n≤536870912) :
 Does Tryz.prog 42 [.agg (A2.enc x).toArray,.agg (A2.enc y).toArray] G [] (fun v G' Ho=>∃ r:IV,v=.agg (A2.enc r).toArray∧B9 G' r (zx+zy)∧Ho=[]):=by
 obtain ⟨n1,a,k1,ca⟩:=x;obtain ⟨n2,b,k2,cb⟩:=y;obtain ⟨la,hl,hlc,hA,hI⟩:=hx;obtain ⟨lb,hl',hlc',hA',hI'⟩:=hy;simp only at hl hlc hA hI hl' hlc' hA' hI' h1 h2;subst hl hl';have da:=hI.digs;have db:=hI'.digs;have ta:=hI.top;have tb:=hI'.top;have len_le:∀ {l m:List A4},A6 l→A6 m→E8 m→uM m≤uM l→m.length≤l.length:=fun {l m} hl hm tm h=>by
  rcases aK l.length m.length with h1 | h1
  · have:=Aj hl hm tm h1;omega
  exact h1
 show Does Tryz.prog 42 [.agg #[.bool n1,.slice a la.length ca],.agg #[.bool n2,.slice b lb.length cb]] G [] _;refine D0 Tryz.func42 Tryz.ntmps42 fun w=>?_;by_cases hs:n1=n2
 · refine aL 2 [] ?_;refine fK 0 fun b1=>?_;refine fK 1 fun b2=>?_;refine bB 2 U T.zero89 fun b3=>?_;refine aN 9 [0,1] ?_;refine aT (rL T.u4 U U) ?_;refine bY 4 [1] ?_;refine gK [0,1,2] [(2,8)] T.mixed [[0],[1,0],[2],[3,0],[4],[5,1]] ?_;refine fC 6 ?_;refine cQ 3 U (c97 _ _ _ _ _ _ _ uK uK uK uK uJ uJ) fun v1 G1 Ho1 hle1 hp=>?_;obtain ⟨⟨ra1,rm1,rfl,hra1,hrl1,hrt1,hrv1,hrn1⟩,rfl⟩:=hp;replace hA:=hA.up hle1;replace hA':=hA'.up hle1;refine eD 7 ?_;refine dC U (Mr _ _ _ _ _ uJ) ?_;refine eD 8 ?_;refine aF 1 [2] ?_;refine lC ?_;refine iN 3 [] ?_;refine cP (.inr U) (Ho:=Hp.only _ []) U (.agg 2 U U T.agg89) (aV _ _) ?_;all_goals
    refine ⟨⟨n1 && decide (0<rm1.length),ra1,rm1.length,rm1.length⟩,U,nM n1 hra1 hrl1 hrt1 (aG _) ?_,U⟩;rw [hrv1,hI.val,hI'.val];revert hs;cases n1 <;> cases n2 <;> simp <;> omega
 by_cases hle:uM lb≤uM la
 · have hcmp:¬vJ (uM la) (uM lb)<0:=fun h=>by have:=AE h;omega
   have hll:=len_le da db tb hle;refine aL 2 [] ?_;refine fK 0 fun b1=>?_;refine fK 1 fun b2=>?_;refine bB 2 U T.zero89 fun b3=>?_;refine aN 9 [0,1] ?_;refine aT (rL T.u4 U U) ?_;refine aN 12 [0,0,1] ?_;refine dC U (ZG _ _ _ _ _ _ _ uK uK uK uK uJ uJ uJ uJ) ?_;refine aN 12 [0,0,1] ?_;refine cQ 3 U (c99 _ _ _ _ _ _ _ uK uK uK uK uJ uJ uJ uJ uJ) fun v1 G1 Ho1 hle1 hp=>?_;obtain ⟨rq1,rfl,⟨ra1,rm1,rfl,hra1,hrl1,hrt1,hrv1,hrn1⟩,rfl⟩:=hp;replace hA:=hA.up hle1;replace hA':=hA'.up hle1;refine aN 12 [0] ?_;refine dC U (Mr _ _ _ _ _ uJ) ?_;refine bA 4 [2] ?_;refine cP (.inr U) (Ho:=Hp.only _ []) U (.agg 2 U U T.agg89) (aV _ _) ?_;refine ⟨⟨n1 && decide (0<rm1.length),ra1,rm1.length,rm1.length⟩,U,nM n1 hra1 hrl1 hrt1 (aG _) ?_,U⟩;rw [hrv1,hI.val,hI'.val];revert hs;cases n1 <;> cases n2 <;> simp <;> omega
 have hcmp:vJ (uM la) (uM lb)=-1:=Ci uJ;have hle':uM la≤uM lb:=uJ;have hll:=len_le db da ta hle';refine aL 2 [] ?_;refine fK 0 fun b1=>?_;refine fK 1 fun b2=>?_;refine bB 2 U T.zero89 fun b3=>?_;refine aN 9 [0,1] ?_;refine aT (rL T.u4 U U) ?_;refine aN 12 [0,0,1] ?_;refine dC U (ZG _ _ _ _ _ _ _ uK uK uK uK uJ uJ uJ uJ) ?_;refine aN 17 [1,1,0,0,1,0,1] ?_;refine cQ 3 U (c99 _ _ _ _ _ _ _ uK uK uK uK uJ uJ uJ uJ uJ) fun v1 G1 Ho1 hle1 hp=>?_;obtain ⟨rq1,rfl,⟨ra1,rm1,rfl,hra1,hrl1,hrt1,hrv1,hrn1⟩,rfl⟩:=hp;replace hA:=hA.up hle1;replace hA':=hA'.up hle1;refine aN 12 [0] ?_;refine dC U (Mr _ _ _ _ _ uJ) ?_;refine bA 4 [2] ?_;refine cP (.inr U) (Ho:=Hp.only _ []) U (.agg 2 U U T.agg89) (aV _ _) ?_;refine ⟨⟨n2 && decide (0<rm1.length),ra1,rm1.length,rm1.length⟩,U,nM n2 hra1 hrl1 hrt1 (aG _) ?_,U⟩;rw [hrv1,hI.val,hI'.val];revert hs;cases n1 <;> cases n2 <;> simp <;> omega
theorem aq (G:A3) (x y:IV) (zx zy:Int) (hx:B9 G x zx) (hy:B9 G y zy) (h1:x.n≤536870912) (h2:y.n≤536870912) :
 Does Tryz.prog 159 [.agg (A2.enc x).toArray,.agg (A2.enc y).toArray] G [] (fun v G' Ho=>∃ r:IV,v=.agg (A2.enc r).toArray∧B9 G' r (zx - zy)∧Ho=[]):=by
 refine D0 Tryz.func159 Tryz.ntmps159 fun w=>?_;refine aL 2 [] ?_;refine fK 0 fun b1=>?_;refine fK 1 fun b2=>?_;refine bB 2 U T.zero89 fun b3=>?_;refine bY 3 [] ?_;refine gK [0,1,2] [(2,4)] T.mixed [[0,0],[1,1]] ?_;refine fC 2 ?_;refine cQ 3 U (qg _ _ _ hy uJ) fun v1 G1 Ho1 hle1 hp=>?_;obtain ⟨nr1,rfl,hnr1,rfl,rfl⟩:=hp;refine eD 3 ?_;have hn1:nr1.n≤y.n:=jG hnr1 (by rw [Int.natAbs_neg];exact B9.lt hy);refine cQ 20 U (gf _ x nr1 zx (-zy) hx hnr1 h1 uJ) fun v2 G2 Ho2 hle2 hp=>?_;obtain ⟨r2,rfl,hr2,rfl⟩:=hp;refine eD 4 ?_;refine aF 1 [2] ?_;refine lC ?_;refine iN 2 [] ?_;refine cP (.inr U) (Ho:=Hp.only _ []) U (.agg 2 U U T.agg89) (aV _ _) ?_;exact ⟨r2,U,B9.out hr2 (Int.sub_eq_add_neg).symm,U⟩
theorem QI (d s:Nat):pb d*((2 ^ s:Nat):Int)=((2 ^ (32*d+s):Nat):Int):=by
 unfold pb;rw [←dS];congr 1;rw [show (4294967296:Nat)=2 ^ 32 by decide,←sD,←kX]
theorem c56 (G:A3) (x:IV) (zx:Int) (d s:Nat) (hx:B9 G x zx) (h1:x.n≤536870912) (hs:s<32) (hd:d≤1000) :
 Does Tryz.prog 56 [.agg (A2.enc x).toArray,.int .i64 ((32*d+s:Nat):Int)] G [] (fun v G' Ho=>∃ r:IV,v=.tuple #[.agg (A2.enc r).toArray,.int .i64 0]∧B9 G' r (zx*((2 ^ (32*d+s):Nat):Int))∧Ho=[]):=by
 obtain ⟨n1,a,k1,ca⟩:=x;obtain ⟨la,hl,hlc,hA,hI⟩:=hx;simp only at hl hlc hA hI h1;subst hl;have da:=hI.digs;show Does Tryz.prog 56 [.agg #[.bool n1,.slice a la.length ca],.int .i64 ((32*d+s:Nat):Int)] G [] _;refine D0 Tryz.func56 Tryz.ntmps56 fun w=>?_;refine aL 2 [] ?_;refine fK 0 fun b1=>?_;refine bB 1 U T.zero89 fun b2=>?_;refine aN 8 [0] ?_;refine cQ 2 U (ij _ _ _ _ d s uK uK uJ hs hd) fun v1 G1 Ho1 hle1 hp=>?_;obtain ⟨rq1,rfl,⟨ra1,rm1,rfl,hra1,hrl1,hrt1,hrv1,hrn1⟩,rfl⟩:=hp;replace hA:=hA.up hle1;refine aN 22 [0,0] ?_;refine dC U (Mr _ _ _ _ _ uJ) ?_;refine bA 5 [1] ?_;refine jZ (.inr U) (Ho:=Hp.only _ []) U (.agg 1 U U T.agg89) (.tmp U) (aV _ _) ?_;refine ⟨⟨n1 && decide (0<rm1.length),ra1,rm1.length,rm1.length⟩,U,nM n1 hra1 hrl1 hrt1 (aG _) ?_,U⟩;rw [hrv1,hI.val,QI];cases n1
 · rw [aE (by decide),aE (by decide),cW]
 rw [aM rfl,aM rfl,lK,cW]
end
end Go.Proofs.YtngphgeghfdjbaaGreatDoor
namespace Go.Sl
open Go
section
variable {B:Bs} {e:B0} {D:List Deferred} {H:Hp} {G:A3}
theorem retagH {a:Act} {w:World} (hh:A7 B ⟨e,D,H,G⟩ a w) (t t':Nat) {k:Option Nat} {o:Obj} (ht:H.get t=some (k,o)) (hn:t≠t') (hk:H.get t'=none∨True):A7 B ⟨e,D,(t',k,o) :: (t,none,o) :: H,G⟩ a w:=by
 have key:∀ i b o',Hp.get ((t',k,o) :: (t,none,o) :: H) i=some (some b,o')→(i=t'∧H.get t=some (some b,o'))∨(i≠t'∧i≠t∧H.get i=some (some b,o')):=fun i b o' hx=>by
  rw [bZ] at hx;split at hx
  · rename_i hi;left;refine ⟨hi.symm,?_⟩;rw [ht];exact hx
  rename_i hi;rw [bZ] at hx;split at hx
  · simp at hx
  rename_i hi2;exact .inr ⟨fun h=>hi h.symm,fun h=>hi2 h.symm,hx⟩
 refine ⟨hh.size,hh.defers,hh.env,⟨?_,?_,hh.mem.imm,?_⟩,hh.upd,?_,hh.le,hh.new⟩
 · intro i b o' hx;rcases key i b o' hx with ⟨_,h⟩ | ⟨_,_,h⟩
   · exact hh.mem.own _ b o' h
   exact hh.mem.own _ b o' h
 · intro i i' b o1 o2 hx hy;rcases key i b o1 hx with ⟨h1,h2⟩ | ⟨h1,h1',h2⟩ <;> rcases key i' b o2 hy with ⟨h3,h4⟩ | ⟨h3,h3',h4⟩
   · rw [h1,h3]
   · exact absurd (hh.mem.one _ _ b _ _ h2 h4).symm h3'
   · exact absurd (hh.mem.one _ _ b _ _ h2 h4) h1'
   exact hh.mem.one _ _ b _ _ h2 h4
 · intro i b o' hx;rcases key i b o' hx with ⟨_,h⟩ | ⟨_,_,h⟩
   · exact hh.mem.off _ b o' h
   exact hh.mem.off _ b o' h
 intro i b o' hx;rcases key i b o' hx with ⟨_,h⟩ | ⟨_,_,h⟩
 · exact hh.mine _ b o' h
 exact hh.mine _ b o' h
theorem Ar.retag {x:Exit} {Q:Exit→Act→World→Prop} (t t':Nat) {k:Option Nat} {o:Obj} (ht:H.get t=some (k,o)) (hn:Nat.beq t t'=false) (h:Ar Q x B ⟨e,D,(t',k,o) :: (t,none,o) :: H,G⟩):Ar Q x B ⟨e,D,H,G⟩:=
 fun a w hh=>h a w (retagH hh t t' ht (fun e=>by subst e;simp at hn) (.inr trivial))
end
end Go.Sl
namespace Go.Proofs.YtngphgeghfdjbaaGreatDoor
open Go Go.Sl
theorem QJ (z:Int):-1≤Jd z∧Jd z≤1:=by unfold Jd;split;exact ⟨by omega,by omega⟩;split <;> exact ⟨by omega,by omega⟩
theorem WL (z:Int):-9223372036854775808≤Jd z∧Jd z≤9223372036854775807:=by have:=QJ z;omega
theorem WM (z:Int):((Jd z).natAbs:Int)<pb 1:=by have:=QJ z;have:pb 1=4294967296:=uR;omega
theorem WN (z:Int):Jd z*z=z.natAbs:=by
 unfold Jd;split
 · omega
 split <;> omega
theorem Xt {x y q r:Int} (hy:y≠0) (h:x=q*y+r) (h0:0≤r) (h1:r<y.natAbs):q=x / y∧r=x % y:=by
 rcases Int.lt_or_gt_of_ne hy with hn | hp
 · have:=(Int.ediv_emod_unique' (a:=x) (b:=y) (r:=r) (q:=q) hn).2 ⟨by rw [cW y q];omega,h0,by omega⟩;exact ⟨this.1.symm,this.2.symm⟩
 have:=(sN (a:=x) (b:=y) (r:=r) (q:=q) hp).2 ⟨by rw [cW y q];omega,h0,by omega⟩;exact ⟨this.1.symm,this.2.symm⟩
theorem AH {n1 n2:Bool} {x y la lb lq lr:Int} (hx:x=if n1=true then -la else la) (hy:y=if n2=true then -lb else lb) (hv:la=lq*lb+lr) :
 x=(if decide (n1≠n2)=true then -lq else lq)*y+(if n1=true then -lr else lr):=by
 subst hx hy hv;cases n1 <;> cases n2 <;> simp [lK,Int.mul_neg,Int.neg_add]
theorem WO {x y q r:Int} (h:x=q*y+r):x=(q - Jd y)*y+(r+y.natAbs):=by
 have:=WN y;rw [sK,this];omega
theorem WP {n1:Bool} {m:List A4} {q x y:Int} (hx:x=q*y+(if n1=true then -uM m else uM m)) (hy:y≠0) (hl:uM m<y.natAbs) (h:(n1 && decide (0<m.length))=true) (ht:E8 m) (hd:A6 m) :
 q - Jd y=x / y∧(if n1=true then -uM m else uM m)+(y.natAbs:Int)=x % y:=by
 rw [aB,aY] at h;have hp:=Fb hd ht (fun e=>by have:=h.2;rw [e] at this;simp at this);have e:=h.1;subst e;rw [aM rfl] at hx ⊢;exact Xt hy (WO hx) uJ uJ
theorem QK {n1:Bool} {m:List A4} {q x y:Int} (hx:x=q*y+(if n1=true then -uM m else uM m)) (hy:y≠0) (hl:uM m<y.natAbs) (h:(n1 && decide (0<m.length))=false) (hd:A6 m) :
 q=x / y∧(if n1=true then -uM m else uM m)=x % y:=by
 have hn:=vD hd;refine Xt hy hx ?_ ?_
 · cases n1 with
   | false=>rw [aE (by decide)];exact hn
   | true =>
     have h0:m=[]:=by
      rw [pI,eZ] at h;exact bS uJ
     rw [aM rfl,h0,vF];omega
 split <;> omega
section
attribute [local irreducible] uM pb vJ uZ
theorem qh (G:A3) (x y:IV) (zx zy:Int) (hx:B9 G x zx) (hy:B9 G y zy) (h1:x.n≤268435456) (h2:y.n≤268435456) (hy0:zy≠0) :
 Does Tryz.prog 109 [.agg (A2.enc x).toArray,.agg (A2.enc y).toArray] G [] (fun v G' Ho=>∃ q r:IV,v=.tuple #[.agg (A2.enc q).toArray,.agg (A2.enc r).toArray,.int .i64 0]∧B9 G' q (zx / zy)∧B9 G' r (zx % zy)∧Ho=[]):=by
 obtain ⟨n1,a,k1,ca⟩:=x;obtain ⟨n2,b,k2,cb⟩:=y;obtain ⟨la,hl,hlc,hA,hI⟩:=hx;obtain ⟨lb,hl',hlc',hA',hI'⟩:=hy;simp only at hl hlc hA hI hl' hlc' hA' hI' h1 h2;subst hl hl';have da:=hI.digs;have db:=hI'.digs;have ta:=hI.top;have tb:=hI'.top;have h1':la.length≤536870912:=uJ;have h2':lb.length≤536870912:=uJ;have va:=hI.abs;have vb:=hI'.abs;have hlt:=wL db;have hB:0<uM lb:=uJ;show Does Tryz.prog 109 [.agg #[.bool n1,.slice a la.length ca],.agg #[.bool n2,.slice b lb.length cb]] G [] _;refine D0 Tryz.func109 Tryz.ntmps109 fun w=>?_;refine aL 2 [] ?_;refine fK 0 fun b1=>?_;refine fK 1 fun b2=>?_;refine bB 2 U T.zero89 fun b3=>?_;refine bB 3 U T.zero89 fun b4=>?_;refine aN 9 [0,1] ?_;refine cQ 4 U (il _ _ _ _ _ _ _ uK uK da ta db h1' h2' hlc hlc' hB) fun v1 G1 Ho1 hle1 hp=>?_;obtain ⟨_,_,rfl,⟨qa1,qm1,rfl,hqa1,hql1,hqt1,hqv1,hqn1⟩,⟨ra1,rm1,rfl,hra1,hrl1,hrt1,hrv1,hrn1⟩,rfl⟩:=hp;replace hA:=hA.up hle1;replace hA':=hA'.up hle1;refine bY 19 [0] ?_;refine Il (ι:=Nat×Nat) (fun (p,q)=>([(10,.pointer (some ⟨p,0,none⟩)),(11,.pointer (some ⟨q,0,none⟩)),(6,.int .i64 0),(5,.pointer (some (Addr.mk b4 0 none))),(4,.pointer (some (Addr.mk b3 0 none))),(3,.pointer (some ⟨b2,0,none⟩))],[(60,some p,.cells #[.bool (decide (n1≠n2) && decide (0<qm1.length)),.slice qa1 qm1.length qm1.length] 89),(61,some q,.cells #[.bool (n1 && decide (0<rm1.length)),.slice ra1 rm1.length rm1.length] 89),(3,some b4,.cells #[.bool Bool.false,.slice none 0 0] 89),(2,some b3,.cells #[.bool Bool.false,.slice none 0 0] 89),(1,some b2,.cells #[.bool n2,.slice b (List.length lb) cb] 89),(0,some b1,.cells #[.bool n1,.slice a (List.length la) ca] 89)])) (fun (p,q)=>True) ?_ fun ⟨p,q⟩=>fun (hk:True)=>?_
 · refine gK [0,1,2,3] [] T.mixed [[0],[1,0],[2],[3,1]] ?_;refine eP 4 [] U (Ih T.u4 U U) ?_;refine gS [[5],[7],[8,0],[9]] ?_;refine Gm.o3 6 11 12 ?_ ?_ ?_;refine dC U (Mr _ _ _ _ _ uJ) ?_;refine dG ?_;refine Gm.o3 10 11 12 ?_ ?_ ?_;refine dC U (Mr _ _ _ _ _ uJ) ?_;refine dG ?_;refine Gm.o2 11 12 ?_ ?_;refine bB 4 U T.zero89 fun b5=>?_;refine eD 12 ?_;refine bB 5 U T.zero89 fun b6=>?_;refine eD 13 ?_;refine aF 1 [4] ?_;refine eD 14 ?_;refine aF 1 [5] ?_;refine lC ?_;rotate_left;refine bB 4 U T.zero89 fun b5=>?_;refine eD 11 ?_;refine bB 5 U T.zero89 fun b6=>?_;refine eD 13 ?_;refine aF 1 [5] ?_;refine eD 14 ?_;refine aF 1 [4] ?_;refine lC ?_;rotate_left;refine bB 4 U T.zero89 fun b5=>?_;refine dG ?_;refine Gm.o2 10 12 ?_ ?_;refine dC U (Mr _ _ _ _ _ uJ) ?_;refine eD 12 ?_;refine bB 5 U T.zero89 fun b6=>?_;refine eD 13 ?_;refine aF 1 [4] ?_;refine eD 14 ?_;refine aF 1 [5] ?_;refine lC ?_;rotate_left;refine bB 5 U T.zero89 fun b6=>?_;refine eD 10 ?_;refine dC U (Mr _ _ _ _ _ uJ) ?_;refine eD 13 ?_;refine aF 1 [4] ?_;refine eD 14 ?_;refine aF 1 [5] ?_;refine lC ?_;rotate_left;refine bB 4 U T.zero89 fun b5=>?_;refine dG ?_;refine Gm.o2 10 11 ?_ ?_;refine dC U (Mr _ _ _ _ _ uJ) ?_;refine eD 11 ?_;refine bB 5 U T.zero89 fun b6=>?_;refine eD 13 ?_;refine aF 1 [5] ?_;refine eD 14 ?_;refine aF 1 [4] ?_;refine lC ?_;rotate_left;refine bB 5 U T.zero89 fun b6=>?_;refine eD 10 ?_;refine dC U (Mr _ _ _ _ _ uJ) ?_;refine eD 13 ?_;refine aF 1 [5] ?_;refine eD 14 ?_;refine aF 1 [4] ?_;refine lC ?_;rotate_left;refine bB 4 U T.zero89 fun b5=>?_;refine dG ?_;refine Gm.o2 6 12 ?_ ?_;refine dC U (Mr _ _ _ _ _ uJ) ?_;refine dG ?_;refine Gm.o2 10 12 ?_ ?_;refine dC U (Mr _ _ _ _ _ uJ) ?_;refine eD 12 ?_;refine bB 5 U T.zero89 fun b6=>?_;refine eD 13 ?_;refine aF 1 [4] ?_;refine eD 14 ?_;refine aF 1 [5] ?_;refine lC ?_;rotate_left;refine bB 5 U T.zero89 fun b6=>?_;refine eD 10 ?_;refine dC U (Mr _ _ _ _ _ uJ) ?_;refine eD 13 ?_;refine aF 1 [4] ?_;refine eD 14 ?_;refine aF 1 [5] ?_;refine lC ?_;rotate_left;refine bB 5 U T.zero89 fun b6=>?_;refine eD 6 ?_;refine dC U (Mr _ _ _ _ _ uJ) ?_;refine eD 10 ?_;refine dC U (Mr _ _ _ _ _ uJ) ?_;refine eD 13 ?_;refine aF 1 [4] ?_;refine eD 14 ?_;refine aF 1 [5] ?_;refine lC ?_;rotate_left;refine bB 4 U T.zero89 fun b5=>?_;refine dG ?_;refine Gm.o2 6 11 ?_ ?_;refine dC U (Mr _ _ _ _ _ uJ) ?_;refine dG ?_;refine Gm.o2 10 11 ?_ ?_;refine dC U (Mr _ _ _ _ _ uJ) ?_;refine eD 11 ?_;refine bB 5 U T.zero89 fun b6=>?_;refine eD 13 ?_;refine aF 1 [5] ?_;refine eD 14 ?_;refine aF 1 [4] ?_;refine lC ?_;rotate_left;refine bB 5 U T.zero89 fun b6=>?_;refine eD 10 ?_;refine dC U (Mr _ _ _ _ _ uJ) ?_;refine eD 13 ?_;refine aF 1 [5] ?_;refine eD 14 ?_;refine aF 1 [4] ?_;refine lC ?_;rotate_left;refine bB 5 U T.zero89 fun b6=>?_;refine eD 6 ?_;refine dC U (Mr _ _ _ _ _ uJ) ?_;refine eD 10 ?_;refine dC U (Mr _ _ _ _ _ uJ) ?_;refine eD 13 ?_;refine aF 1 [5] ?_;refine eD 14 ?_;refine aF 1 [4] ?_;refine lC ?_;rotate_left;all_goals first | (refine Ar.retag 4 60 U U (Ar.retag 5 61 U U (Xf (b5,b6) I8 U ?_ ?_)) <;> (repeat (first | exact I8 | refine ⟨U,?_⟩));done) | (refine Ar.retag 5 60 U U (Ar.retag 4 61 U U (Xf (b6,b5) I8 U ?_ ?_)) <;> (repeat (first | exact I8 | refine ⟨U,?_⟩));done)
 have hxy:=AH hI.val hI'.val (show uM la=uM qm1*uM lb+uM rm1 by rw [hqv1,hrv1,cW];exact (Int.mul_ediv_add_emod (uM la) (uM lb)).symm);have hrlt:uM rm1<uM lb:=by rw [hrv1];exact eM _ hB
 have hQ0:=nM (decide (n1≠n2)) hqa1 hql1 hqt1 (aG _) U;have hy2:B9 G1 ⟨n2,b,lb.length,cb⟩ zy:=⟨lb,U,hlc',hA',hI'⟩
 have hR0:=nM n1 hra1 hrl1 hrt1 (aG _) U;refine dN 7 [61] ?_;refine Og U (fun hc1=>?_) fun hc1=>?_;refine bP ?_;refine gK [0,1,2,3,61,60] [(61,4)] T.mixed [[0,61],[1,1]] ?_;refine fC 2 ?_;refine cQ 62 U (c58 _ ⟨n2,b,lb.length,cb⟩ zy hy2 (aP h2' uR)) fun v2 G2 Ho2 hle2 hp=>?_;obtain ⟨nr2,rfl,hnr2,rfl,rfl⟩:=hp;refine eD 3 ?_;refine cQ 62 U (gf _ ⟨(n1 && decide (0<rm1.length)),ra1,rm1.length,rm1.length⟩ nr2 _ _ hR0 hnr2 (aP hrn1 h2') (aP (jG hnr2 (m:=lb.length) uJ) h2')) fun v3 G3 Ho3 hle3 hp=>?_;obtain ⟨rs3,rfl,hrs3,rfl⟩:=hp;replace hnr2:=hnr2.up hle3;replace hqa1:=hqa1.up hle3;replace hra1:=hra1.up hle3;replace hA:=hA.up hle3;replace hA':=hA'.up hle3;replace hQ0:=hQ0.up hle3;replace hy2:=hy2.up hle3;replace hR0:=hR0.up hle3;refine eD 4 ?_;refine aF 1 [61] ?_;refine lC ?_;refine bE ?_;refine gK [0,1,2,3,60,61] [(60,5)] T.mixed [[0,60],[1,1]] ?_;refine fC 2 ?_;refine dC U (fy _ _ _ _ _ zy hI' uJ) ?_;refine eD 3 ?_;refine cQ 62 U (OC _ _ (WL zy)) fun v4 G4 Ho4 hle4 hp=>?_;obtain ⟨ro4,rfl,hro4,rfl⟩:=hp;replace hrs3:=hrs3.up hle4;replace hnr2:=hnr2.up hle4;replace hqa1:=hqa1.up hle4;replace hra1:=hra1.up hle4;replace hA:=hA.up hle4;replace hA':=hA'.up hle4;replace hQ0:=hQ0.up hle4;replace hy2:=hy2.up hle4;replace hR0:=hR0.up hle4;refine eD 4 ?_;refine cQ 62 U (aq _ ⟨(decide (n1≠n2) && decide (0<qm1.length)),qa1,qm1.length,qm1.length⟩ ro4 _ _ hQ0 hro4 (aP hqn1 h1') (aP (jG hro4 (m:=1) (WM zy)) uR)) fun v5 G5 Ho5 hle5 hp=>?_;obtain ⟨rd5,rfl,hrd5,rfl⟩:=hp;replace hro4:=hro4.up hle5;replace hrs3:=hrs3.up hle5;replace hnr2:=hnr2.up hle5;replace hqa1:=hqa1.up hle5;replace hra1:=hra1.up hle5;replace hA:=hA.up hle5;replace hA':=hA'.up hle5;replace hQ0:=hQ0.up hle5;replace hy2:=hy2.up hle5;replace hR0:=hR0.up hle5;refine eD 5 ?_;refine aF 1 [60] ?_;refine lC ?_;refine rI 2 [] ?_;refine gK [0,1,2,3,61,60] [(3,3),(2,2)] T.mixed [[0,60],[1,61]] ?_;refine fC 2 ?_;refine aF 1 [2] ?_;refine eD 3 ?_;refine aF 1 [3] ?_;refine dG ?_;refine gS [[4]] ?_;refine eI ?_;refine iN 2 [] ?_;refine sW (.inr U) (Ho:=Hp.only _ []) U (.agg 2 U U T.agg89) (.agg 3 U U T.agg89) (.tmp U) (aV _ _) ?_;rotate_left;refine dN 3 [] ?_;refine gK [0,1,2,3,61,60] [(3,3),(2,2)] T.mixed [[0,60],[1,61]] ?_;refine fC 2 ?_;refine aF 1 [2] ?_;refine eD 3 ?_;refine aF 1 [3] ?_;refine dG ?_;refine gS [[4]] ?_;refine eI ?_;refine iN 2 [] ?_;refine sW (.inr U) (Ho:=Hp.only _ []) U (.agg 2 U U T.agg89) (.agg 3 U U T.agg89) (.tmp U) (aV _ _) ?_;rotate_left
 · have he:=WP hxy hy0 uJ hc1 hrt1 hrl1;refine ⟨rd5,rs3,U,?_,?_,U⟩
   · rw [←he.1];exact hrd5
   rw [←he.2];exact hrs3
 have he:=QK hxy hy0 uJ hc1 hrl1;refine ⟨⟨(decide (n1≠n2) && decide (0<qm1.length)),qa1,qm1.length,qm1.length⟩,⟨(n1 && decide (0<rm1.length)),ra1,rm1.length,rm1.length⟩,U,?_,?_,U⟩
 · rw [←he.1];exact hQ0
 rw [←he.2];exact hR0
end
def D3 (l:List A4) (n:Nat):Prop:=n≤l.length∧(∀ j,n≤j→j<l.length→(l[j]?.getD default).v=0)∧(n=0∨(l[n - 1]?.getD default).v≠0)
theorem Xu {α:Type} [A2 α] {G:A3} {a:Option Addr} {c sz:Nat} {l:List α} (h:Arr G a l) (n:Nat):Arr G (C4 a c 0 sz) (l.take n):=by
 refine ⟨uV _,?_⟩;rcases h.2 with h0 | ⟨b,o,rfl,hr⟩
 · left;rw [bI];omega
 refine .inr ⟨b,o,?_,fun i v hi=>hr i v ?_⟩
 · unfold C4;split
   · rfl
   simp [Addr.add]
 have e:uT l=uT (l.take n)++uT (l.drop n):=by rw [←wB,dF]
 rw [e,bC (aR.1 hi).1];exact hi
theorem AI (G:A3) (neg:Bool) (a:Option Addr) (c:Nat) (l:List A4) (hl:Arr G a l) (hb:l.length≤1099511627776) (hc:l.length≤c) :
 Does Tryz.prog 106 [.bool neg,.slice a l.length c] G [] (fun v G' Ho=>∃ n,v=.agg #[.bool (neg && decide (0<n)),.slice (C4 a c 0 1) n c]∧D3 l n∧G'=G∧Ho=[]):=by
 refine D0 Tryz.func106 Tryz.ntmps106 fun w=>?_;refine aL 2 [] ?_;refine bB 0 U T.zero93 fun b1=>?_;refine bY 11 [] ?_;refine kL (ι:=Nat) (fun n=>([(5,.int .i64 (n:Int)),(4,.pointer (some ⟨b1,0,none⟩)),(0,.bool neg),(1,.slice a (List.length l) c)],[(0,some b1,.cells #[.bool Bool.false,.slice none 0 0] 93)])) (fun n=>n≤l.length∧(∀ j,n≤j→j<l.length→(l[j]?.getD default).v=0)) (fun n=>n) (l.length) (⟨aG _,fun j h1 h2=>absurd h2 uJ⟩) fun n=>fun hk=>?_;obtain ⟨hn,hz⟩:=hk;refine aL 6 [] ?_;apply gE 7 10 17 U;intro hg1;refine aF 7 [] ?_;refine fF (α:=A4) T.sl87 ?_;refine aF 1 [] ?_;refine iT 0 T.one166 ?_;refine aF 3 [] ?_;exact gO 7 0;intro hg1;refine aF 7 [] ?_;exact gO 7 0;refine bY 2 [] ?_;refine hZ (fun hc1=>?_) fun hc1=>?_;refine cJ 9 [] ?_;rotate_left;refine aL 9 [] ?_;refine Ua 21 U (fun hg1=>?_) fun hg1=>?_;refine aF 7 [] ?_;refine aT (Xc T.sl87 U U uJ) ?_;refine aT (fY (cs:=[_,_]) T.st93 U U U) ?_;refine bA 4 [0] ?_;refine cP (.inr U) (Ho:=Hp.only _ []) U (.agg 0 U U T.agg93) (aV _ _) ?_;rotate_left;refine aF 5 [] ?_;refine aT (Xc T.sl87 U U uJ) ?_;refine aT (fY (cs:=[_,_]) T.st93 U U U) ?_;refine bA 4 [0] ?_;refine cP (.inr U) (Ho:=Hp.only _ []) U (.agg 0 U U T.agg93) (aV _ _) ?_;rotate_left
 · refine dH 5 U (show _=Value.int .i64 ((n - 1:Nat):Int) by congr 1;omega) ?_;refine eH (n - 1) ?_ ?_
   · refine ⟨by omega,fun j h1 h2=>?_⟩;rcases aK j n with h3 | h3
     · have e:j=((n:Int) - 1).toNat:=uJ;rw [e];exact hc1.2
     exact hz j h3 h2
   omega
 · refine ⟨n,?_,⟨hn,hz,?_⟩,U,U⟩
   · rw [hg1];have e:((0:Int)<(n:Int))=(0<n):=by rw [eq_iff_iff];omega
     simp only [e,pI,aH]
   rcases dD n with h | h
   · exact .inl h
   refine .inr fun h2=>hc1 ⟨by omega,?_⟩;have e:((n:Int) - 1).toNat=n - 1:=uJ;rw [e];exact h2
 refine ⟨n,?_,⟨hn,hz,?_⟩,U,U⟩
 · rw [hg1];simp only [Bool.false_and,aH]
 rcases dD n with h | h
 · exact .inl h
 refine .inr fun h2=>hc1 ⟨by omega,?_⟩;have e:((n:Int) - 1).toNat=n - 1:=uJ;rw [e];exact h2
theorem D3.val {l:List A4} {n:Nat} (h:D3 l n):uS (l.take n)=uS l:=KO h.2.1
theorem D3.top {l:List A4} {n:Nat} (h:D3 l n):E8 (l.take n):=by
 obtain ⟨h1,h2,h3⟩:=h;rcases h3 with h3 | h3
 · subst h3;exact .inl U
 by_cases h0:n=0
 · subst h0;exact .inl U
 refine .inr ?_;rw [bI,dE h1,fO,aM (by omega)];exact h3
theorem D3.len {l:List A4} {n:Nat} (h:D3 l n):(l.take n).length=n:=by rw [bI,dE h.1]
theorem D3.isInt {l:List A4} {n:Nat} (h:D3 l n) (hd:B2 l) (neg:Bool):F2 (neg && decide (0<n)) (l.take n) (if neg=true then -uS l else uS l):=by
 refine ⟨hd.take n,h.top,fun e=>?_,?_⟩
 · have hl:=h.len;rw [e] at hl;have:n=0:=by simpa using hl.symm
   subst this;simp
 have hv:=h.val;rw [←hv];cases neg with
 | false=>simp
 | true =>
   by_cases h0:n=0
   · subst h0;simp [xO]
   have:0<n:=uJ;simp [this]
theorem D3.num {G:A3} {a:Option Addr} {c:Nat} {l:List A4} {n:Nat} (h:D3 l n) (hd:B2 l) (hl:Arr G a l) (hc:l.length≤c) (neg:Bool):F4 G ⟨neg && decide (0<n),C4 a c 0 1,n,c⟩ (if neg=true then -uS l else uS l):=by
 refine ⟨l.take n,h.len,aP h.1 hc,?_,h.isInt hd neg⟩;exact Xu hl n
theorem QL (P s:Int):P*(s % 65536)+65536*P*(s / 65536)=P*s:=by
 have h:=iC s 65536;have e:65536*P*(s / 65536)=P*(65536*(s / 65536)):=by rw [cW 65536 P,dA]
 rw [e,←bQ,h]
def dg (l:List A4) (i:Nat):Int:=(l[((i:Nat):Int).toNat]?.getD default).v
theorem Je {l:List A4} (h:B2 l) {i:Nat} (hi:i<l.length):0≤dg l i∧dg l i<65536:=h.at uJ
theorem Ld {l:List A4} {i:Nat} (hi:l.length≤i):dg l i=0:=by
 unfold dg;rw [aH,bF hi];rfl
theorem Ak (l:List A4) (i:Nat):uS (l.take (i+1))=uS (l.take i)+pw i*dg l i:=by
 rcases aK i l.length with h | h
 · exact Ex h
 rw [vB h,vB uJ,Ld h,bV,cH]
theorem Fw {la lb r:List A4} {i:Nat} {cy s:Int} (hri:r.length=i) (hv:uS (la.take i)+uS (lb.take i)=uS r+pw i*cy) (hs:s=cy+dg la i+dg lb i) :
 uS (la.take (i+1))+uS (lb.take (i+1))=uS (r++[⟨s % 65536⟩])+pw (i+1)*(s / 65536):=by
 rw [Ak,Ak,Fv,hri,Dq];have h:=QL (pw i) s;rw [hs,bQ,bQ,←hs] at h;show _=uS r+pw i*(s % 65536)+65536*pw i*(s / 65536);omega
theorem Bf {r:List A4} (h:B2 r) (s:Int):B2 (r++[⟨s % 65536⟩]):=h.append (sQ ⟨kA _ uR,eM _ uR⟩)
section
attribute [local irreducible] uS pw
theorem qi (G:A3) (a b:Option Addr) (ca cb:Nat) (la lb:List A4) (ha:Arr G a la) (hb:Arr G b lb) (da:B2 la) (db:B2 lb) (h1:la.length≤1073741824) (h2:lb.length≤1073741824) :
 Does Tryz.prog 126 [.slice a la.length ca,.slice b lb.length cb] G [] (fun v G' Ho=>∃ o c r j,v=.slice o r.length c∧A5 o c r j∧Ho=[(0,o.map (·.block),Row 166 r j)]∧G'=G∧B2 r∧uS r=uS la+uS lb∧r.length≤max la.length lb.length+1):=by
 refine D0 Tryz.func126 Tryz.ntmps126 fun w=>?_;refine gA 0 (Row 166 ([]:List A4) []) ?_;refine dN 22 [] ?_;refine mW (ι:=Nat×Int×List A4×(Option Addr×Nat×List Value)) (fun (i,cy,r,(o,d,j))=>([(7,.int .i64 (i:Int)),(6,.int .u32 cy),(5,.slice o r.length d),(4,.slice none 0 0),(0,.slice a (List.length la) ca),(1,.slice b (List.length lb) cb)],[(0,o.map (·.block),Row 166 r j)])) (fun (i,cy,r,(o,d,j))=>r.length=i∧(i≤max la.length lb.length∨(i≤max la.length lb.length+1∧cy=0))∧0≤cy∧cy≤1∧B2 r∧uS (la.take i)+uS (lb.take i)=uS r+pw i*cy∧A5 o d r j) (fun (i,cy,r,(o,d,j))=>2*(max la.length lb.length - i)+cy.toNat) ((0,0,[],(none,0,[]))) (⟨U,.inl (aS _),by decide,by decide,tU,by rw [bX,bX,bV,cH,xO];rfl,fN⟩) ⟨U,U,U,U,U,U,I8⟩ ⟨U,I8⟩ fun ⟨i,cy,r,(o,d,j)⟩=>fun hk=>?_;obtain ⟨hri,hiM,hc0,hc1,hdr,hv,hob⟩:=hk;rcases aK i la.length with hia | hia
 · have da1:0≤(la[(i:Int).toNat]?.getD default).v∧(la[(i:Int).toNat]?.getD default).v<65536:=Je da hia;rcases aK i lb.length with hib | hib
   · have db1:0≤(lb[(i:Int).toNat]?.getD default).v∧(lb[(i:Int).toNat]?.getD default).v<65536:=Je db hib;refine aL 8 [] ?_;refine Zv 12 ?_;refine aN 30 [1,1] ?_;refine fF (α:=A4) T.sl87 ?_;refine iT 0 T.one166 ?_;refine aT (mB U U uJ) ?_;refine aN 17 [1] ?_;refine fF (α:=A4) T.sl87 ?_;refine iT 0 T.one166 ?_;refine aT (mB U U uJ) ?_;refine aN 7 [] ?_;refine aT (mG U U uJ) ?_;refine eV (α:=A4) 1 [⟨(cy+Go.Sl.A4.v (Option.getD la[Int.toNat (↑i:Int)]? Inhabited.default)+Go.Sl.A4.v (Option.getD lb[Int.toNat (↑i:Int)]? Inhabited.default)) % 65536⟩] U T.sl87 T.el166 U U U U U fun b1=>?_;refine qG (α:=A4) 0 T.sl87 T.el166 (fP 1 U) fun a1 c1 junk1 ho1=>?_;refine aN 5 [] ?_;refine aT (sT U U uJ) ?_;refine bA 9 [] ?_;refine eH ((i+1,(cy+(la[(i:Int).toNat]?.getD default).v+(lb[(i:Int).toNat]?.getD default).v) / 65536,_,(a1,c1,junk1))) ?_ ?_
     · exact ⟨by rw [aI,hri];rfl,by omega,by omega,by omega,Bf hdr _,Fw hri hv (by rfl),ho1⟩
     show 2*(max la.length lb.length - (i+1))+((cy+(la[(i:Int).toNat]?.getD default).v+(lb[(i:Int).toNat]?.getD default).v) / 65536).toNat<2*(max la.length lb.length - i)+cy.toNat;omega
   have z:=Ld hib;refine aL 8 [] ?_;refine Zv 12 ?_;refine aN 30 [1,1] ?_;refine fF (α:=A4) T.sl87 ?_;refine iT 0 T.one166 ?_;refine aT (mB U U uJ) ?_;refine aN 19 [0] ?_;refine aT (mG U U uJ) ?_;refine eV (α:=A4) 1 [⟨(cy+Go.Sl.A4.v (Option.getD la[Int.toNat (↑i:Int)]? Inhabited.default)) % 65536⟩] U T.sl87 T.el166 U U U U U fun b1=>?_;refine qG (α:=A4) 0 T.sl87 T.el166 (fP 1 U) fun a1 c1 junk1 ho1=>?_;refine aN 5 [] ?_;refine aT (sT U U uJ) ?_;refine bA 9 [] ?_;refine eH ((i+1,(cy+(la[(i:Int).toNat]?.getD default).v) / 65536,_,(a1,c1,junk1))) ?_ ?_
   · exact ⟨by rw [aI,hri];rfl,by omega,by omega,by omega,Bf hdr _,Fw hri hv (by rw [z,cH];rfl),ho1⟩
   show 2*(max la.length lb.length - (i+1))+((cy+(la[(i:Int).toNat]?.getD default).v) / 65536).toNat<2*(max la.length lb.length - i)+cy.toNat;omega
 have z:=Ld hia;rcases aK i lb.length with hib | hib
 · have db1:0≤(lb[(i:Int).toNat]?.getD default).v∧(lb[(i:Int).toNat]?.getD default).v<65536:=Je db hib;refine aL 8 [] ?_;refine pR 12 ?_;refine aF 10 [] ?_;refine Zv 18 ?_;refine aN 36 [1,0,1] ?_;refine fF (α:=A4) T.sl87 ?_;refine iT 0 T.one166 ?_;refine aT (mB U U uJ) ?_;refine aN 7 [] ?_;refine aT (mG U U uJ) ?_;refine eV (α:=A4) 1 [⟨(cy+Go.Sl.A4.v (Option.getD lb[Int.toNat (↑i:Int)]? Inhabited.default)) % 65536⟩] U T.sl87 T.el166 U U U U U fun b1=>?_;refine qG (α:=A4) 0 T.sl87 T.el166 (fP 1 U) fun a1 c1 junk1 ho1=>?_;refine aN 5 [] ?_;refine aT (sT U U uJ) ?_;refine bA 9 [] ?_;refine eH ((i+1,(cy+(lb[(i:Int).toNat]?.getD default).v) / 65536,_,(a1,c1,junk1))) ?_ ?_
   · exact ⟨by rw [aI,hri];rfl,by omega,by omega,by omega,Bf hdr _,Fw hri hv (by rw [z,cH];rfl),ho1⟩
   show 2*(max la.length lb.length - (i+1))+((cy+(lb[(i:Int).toNat]?.getD default).v) / 65536).toNat<2*(max la.length lb.length - i)+cy.toNat;omega
 have z2:=Ld hib;by_cases hcy:0<cy
 · refine aL 8 [] ?_;refine pR 12 ?_;refine aF 10 [] ?_;refine pR 18 ?_;refine aN 40 [1,0,0] ?_;refine aT (mG U U uJ) ?_;refine eV (α:=A4) 1 [⟨cy % 65536⟩] U T.sl87 T.el166 U U U U U fun b1=>?_;refine qG (α:=A4) 0 T.sl87 T.el166 (fP 1 U) fun a1 c1 junk1 ho1=>?_;refine aN 5 [] ?_;refine aT (sT U U uJ) ?_;refine bA 9 [] ?_;refine eH ((i+1,(cy) / 65536,_,(a1,c1,junk1))) ?_ ?_
   · exact ⟨by rw [aI,hri];rfl,by omega,by omega,by omega,Bf hdr _,Fw hri hv (by rw [z,z2];omega),ho1⟩
   show 2*(max la.length lb.length - (i+1))+((cy) / 65536).toNat<2*(max la.length lb.length - i)+cy.toNat;omega
 have e0:cy=0:=uJ;subst e0;rw [vB hia,vB hib,bV,cH] at hv;refine aL 8 [] ?_;refine pR 12 ?_;refine aF 10 [] ?_;refine pR 18 ?_;refine bA 20 [0] ?_;refine rT [0] ?_;exact ⟨_,_,_,_,U,hob,U,U,hdr,hv.symm,by omega⟩
theorem Dw {la lb r:List A4} {i:Nat} {cy cy' s:Int} (hri:r.length=i) (hv:uS (la.take i) - uS (lb.take i)=uS r - pw i*cy) (hs:s=dg la i - dg lb i - cy+65536*cy') :
 uS (la.take (i+1)) - uS (lb.take (i+1))=uS (r++[⟨s⟩]) - pw (i+1)*cy':=by
 rw [Ak,Ak,Fv,hri,Dq];have h:pw i*s=pw i*dg la i - pw i*dg lb i - pw i*cy+65536*pw i*cy':=by
  rw [hs,bQ,kD,kD,←dA,cW (pw i) 65536]
 show _=uS r+pw i*s - 65536*pw i*cy';omega
theorem LC {la lb r:List A4} {n:Nat} {cy:Int} (hn:n=la.length) (hb:lb.length≤la.length) (hle:uS lb≤uS la) (hri:r.length=n) (hd:B2 r) (hc:0≤cy∧cy≤1) (hv:uS (la.take n) - uS (lb.take n)=uS r - pw n*cy):uS r=uS la - uS lb:=by
 rw [vB uJ,vB uJ] at hv;have h:=Dr hd;rw [hri] at h;have hcy:cy=0:=by
  rcases (show cy=0∨cy=1 by omega) with h1 | h1
  · exact h1
  rw [h1,gR] at hv;omega
 rw [hcy,bV] at hv;omega
theorem im (G:A3) (a b:Option Addr) (ca cb:Nat) (la lb:List A4) (ha:Arr G a la) (hb:Arr G b lb) (da:B2 la) (db:B2 lb) (h1:la.length≤1073741824) (h2:lb.length≤la.length) (hle:uS lb≤uS la) :
 Does Tryz.prog 128 [.slice a la.length ca,.slice b lb.length cb] G [] (fun v G' Ho=>∃ o c r j,v=.slice o r.length c∧A5 o c r j∧Ho=[(0,o.map (·.block),Row 166 r j)]∧G'=G∧B2 r∧uS r=uS la - uS lb∧r.length=la.length):=by
 refine D0 Tryz.func128 Tryz.ntmps128 fun w=>?_;refine gA 0 (Row 166 ([]:List A4) []) ?_;refine dN 22 [] ?_;refine mW (ι:=Nat×Int×List A4×(Option Addr×Nat×List Value)) (fun (i,cy,r,(o,d,j))=>([(7,.int .i64 (i:Int)),(6,.int .u32 cy),(5,.slice o r.length d),(4,.slice none 0 0),(0,.slice a (List.length la) ca),(1,.slice b (List.length lb) cb)],[(0,o.map (·.block),Row 166 r j)])) (fun (i,cy,r,(o,d,j))=>r.length=i∧i≤la.length∧0≤cy∧cy≤1∧B2 r∧uS (la.take i) - uS (lb.take i)=uS r - pw i*cy∧A5 o d r j) (fun (i,cy,r,(o,d,j))=>la.length - i) ((0,0,[],(none,0,[]))) (⟨U,aS _,by decide,by decide,tU,by rw [bX,bX,bV,qA,Int.sub_self,xO],fN⟩) ⟨U,U,U,U,U,U,I8⟩ ⟨U,I8⟩ fun ⟨i,cy,r,(o,d,j)⟩=>fun hk=>?_;obtain ⟨hri,hiM,hc0,hc1,hdr,hv,hob⟩:=hk;rcases aK i la.length with hia | hia
 · have da1:0≤(la[(i:Int).toNat]?.getD default).v∧(la[(i:Int).toNat]?.getD default).v<65536:=Je da hia;rcases aK i lb.length with hib | hib
   · have db1:0≤(lb[(i:Int).toNat]?.getD default).v∧(lb[(i:Int).toNat]?.getD default).v<65536:=Je db hib;by_cases hlt:(la[((i:Nat):Int).toNat]?.getD default).v<cy+(lb[((i:Nat):Int).toNat]?.getD default).v
     · refine aL 34 [1,1] ?_;refine fF (α:=A4) T.sl87 ?_;refine iT 0 T.one166 ?_;refine aT (mB U U uJ) ?_;refine aN 12 [] ?_;refine fF (α:=A4) T.sl87 ?_;refine iT 0 T.one166 ?_;refine aN 15 [1] ?_;refine aT (mB U U uJ) ?_;refine aN 11 [] ?_;refine aT (tY U U uJ) ?_;refine eV (α:=A4) 1 [⟨Go.Sl.A4.v (Option.getD la[Int.toNat (↑i:Int)]? Inhabited.default)+65536 - (cy+Go.Sl.A4.v (Option.getD lb[Int.toNat (↑i:Int)]? Inhabited.default))⟩] U T.sl87 T.el166 U U U U U fun b1=>?_;refine qG (α:=A4) 0 T.sl87 T.el166 (fP 1 U) fun a1 c1 junk1 ho1=>?_;refine bA 9 [] ?_;refine eH ((i+1,1,_,(a1,c1,junk1))) ?_ ?_
       · exact ⟨by rw [aI,hri];rfl,by omega,by decide,by decide,hdr.append (sQ uJ),Dw hri hv (by unfold dg;omega),ho1⟩
       show la.length - (i+1)<la.length - i;omega
     refine aL 34 [1,1] ?_;refine fF (α:=A4) T.sl87 ?_;refine iT 0 T.one166 ?_;refine aT (mB U U uJ) ?_;refine aN 12 [] ?_;refine fF (α:=A4) T.sl87 ?_;refine iT 0 T.one166 ?_;refine aN 18 [0] ?_;refine aT (tY U U uJ) ?_;refine eV (α:=A4) 1 [⟨Go.Sl.A4.v (Option.getD la[Int.toNat (↑i:Int)]? Inhabited.default) - (cy+Go.Sl.A4.v (Option.getD lb[Int.toNat (↑i:Int)]? Inhabited.default))⟩] U T.sl87 T.el166 U U U U U fun b1=>?_;refine qG (α:=A4) 0 T.sl87 T.el166 (fP 1 U) fun a1 c1 junk1 ho1=>?_;refine bA 9 [] ?_;refine eH ((i+1,0,_,(a1,c1,junk1))) ?_ ?_
     · exact ⟨by rw [aI,hri];rfl,by omega,by decide,by decide,hdr.append (sQ uJ),Dw hri hv (by unfold dg;omega),ho1⟩
     show la.length - (i+1)<la.length - i;omega
   have z:=Ld hib;by_cases hlt:(la[((i:Nat):Int).toNat]?.getD default).v<cy
   · refine aL 41 [1,0] ?_;refine fF (α:=A4) T.sl87 ?_;refine iT 0 T.one166 ?_;refine aN 15 [1] ?_;refine aT (mB U U uJ) ?_;refine aN 11 [] ?_;refine aT (tY U U uJ) ?_;refine eV (α:=A4) 1 [⟨Go.Sl.A4.v (Option.getD la[Int.toNat (↑i:Int)]? Inhabited.default)+65536 - cy⟩] U T.sl87 T.el166 U U U U U fun b1=>?_;refine qG (α:=A4) 0 T.sl87 T.el166 (fP 1 U) fun a1 c1 junk1 ho1=>?_;refine bA 9 [] ?_;refine eH ((i+1,1,_,(a1,c1,junk1))) ?_ ?_
     · exact ⟨by rw [aI,hri];rfl,by omega,by decide,by decide,hdr.append (sQ uJ),Dw hri hv (by rw [z];unfold dg;omega),ho1⟩
     show la.length - (i+1)<la.length - i;omega
   refine aL 41 [1,0] ?_;refine fF (α:=A4) T.sl87 ?_;refine iT 0 T.one166 ?_;refine aN 18 [0] ?_;refine aT (tY U U uJ) ?_;refine eV (α:=A4) 1 [⟨Go.Sl.A4.v (Option.getD la[Int.toNat (↑i:Int)]? Inhabited.default) - cy⟩] U T.sl87 T.el166 U U U U U fun b1=>?_;refine qG (α:=A4) 0 T.sl87 T.el166 (fP 1 U) fun a1 c1 junk1 ho1=>?_;refine bA 9 [] ?_;refine eH ((i+1,0,_,(a1,c1,junk1))) ?_ ?_
   · exact ⟨by rw [aI,hri];rfl,by omega,by decide,by decide,hdr.append (sQ uJ),Dw hri hv (by rw [z];unfold dg;omega),ho1⟩
   show la.length - (i+1)<la.length - i;omega
 refine cJ 22 [0] ?_;refine rT [0] ?_;exact ⟨_,_,_,_,U,hob,U,U,hdr,LC uJ h2 hle hri hdr ⟨hc0,hc1⟩ hv,by omega⟩
end
theorem Uk (l:List A4) {m:Nat} (h:m≤l.length):uS l=uS (l.take m)+pw m*uS (l.drop m):=by
 have e:uS l=uS (l.take m++l.drop m):=by rw [dF]
 rw [e,Ch,bI,dE h]
theorem ar {x y:A4} (h:x.v=y.v):x=y:=by cases x;cases y;simp only at h;rw [h]
theorem Um {la lb:List A4} {k:Nat} (hn:la.length=lb.length) (h:∀ j,k≤j→j<la.length→dg la j=dg lb j):la.drop k=lb.drop k:=by
 apply dW;intro j;rw [eW,eW];rcases aK (k+j) la.length with hj | hj
 · have:=h (k+j) uJ hj;unfold dg at this;rw [aH,aA hj,aA uJ] at this;rw [aA hj,aA uJ];exact congrArg some (ar this)
 rw [bF hj,bF uJ]
theorem HS {la lb:List A4} {k:Nat} (hn:la.length=lb.length) (hk:k<la.length) (da:B2 la) (db:B2 lb) (h:∀ j,k+1≤j→j<la.length→dg la j=dg lb j) (hlt:dg la k<dg lb k):uS la<uS lb:=by
 have e1:=Uk la (m:=k+1) uJ;have e2:=Uk lb (m:=k+1) uJ;rw [Ak,Um hn h] at e1;rw [Ak] at e2;have h1:=Dr (da.take k);have h2:=wO (db.take k);rw [bI,dE uJ] at h1;have h3:=bG (show dg la k+1≤dg lb k by omega) (cN (Lb k));rw [bQ,gR] at h3;omega
section
attribute [local irreducible] uS pw vJ
theorem io (G:A3) (a b:Option Addr) (ca cb:Nat) (la lb:List A4) (ha:Arr G a la) (hb:Arr G b lb) (da:B2 la) (db:B2 lb) (ta:E8 la) (tb:E8 lb) (h1:la.length≤1073741824) (h2:lb.length≤1073741824) :
 Does Tryz.prog 127 [.slice a la.length ca,.slice b lb.length cb] G [] (fun v G' Ho=>v=.int .i64 (vJ (uS la) (uS lb))∧G'=G∧Ho=[]):=by
 refine D0 Tryz.func127 Tryz.ntmps127 fun w=>?_;by_cases hn:la.length=lb.length
 · refine dN 28 [0] ?_;refine kL (ι:=Nat) (fun k=>([(5,.int .i64 ((k:Int) - 1)),(0,.slice a (List.length la) ca),(1,.slice b (List.length lb) cb)],[])) (fun k=>k≤la.length∧∀ j,k≤j→j<la.length→dg la j=dg lb j) (fun k=>k) (la.length) (⟨aG _,fun j h1 h2=>absurd h2 uJ⟩) fun k=>fun hk=>?_;obtain ⟨hk1,hz⟩:=hk;rcases dD k with rfl | hpos
   · refine cJ 19 [0] ?_;refine cZ ?_;have e:la=lb:=by
      have:=Um (k:=0) hn hz;simpa using this
     exact ⟨by rw [e,Iy rfl],U,U⟩
   have e1:(la[((k:Int) - 1).toNat]?.getD default).v=dg la (k - 1):=by
    unfold dg;rw [show (((k:Nat):Int) - 1).toNat=((k - 1:Nat):Int).toNat by omega]
   have e2:(lb[((k:Int) - 1).toNat]?.getD default).v=dg lb (k - 1):=by
    unfold dg;rw [show (((k:Nat):Int) - 1).toNat=((k - 1:Nat):Int).toNat by omega]
   have hz':∀ j,(k - 1)+1≤j→j<la.length→dg la j=dg lb j:=fun j h1 h2=>hz j uJ h2;refine dN 14 [1] ?_;refine gK [] [] T.mixed [[0],[1]] ?_;refine qN (α:=A4) 2 T.sl87 ?_;refine rS 3 [] 0 T.one166 ?_;refine gS [[4],[5]] ?_;refine qN (α:=A4) 6 T.sl87 ?_;refine rS 7 [] 0 T.one166 ?_;refine gS [[8]] ?_;refine eI ?_;refine bE ?_;refine hZ (fun hc1=>?_) fun hc1=>?_;refine cJ 12 [] ?_;refine cZ ?_;rotate_left;refine dN 3 [] ?_;refine gK [] [] T.mixed [[0],[1]] ?_;refine qN (α:=A4) 2 T.sl87 ?_;refine rS 3 [] 0 T.one166 ?_;refine gS [[4],[5]] ?_;refine qN (α:=A4) 6 T.sl87 ?_;refine rS 7 [] 0 T.one166 ?_;refine gS [[8]] ?_;refine eI ?_;refine bE ?_;refine hZ (fun hc2=>?_) fun hc2=>?_;refine cJ 11 [] ?_;refine cZ ?_;rotate_left;refine cJ 8 [] ?_;rotate_left
   · exact ⟨by rw [Ci (HS hn uJ da db hz' uJ)],U,U⟩
   · exact ⟨by rw [Dv (HS hn.symm uJ db da (fun j h1 h2=>(hz' j h1 uJ).symm) uJ)],U,U⟩
   refine dH 5 U (show _=Value.int .i64 (((k - 1:Nat):Int) - 1) by congr 1;omega) ?_;refine eH (k - 1) ?_ ?_
   · refine ⟨by omega,fun j h1 h2=>?_⟩;rcases aK j k with h3 | h3
     · have e:j=k - 1:=uJ;rw [e];omega
     exact hz j h3 h2
   omega
 by_cases hlt:la.length<lb.length
 · refine cJ 35 [1,1] ?_;refine cZ ?_;exact ⟨by rw [Ci (Ds da db tb hlt)],U,U⟩
 refine cJ 36 [1,0] ?_;refine cZ ?_;exact ⟨by rw [Dv (Ds db da ta uJ)],U,U⟩
end
section
attribute [local irreducible] uS pw vJ
theorem Un {a b:Nat} (h:pw a<pw b):a<b:=by
 rcases aK a b with h1 | h1
 · exact h1
 have:=Zs h1;omega
theorem HT {r:List A4} {u m:Int} (h:uS r+pw r.length*u=m):uS (r++[(⟨u % 65536⟩:A4)])+pw (r++[(⟨u % 65536⟩:A4)]).length*(u / 65536)=m:=by
 rw [Fv,aI,gJ,Dq];have:=QL (pw r.length) u;show uS r+pw r.length*(u % 65536)+65536*pw r.length*(u / 65536)=m;omega
theorem QM {r:List A4} {u m:Int} (h:uS r+pw r.length*u=m) (hd:B2 r) (hu:0<u) (hm:m≤9223372036854775808):r.length<4:=by
 have h1:=wO hd;have h2:=bG (show (1:Int)≤u by omega) (cN (Lb r.length));refine Un ?_;have h3:pw 4=18446744073709551616:=by unfold pw;decide
 omega
theorem c59 (G:A3) (n:Int) (hn:-9223372036854775808≤n∧n≤9223372036854775807) :
 Does Tryz.prog 59 [.int .i64 n] G [] (fun v G' Ho=>∃ r:IV,v=.agg #[.bool r.neg,.slice r.a r.n r.c]∧F4 G' r n∧Ho=[]):=by
 refine D0 Tryz.func59 Tryz.ntmps59 fun w=>?_;refine gA 0 (Row 166 ([]:List A4) []) ?_;by_cases hneg:n<0
 · refine aL 2 [] ?_;refine bB 1 U T.zero93 fun b1=>?_;refine aN 5 [] ?_;refine aT (jM U T.u165 U) ?_;refine aN 13 [1] ?_;refine aT (nN U) ?_;refine bY 10 [] ?_;refine iD 3 U (show _=Value.int .u64 (-n) by rw [AG ⟨hn.1,hneg⟩]) ?_;refine mW (ι:=Int×List A4×(Option Addr×Nat×List Value)) (fun (u,r,(o,d,j))=>([(3,.int .u64 u),(4,.slice o r.length d),(2,.pointer (some ⟨b1,0,none⟩)),(0,.int .i64 n)],[(0,o.map (·.block),Row 166 r j),(1,some b1,.cells #[.bool Bool.false,.slice none 0 0] 93)])) (fun (u,r,(o,d,j))=>0≤u∧u≤9223372036854775808∧B2 r∧uS r+pw r.length*u=n.natAbs∧r.length≤4∧A5 o d r j) (fun (u,r,(o,d,j))=>u.toNat) ((-n,[],(none,0,[]))) (⟨by omega,by omega,tU,by rw [xO,cR,Nj];omega,by decide,fN⟩) ⟨U,U,U,U,I8⟩ ⟨U,U,I8⟩ fun ⟨u,r,(o,d,j)⟩=>fun hk=>?_;obtain ⟨hu0,hu1,hdr,hv,hrl,hob⟩:=hk;by_cases hu:0<u
   · have hl4:=QM hv hdr hu uJ;refine aL 15 [1] ?_;refine aT (mG U U uJ) ?_;refine aT (iO U T.u166 U uJ) ?_;refine eV (α:=A4) 2 [⟨u % 65536⟩] U T.sl87 T.el166 U U U U U fun b2=>?_;refine qG (α:=A4) 0 T.sl87 T.el166 (fP 2 U) fun a1 c1 junk1 ho1=>?_;refine aN 5 [] ?_;refine aT (qC U U uJ) ?_;refine bA 3 [] ?_;refine eH ((u / 65536,_,(a1,c1,junk1))) ?_ ?_
     · exact ⟨by omega,by omega,Bf hdr _,HT hv,by rw [aI];show r.length+1≤4;omega,ho1⟩
     show (u / 65536).toNat<u.toNat;omega
   have hu:u=0:=uJ;subst hu;rw [bV,cH] at hv;refine aL 18 [0] ?_;have hcap:=hob.le;refine eC 0 U hob fun G1 hle1 hA=>?_;refine cQ 2 U (AI _ _ _ _ _ uK uJ uK) fun v2 G2 Ho2 hle2 hp=>?_;obtain ⟨tn2,rfl,htr2,rfl,rfl⟩:=hp;refine bA 4 [1] ?_;refine cP (.inr U) (Ho:=Hp.only _ []) U (.agg 1 U U T.agg93) (aV _ _) ?_;refine ⟨⟨decide (n<0) && decide (0<tn2),C4 o d 0 1,tn2,d⟩,U,?_,U⟩;have e:=htr2.num hdr hA hcap (decide (n<0));have e2:(if decide (n<0)=true then -uS r else uS r)=n:=by
    rw [hv];by_cases h:n<0
    · rw [aM (by simpa using h)];omega
    rw [aE (by simpa using h)];omega
   rw [e2] at e;exact e
 refine aL 2 [] ?_;refine bB 1 U T.zero93 fun b1=>?_;refine aN 5 [] ?_;refine aT (cI U T.u165 U uJ) ?_;refine bY 20 [0] ?_;refine mW (ι:=Int×List A4×(Option Addr×Nat×List Value)) (fun (u,r,(o,d,j))=>([(3,.int .u64 u),(4,.slice o r.length d),(2,.pointer (some ⟨b1,0,none⟩)),(0,.int .i64 n)],[(0,o.map (·.block),Row 166 r j),(1,some b1,.cells #[.bool Bool.false,.slice none 0 0] 93)])) (fun (u,r,(o,d,j))=>0≤u∧u≤9223372036854775808∧B2 r∧uS r+pw r.length*u=n.natAbs∧r.length≤4∧A5 o d r j) (fun (u,r,(o,d,j))=>u.toNat) ((n,[],(none,0,[]))) (⟨by omega,by omega,tU,by rw [xO,cR,Nj];omega,by decide,fN⟩) ⟨U,U,U,U,I8⟩ ⟨U,U,I8⟩ fun ⟨u,r,(o,d,j)⟩=>fun hk=>?_;obtain ⟨hu0,hu1,hdr,hv,hrl,hob⟩:=hk;by_cases hu:0<u
 · have hl4:=QM hv hdr hu uJ;refine aL 15 [1] ?_;refine aT (mG U U uJ) ?_;refine aT (iO U T.u166 U uJ) ?_;refine eV (α:=A4) 2 [⟨u % 65536⟩] U T.sl87 T.el166 U U U U U fun b2=>?_;refine qG (α:=A4) 0 T.sl87 T.el166 (fP 2 U) fun a1 c1 junk1 ho1=>?_;refine aN 5 [] ?_;refine aT (qC U U uJ) ?_;refine bA 3 [] ?_;refine eH ((u / 65536,_,(a1,c1,junk1))) ?_ ?_
   · exact ⟨by omega,by omega,Bf hdr _,HT hv,by rw [aI];show r.length+1≤4;omega,ho1⟩
   show (u / 65536).toNat<u.toNat;omega
 have hu:u=0:=uJ;subst hu;rw [bV,cH] at hv;refine aL 18 [0] ?_;have hcap:=hob.le;refine eC 0 U hob fun G1 hle1 hA=>?_;refine cQ 2 U (AI _ _ _ _ _ uK uJ uK) fun v2 G2 Ho2 hle2 hp=>?_;obtain ⟨tn2,rfl,htr2,rfl,rfl⟩:=hp;refine bA 4 [1] ?_;refine cP (.inr U) (Ho:=Hp.only _ []) U (.agg 1 U U T.agg93) (aV _ _) ?_;refine ⟨⟨decide (n<0) && decide (0<tn2),C4 o d 0 1,tn2,d⟩,U,?_,U⟩;have e:=htr2.num hdr hA hcap (decide (n<0));have e2:(if decide (n<0)=true then -uS r else uS r)=n:=by
  rw [hv];by_cases h:n<0
  · rw [aM (by simpa using h)];omega
  rw [aE (by simpa using h)];omega
 rw [e2] at e;exact e
theorem c74 (G:A3) (n1 n2:Bool) (a b:Option Addr) (ca cb:Nat) (la lb:List A4) (x y:Int) (ha:Arr G a la) (hb:Arr G b lb) (hx:F2 n1 la x) (hy:F2 n2 lb y) (h1:la.length≤1073741824) (h2:lb.length≤1073741824) :
 Does Tryz.prog 74 [.agg #[.bool n1,.slice a la.length ca],.agg #[.bool n2,.slice b lb.length cb]] G [] (fun v G' Ho=>∃ r:IV,v=.agg #[.bool r.neg,.slice r.a r.n r.c]∧F4 G' r (x+y)∧Ho=[]):=by
 have da:=hx.digs;have db:=hy.digs;have ta:=hx.top;have tb:=hy.top;refine D0 Tryz.func74 Tryz.ntmps74 fun w=>?_;by_cases hs:n1=n2
 · refine aL 2 [] ?_;refine fK 0 fun b1=>?_;refine fK 1 fun b2=>?_;refine bB 2 U T.zero93 fun b3=>?_;refine aN 9 [0,1] ?_;refine aT (rL T.u4 U U) ?_;refine bY 4 [1] ?_;refine gK [0,1,2] [(2,8)] T.mixed [[0],[1,0],[2],[3,0],[4],[5,1]] ?_;refine fC 6 ?_;refine cQ 3 U (qi _ _ _ _ _ _ _ uK uK uK uK uK uK) fun v1 G1 Ho1 hle1 hp=>?_;obtain ⟨po1,pc1,pr1,pj1,rfl,hpo1,rfl,rfl,hpd1,hpv1,hpl1⟩:=hp;refine eD 7 ?_;have hcap:=hpo1.le;refine eC 3 U hpo1 fun G9 hle9 hA=>?_;refine cQ 4 U (AI _ _ _ _ _ uK uJ uK) fun v2 G2 Ho2 hle2 hp=>?_;obtain ⟨tn2,rfl,htr2,rfl,rfl⟩:=hp;refine eD 8 ?_;refine aF 1 [2] ?_;refine lC ?_;refine iN 3 [] ?_;refine cP (.inr U) (Ho:=Hp.only _ []) U (.agg 2 U U T.agg93) (aV _ _) ?_;refine ⟨⟨n1 && decide (0<tn2),C4 po1 pc1 0 1,tn2,pc1⟩,U,?_,U⟩;have e:=htr2.num hpd1 hA hcap n1;have e2:(if n1=true then -uS pr1 else uS pr1)=x+y:=by
    rw [hpv1,hx.val,hy.val];revert hs;cases n1 <;> cases n2 <;> simp <;> omega
   rw [e2] at e;exact e
 by_cases hle:uS lb≤uS la
 · have hcmp:0≤vJ (uS la) (uS lb):=by
    rcases Int.lt_or_eq_of_le hle with h | h
    · rw [Dv h];decide
    rw [Iy h.symm];decide
   have hll:lb.length≤la.length:=by
    rcases aK la.length lb.length with h | h
    · have:=Ds da db tb h;omega
    exact h
   refine aL 2 [] ?_;refine fK 0 fun b1=>?_;refine fK 1 fun b2=>?_;refine bB 2 U T.zero93 fun b3=>?_;refine aN 9 [0,1] ?_;refine aT (rL T.u4 U U) ?_;refine aN 12 [0,0,1] ?_;refine dC U (io _ _ _ _ _ _ _ uK uK uK uK uK uK uK uK) ?_;refine bY 5 [1] ?_;refine gK [0,1,2] [(2,8)] T.mixed [[0],[1,0],[2],[3,0],[4],[5,1]] ?_;refine fC 6 ?_;refine cQ 3 U (im _ _ _ _ _ _ _ uK uK uK uK uK uK uK) fun v1 G1 Ho1 hle1 hp=>?_;obtain ⟨po1,pc1,pr1,pj1,rfl,hpo1,rfl,rfl,hpd1,hpv1,hpl1⟩:=hp;refine eD 7 ?_;have hcap:=hpo1.le;refine eC 3 U hpo1 fun G9 hle9 hA=>?_;refine cQ 4 U (AI _ _ _ _ _ uK uJ uK) fun v2 G2 Ho2 hle2 hp=>?_;obtain ⟨tn2,rfl,htr2,rfl,rfl⟩:=hp;refine eD 8 ?_;refine aF 1 [2] ?_;refine lC ?_;refine iN 3 [] ?_;refine cP (.inr U) (Ho:=Hp.only _ []) U (.agg 2 U U T.agg93) (aV _ _) ?_;refine ⟨⟨n1 && decide (0<tn2),C4 po1 pc1 0 1,tn2,pc1⟩,U,?_,U⟩;have e:=htr2.num hpd1 hA hcap n1;have e2:(if n1=true then -uS pr1 else uS pr1)=x+y:=by
    rw [hpv1,hx.val,hy.val];revert hs;cases n1 <;> cases n2 <;> simp <;> omega
   rw [e2] at e;exact e
 have hcmp:¬0≤vJ (uS la) (uS lb):=by rw [Ci uJ];decide
 have hge9:uS la≤uS lb:=uJ;have hll:la.length≤lb.length:=by
  rcases aK lb.length la.length with h | h
  · have:=Ds db da ta h;omega
  exact h
 refine aL 2 [] ?_;refine fK 0 fun b1=>?_;refine fK 1 fun b2=>?_;refine bB 2 U T.zero93 fun b3=>?_;refine aN 9 [0,1] ?_;refine aT (rL T.u4 U U) ?_;refine aN 12 [0,0,1] ?_;refine dC U (io _ _ _ _ _ _ _ uK uK uK uK uK uK uK uK) ?_;refine bY 7 [0] ?_;refine gK [0,1,2] [(2,8)] T.mixed [[0],[1,1],[2],[3,1],[4],[5,0]] ?_;refine fC 6 ?_;refine cQ 3 U (im _ _ _ _ _ _ _ uK uK uK uK uK uK uK) fun v1 G1 Ho1 hle1 hp=>?_;obtain ⟨po1,pc1,pr1,pj1,rfl,hpo1,rfl,rfl,hpd1,hpv1,hpl1⟩:=hp;refine eD 7 ?_;have hcap:=hpo1.le;refine eC 3 U hpo1 fun G9 hle9 hA=>?_;refine cQ 4 U (AI _ _ _ _ _ uK uJ uK) fun v2 G2 Ho2 hle2 hp=>?_;obtain ⟨tn2,rfl,htr2,rfl,rfl⟩:=hp;refine eD 8 ?_;refine aF 1 [2] ?_;refine lC ?_;refine iN 2 [] ?_;refine cP (.inr U) (Ho:=Hp.only _ []) U (.agg 2 U U T.agg93) (aV _ _) ?_;refine ⟨⟨n2 && decide (0<tn2),C4 po1 pc1 0 1,tn2,pc1⟩,U,?_,U⟩;have e:=htr2.num hpd1 hA hcap n2;have e2:(if n2=true then -uS pr1 else uS pr1)=x+y:=by
  rw [hpv1,hx.val,hy.val];revert hs;cases n1 <;> cases n2 <;> simp <;> omega
 rw [e2] at e;exact e
theorem WQ (G:A3) (x y:IV) (zx zy:Int) (hx:F4 G x zx) (hy:F4 G y zy) (h1:x.n≤1073741824) (h2:y.n≤1073741824) :
 Does Tryz.prog 74 [.agg (A2.enc x).toArray,.agg (A2.enc y).toArray] G [] (fun v G' Ho=>∃ r:IV,v=.agg (A2.enc r).toArray∧F4 G' r (zx+zy)∧Ho=[]):=by
 obtain ⟨n1,a,k1,ca⟩:=x;obtain ⟨n2,b,k2,cb⟩:=y;obtain ⟨la,hl,hlc,hA,hI⟩:=hx;obtain ⟨lb,hl',hlc',hA',hI'⟩:=hy;simp only at hl hlc hA hI hl' hlc' hA' hI' h1 h2;subst hl hl';exact c74 G n1 n2 a b ca cb la lb zx zy hA hA' hI hI' h1 h2
end
theorem AJ:∀ (l:List A4) (k:Nat) (d:A4),k<l.length→uS (l.set k d)=uS l+pw k*(d.v - dg l k)
 | [],k,d,h=>by simp at h
 | x :: l,0,d,_=>by
   rw [tE,wZ,wZ,Nj];show _=_+1*(d.v - x.v);omega
 | x :: l,k+1,d,h=>by
   have ih:=AJ l k d (by simpa using h);have e:dg (x :: l) (k+1)=dg l k:=by unfold dg;rw [aH,aH,gP]
   rw [tF,wZ,wZ,ih,Dq,e,bQ,←dA];omega
theorem Ph {l:List A4} (h:B2 l) (k:Nat) {s:Int} (hs:0≤s∧s<65536):B2 (l.set k ⟨s⟩):=fun d hd=>by
 rcases kU hd with h1 | h1
 · exact h d h1
 subst h1;exact hs
theorem AK {r lb:List A4} {i j:Nat} {c s x A:Int} (hk:i+j<r.length) (hv:uS r+pw (i+j)*c=A+pw i*(x*uS (lb.take j))) (hs:s=c+dg r (i+j)+x*dg lb j) :
 uS (r.set (i+j) ⟨s % 65536⟩)+pw (i+(j+1))*(s / 65536)=A+pw i*(x*uS (lb.take (j+1))):=by
 rw [AJ r (i+j) ⟨s % 65536⟩ hk,Ak,←nK,Dq];have h1:=QL (pw (i+j)) s;have h2:pw (i+j)*s=pw (i+j)*c+pw (i+j)*dg r (i+j)+pw (i+j)*(x*dg lb j):=by rw [hs,bQ,bQ]
 have h3:pw i*(x*(uS (lb.take j)+pw j*dg lb j))=pw i*(x*uS (lb.take j))+pw (i+j)*(x*dg lb j):=by
  rw [bQ,bQ,PC];congr 1;rw [dA,←dA x,cW x (pw j),dA]
 have h4:pw (i+j)*(s % 65536 - dg r (i+j))=pw (i+j)*(s % 65536) - pw (i+j)*dg r (i+j):=kD _ _ _;show uS r+pw (i+j)*(s % 65536 - dg r (i+j))+65536*pw (i+j)*(s / 65536)=_;rw [h3,h4];omega
theorem HU {la lb:List A4} {i j:Nat} {v:Int} (hj:lb.length≤j) (h:v=uS (la.take i)*uS lb+pw i*(dg la i*uS (lb.take j))):v=uS (la.take (i+1))*uS lb:=by
 rw [h,vB hj,Ak,kE,dA]
theorem au {a b c d:Int} (ha:0≤a) (hb:0≤b) (h1:a<c) (h2:b<d):a*b<c*d:=by
 have e1:a*b≤a*d:=bG (cN h2) ha;have e2:a*d<c*d:=mI h1 uJ;omega
theorem LD {la lb r:List A4} {i j:Nat} {c:Int} (da:B2 la) (db:B2 lb) (hi:i<la.length) (hj:lb.length≤j) (hdr:B2 r) (hc:0<c) (hv:uS r+pw (i+j)*c=uS (la.take i)*uS lb+pw i*(dg la i*uS (lb.take j))):j≤lb.length:=by
 have h1:=HU hj hv;have h2:=Dr (da.take (i+1));rw [bI,dE uJ] at h2;have h3:=au (wO (da.take (i+1))) (wO db) h2 (Dr db);rw [←PC] at h3;have h4:=wO hdr;have h5:=bG (show (1:Int)≤c by omega) (cN (Lb (i+j)));have h6:pw (i+j)<pw (i+1+lb.length):=uJ;have:=Un h6;omega
theorem AL {x y:Int} (hx:0≤x∧x<65536) (hy:0≤y∧y<65536):0≤x*y∧x*y≤4294836225:=by
 refine ⟨lH hx.1 hy.1,?_⟩;have h1:x*y≤65535*y:=eU uJ hy.1;omega
section
attribute [local irreducible] uS pw vJ
theorem c52 (G:A3) (n1 n2:Bool) (a b:Option Addr) (ca cb:Nat) (la lb:List A4) (x y:Int) (ha:Arr G a la) (hb:Arr G b lb) (hx:F2 n1 la x) (hy:F2 n2 lb y) (h1:la.length≤536870912) (h2:lb.length≤536870912) :
 Does Tryz.prog 52 [.agg #[.bool n1,.slice a la.length ca],.agg #[.bool n2,.slice b lb.length cb]] G [] (fun v G' Ho=>∃ r:IV,v=.agg #[.bool r.neg,.slice r.a r.n r.c]∧F4 G' r (x*y)∧Ho=[]):=by
 have da:=hx.digs;have db:=hy.digs;refine D0 Tryz.func52 Tryz.ntmps52 fun w=>?_;refine aL 2 [] ?_;refine fK 0 fun b1=>?_;refine fK 1 fun b2=>?_;refine bB 2 U T.zero93 fun b3=>?_;refine aN 12 [0,1] ?_;refine jL (α:=A4) 3 U T.sl87 T.el166 U U uJ uJ fun b4=>?_;refine bY 10 [] ?_;obtain ⟨N,hN⟩:∃ N,N=la.length+lb.length+1:=⟨_,U⟩
 have hM:((la.length:Int)+(lb.length:Int)+1).toNat=N:=uJ;rw [hM];have hown:∀ r:List A4,r.length=N→A5 (some ⟨b4,0,none⟩) N r []:=fun r hr=>.inr ⟨b4,U,by rw [hr];rfl,by omega,by simp only [maxLen];omega⟩;refine iD 5 U (show _=Value.slice (some ⟨b4,0,none⟩) (List.replicate N (default:A4)).length N by rw [aC]) ?_;refine kL (ι:=Nat×List A4) (fun (i,r)=>([(6,.int .i64 (i:Int)),(5,.slice (some ⟨b4,0,none⟩) r.length N),(4,.pointer (some (Addr.mk b3 0 none))),(3,.pointer (some ⟨b2,0,none⟩)),(2,.pointer (some ⟨b1,0,none⟩))],[(3,some b4,Row 166 r []),(2,some b3,.cells #[.bool Bool.false,.slice none 0 0] 93),(1,some b2,.cells #[.bool n2,.slice b (List.length lb) cb] 93),(0,some b1,.cells #[.bool n1,.slice a (List.length la) ca] 93)])) (fun (i,r)=>i≤la.length∧r.length=N∧B2 r∧uS r=uS (la.take i)*uS lb) (fun (i,r)=>la.length - i) ((0,List.replicate N (default:A4))) (⟨aS _,aC,Pb N,by rw [bX,xO,gM];exact Pa N⟩) fun ⟨i,r⟩=>fun hk=>?_;obtain ⟨hi,hrN,hdr,hv⟩:=hk;rcases aK i la.length with hia | hia
 · have hxi:0≤(la[(i:Int).toNat]?.getD default).v∧(la[(i:Int).toNat]?.getD default).v<65536:=Je da hia;refine dN 26 [0,1] ?_;refine kL (ι:=Nat×Int×List A4) (fun (j,c,s)=>([(8,.int .i64 (j:Int)),(7,.int .u64 c),(5,.slice (some ⟨b4,0,none⟩) s.length N),(2,.pointer (some ⟨b1,0,none⟩)),(6,.int .i64 (↑i:Int)),(4,.pointer (some (Addr.mk b3 0 none))),(3,.pointer (some ⟨b2,0,none⟩))],[(3,some b4,Row 166 s []),(2,some b3,.cells #[.bool Bool.false,.slice none 0 0] 93),(1,some b2,.cells #[.bool n2,.slice b (List.length lb) cb] 93),(0,some b1,.cells #[.bool n1,.slice a (List.length la) ca] 93)])) (fun (j,c,s)=>0≤c∧c≤65535∧s.length=N∧B2 s∧uS s+pw (i+j)*c=uS (la.take i)*uS lb+pw i*(dg la i*uS (lb.take j))∧j≤lb.length+1) (fun (j,c,s)=>lb.length+1 - j) ((0,0,r)) (⟨by decide,by decide,hrN,hdr,by rw [bV,bX,xO,bV,bV,cH,cH];exact hv,aS _⟩) fun ⟨j,c,s⟩=>fun hk=>?_;obtain ⟨hc0,hc1,hsN,hds,hvs,hjl⟩:=hk;have hos:=hown s hsN;have hbnd:lb.length≤j→0<c→j≤lb.length:=fun h1 h2=>LD da db hia h1 hds h2 hvs;have ekk:((i:Int)+(j:Int)).toNat=i+j:=uJ;rcases aK j lb.length with hjb | hjb
   · have hyj:0≤(lb[(j:Int).toNat]?.getD default).v∧(lb[(j:Int).toNat]?.getD default).v<65536:=Je db hjb;have hxy:=AL hxi hyj;have hsk:0≤(s[((i:Int)+(j:Int)).toNat]?.getD default).v∧(s[((i:Int)+(j:Int)).toNat]?.getD default).v<65536:=hds.at uJ;refine aL 9 [1] ?_;refine Zv 30 ?_;refine aN 17 [1] ?_;refine kZ (α:=A4) T.sl87 ?_;refine Wl.lo 3 0 T.one166 ?_;refine aT (cI U T.u165 U uJ) ?_;refine aT (iB U U uJ) ?_;refine bY 14 [1,1] ?_;refine gK [0,1,2,3] [] T.mixed [[0],[1],[2,0],[3]] ?_;refine qN (α:=A4) 4 T.sl87 ?_;refine rS 5 [0] 0 T.one166 ?_;refine eP 6 [] U (cI U T.u165 U uJ) ?_;refine gS [[7],[8,1],[9]] ?_;refine qN (α:=A4) 10 T.sl87 ?_;refine rS 11 [0] 0 T.one166 ?_;refine eP 12 [] U (cI U T.u165 U uJ) ?_;refine eP 13 [] U (oW U U vG) ?_;refine eP 14 [] U (iB U U uJ) ?_;refine gS [[15]] ?_;refine eI ?_;refine rH 8 [] ?_;refine aT (mG U U uJ) ?_;refine aT (iO U T.u166 U uJ) ?_;refine kZ (α:=A4) T.sl87 ?_;refine fL (z:=_) 3 T.size166 U U U uK uJ U fun ho1=>?_;refine aN 4 [] ?_;refine aT (qC U U uJ) ?_;refine bA 9 [] ?_;rw [ekk] at ⊢ hsk;refine dH 5 U (show _=Value.slice (some ⟨b4,0,none⟩) (s.set (i+j) (⟨(c+(s[i+j]?.getD default).v+(la[(i:Int).toNat]?.getD default).v*(lb[(j:Int).toNat]?.getD default).v) % 65536⟩:A4)).length N by rw [aJ]) ?_;refine eH ((j+1,(c+(s[i+j]?.getD default).v+(la[(i:Int).toNat]?.getD default).v*(lb[(j:Int).toNat]?.getD default).v) / 65536,s.set (i+j) (⟨(c+(s[i+j]?.getD default).v+(la[(i:Int).toNat]?.getD default).v*(lb[(j:Int).toNat]?.getD default).v) % 65536⟩:A4))) ?_ ?_
     · exact ⟨by omega,by omega,by rw [aJ];exact hsN,Ph hds _ uJ,AK uJ hvs (by simp only [dg,aH]),by omega⟩
     show lb.length+1 - (j+1)<lb.length+1 - j;omega
   by_cases hcy:0<c
   · have hjle:=hbnd hjb hcy;have hsk:0≤(s[((i:Int)+(j:Int)).toNat]?.getD default).v∧(s[((i:Int)+(j:Int)).toNat]?.getD default).v<65536:=hds.at uJ;refine aL 9 [1] ?_;refine pR 30 ?_;refine aN 19 [1] ?_;refine kZ (α:=A4) T.sl87 ?_;refine Wl.lo 3 0 T.one166 ?_;refine aT (cI U T.u165 U uJ) ?_;refine aT (iB U U uJ) ?_;refine aN 23 [1,0] ?_;refine aT (mG U U uJ) ?_;refine aT (iO U T.u166 U uJ) ?_;refine kZ (α:=A4) T.sl87 ?_;refine fL (z:=_) 3 T.size166 U U U uK uJ U fun ho1=>?_;refine aN 4 [] ?_;refine aT (qC U U uJ) ?_;refine bA 9 [] ?_;rw [ekk] at ⊢ hsk;refine dH 5 U (show _=Value.slice (some ⟨b4,0,none⟩) (s.set (i+j) (⟨(c+(s[i+j]?.getD default).v) % 65536⟩:A4)).length N by rw [aJ]) ?_;refine eH ((j+1,(c+(s[i+j]?.getD default).v) / 65536,s.set (i+j) (⟨(c+(s[i+j]?.getD default).v) % 65536⟩:A4))) ?_ ?_
     · exact ⟨by omega,by omega,by rw [aJ];exact hsN,Ph hds _ uJ,AK uJ hvs (by rw [Ld hjb,bV,cH];simp only [dg,aH]),by omega⟩
     show lb.length+1 - (j+1)<lb.length+1 - j;omega
   have hc:c=0:=uJ;subst hc;rw [bV,cH] at hvs;refine aL 9 [1] ?_;refine pR 30 ?_;refine bA 19 [0] ?_;refine eH ((i+1,s)) ?_ ?_
   · exact ⟨by omega,hsN,hds,HU hjb hvs⟩
   show la.length - (i+1)<la.length - i;omega
 have hor:=hown r hrN;rw [vB hia] at hv;refine aL 22 [0,0,0,1] ?_;refine aT (Ih T.u4 U U) ?_;refine aF 1 [] ?_;have hcap:=hor.le;refine eC 3 U hor fun G9 hle9 hA=>?_;refine cQ 4 U (AI _ _ _ _ _ uK uJ uK) fun v1 G1 Ho1 hle1 hp=>?_;obtain ⟨tn1,rfl,htr1,rfl,rfl⟩:=hp;refine bA 4 [2] ?_;refine cP (.inr U) (Ho:=Hp.only _ []) U (.agg 2 U U T.agg93) (aV _ _) ?_;refine ⟨⟨decide (n1≠n2) && decide (0<tn1),C4 (some ⟨b4,0,none⟩) N 0 1,tn1,N⟩,U,?_,U⟩;have e:=htr1.num hdr hA hcap (decide (n1≠n2));have e2:(if decide (n1≠n2)=true then -uS r else uS r)=x*y:=by
  rw [hv,hx.val,hy.val];cases n1 <;> cases n2 <;> simp [lK,Int.mul_neg]
 rw [e2] at e;exact e
theorem WR (G:A3) (x y:IV) (zx zy:Int) (hx:F4 G x zx) (hy:F4 G y zy) (h1:x.n≤536870912) (h2:y.n≤536870912) :
 Does Tryz.prog 52 [.agg (A2.enc x).toArray,.agg (A2.enc y).toArray] G [] (fun v G' Ho=>∃ r:IV,v=.agg (A2.enc r).toArray∧F4 G' r (zx*zy)∧Ho=[]):=by
 obtain ⟨n1,a,k1,ca⟩:=x;obtain ⟨n2,b,k2,cb⟩:=y;obtain ⟨la,hl,hlc,hA,hI⟩:=hx;obtain ⟨lb,hl',hlc',hA',hI'⟩:=hy;simp only at hl hlc hA hI hl' hlc' hA' hI' h1 h2;subst hl hl';exact c52 G n1 n2 a b ca cb la lb zx zy hA hA' hI hI' h1 h2
end
theorem qj (G:A3) (op:Int):Does Tryz.prog 214 [.int .i64 op] G [] (fun v G' Ho=>v=.bool (decide (op=3∨op=4))∧G'=G∧Ho=[]):=by
 refine D0 Tryz.func214 Tryz.ntmps214 fun w=>?_;refine aL 10 [] ?_;apply fG 3 5 8 U;intro hg1;refine aF 5 [] ?_;exact gO 3 0;intro hg1;refine aF 3 [] ?_;exact gO 3 0;refine bA 4 [] ?_;refine cZ ?_;exact ⟨by simp,rfl,rfl⟩
def Fx (op c:Int):Bool:=
 if op=5∨op=6 then decide (c≠0∧-512≤c∧c≤512) else if op=7∨op=8 then decide (1≤c∧c≤64) else decide (c=0)
theorem qk (G:A3) (i:Sl.Instr):Does Tryz.prog 215 [.agg (A2.enc i).toArray] G [] (fun v G' Ho=>v=.bool (decide (Fx i.op i.c=true))∧G'=G∧Ho=[]):=by
 refine D0 Tryz.func215 Tryz.ntmps215 fun w=>?_;refine aL 2 [] ?_;refine fK 0 fun b1=>?_;refine bY 18 [0] ?_;refine hZ (fun hc1=>?_) fun hc1=>?_;refine aL 9 [1,0] ?_;apply gE 4 11 15 U;intro hg1;refine aF 7 [0] ?_;exact gO 4 0;intro hg1;refine aF 4 [] ?_;exact gO 4 0;refine aF 1 [] ?_;apply gE 4 16 20 U;intro hg1;refine aF 7 [0] ?_;exact gO 4 0;intro hg1;refine aF 4 [] ?_;exact gO 4 0;refine bA 6 [] ?_;refine cZ ?_;rotate_left;refine dN 5 [] ?_;refine hZ (fun hc2=>?_) fun hc2=>?_;refine aL 6 [0] ?_;apply gE 4 11 15 U;intro hg1;refine aF 7 [0] ?_;exact gO 4 0;intro hg1;refine aF 4 [] ?_;exact gO 4 0;refine aF 1 [] ?_;apply gE 4 16 20 U;intro hg1;refine aF 7 [0] ?_;exact gO 4 0;intro hg1;refine aF 4 [] ?_;exact gO 4 0;refine bA 6 [] ?_;refine cZ ?_;rotate_left;refine dN 7 [] ?_;refine hZ (fun hc3=>?_) fun hc3=>?_;refine aL 9 [1,0] ?_;apply gE 4 27 31 U;intro hg1;refine aF 7 [0] ?_;exact gO 4 0;intro hg1;refine aF 4 [] ?_;exact gO 4 0;refine bA 6 [] ?_;refine cZ ?_;rotate_left;refine dN 5 [] ?_;refine hZ (fun hc4=>?_) fun hc4=>?_;refine aL 6 [0] ?_;apply gE 4 27 31 U;intro hg1;refine aF 7 [0] ?_;exact gO 4 0;intro hg1;refine aF 4 [] ?_;exact gO 4 0;refine bA 6 [] ?_;refine cZ ?_;rotate_left;refine cJ 12 [0] ?_;refine cZ ?_;rotate_left;all_goals refine ⟨?_,U,U⟩
 all_goals simp [Fx, *]
 all_goals first | (split <;> first | rfl | omega) | omega | (simp only [Bool.and_assoc];rfl) | (simp only [Bool.and_assoc]) | skip
def zO (i:Sl.Instr):List Int:=if i.op=3∨i.op=4 then [i.a,i.b] else if 1≤i.op∧i.op≤8 then [i.a] else []
theorem ql (G:A3) (i:Sl.Instr):Does Tryz.prog 216 [.agg (A2.enc i).toArray] G [] (fun v G' Ho=>∃ a c junk,v=.slice a (zO i).length c∧A5 a c (zO i) junk∧Ho=[(1,a.map (·.block),Row 3 (zO i) junk)]∧G'=G):=by
 refine D0 Tryz.func216 Tryz.ntmps216 fun w=>?_;refine aL 2 [] ?_;refine fK 0 fun b1=>?_;refine bY 18 [0] ?_;refine hZ (fun hc1=>?_) fun hc1=>?_;refine aL 9 [1,0,0] ?_;refine eV (α:=Int) 1 [(Go.Sl.Instr.a i),(Go.Sl.Instr.b i)] U T.sl24 T.el3 U U U U U fun b2=>?_;refine bA 6 [] ?_;rotate_left;refine dN 5 [] ?_;refine hZ (fun hc2=>?_) fun hc2=>?_;refine aL 6 [0,0] ?_;refine eV (α:=Int) 1 [(Go.Sl.Instr.a i),(Go.Sl.Instr.b i)] U T.sl24 T.el3 U U U U U fun b2=>?_;refine bA 6 [] ?_;rotate_left;refine dN 7 [] ?_;refine hZ (fun hc3=>?_) fun hc3=>?_;refine aL 7 [1,0] ?_;refine eV (α:=Int) 1 [(Go.Sl.Instr.a i)] U T.sl24 T.el3 U U U U U fun b2=>?_;refine bA 6 [] ?_;rotate_left;refine dN 6 [] ?_;refine hZ (fun hc4=>?_) fun hc4=>?_;refine aL 7 [1,0] ?_;refine eV (α:=Int) 1 [(Go.Sl.Instr.a i)] U T.sl24 T.el3 U U U U U fun b2=>?_;refine bA 6 [] ?_;rotate_left;refine dN 6 [] ?_;refine hZ (fun hc5=>?_) fun hc5=>?_;refine aL 7 [1,0] ?_;refine eV (α:=Int) 1 [(Go.Sl.Instr.a i)] U T.sl24 T.el3 U U U U U fun b2=>?_;refine bA 6 [] ?_;rotate_left;refine dN 6 [] ?_;refine hZ (fun hc6=>?_) fun hc6=>?_;refine aL 7 [1,0] ?_;refine eV (α:=Int) 1 [(Go.Sl.Instr.a i)] U T.sl24 T.el3 U U U U U fun b2=>?_;refine bA 6 [] ?_;rotate_left;refine dN 6 [] ?_;refine hZ (fun hc7=>?_) fun hc7=>?_;refine aL 7 [1,0] ?_;refine eV (α:=Int) 1 [(Go.Sl.Instr.a i)] U T.sl24 T.el3 U U U U U fun b2=>?_;refine bA 6 [] ?_;rotate_left;refine dN 5 [] ?_;refine hZ (fun hc8=>?_) fun hc8=>?_;refine aL 4 [0] ?_;refine eV (α:=Int) 1 [(Go.Sl.Instr.a i)] U T.sl24 T.el3 U U U U U fun b2=>?_;refine bA 6 [] ?_;rotate_left;refine cJ 9 [] ?_;rotate_left
 rotate_right
 · have h:zO i=[]:=by unfold zO;rw [aE (by omega),aE (by omega)]
   refine Kr 1 (Row 3 ([]:List Int) []) ?_;refine rT [1] ?_;rw [h];exact ⟨_,_,_,U,fN,U,U⟩
 all_goals first | refine cP (.inr U) (Ho:=Hp.only _ [1]) U (.tmp U) (aV _ _) ?_
 all_goals first
  | (have h:zO i=[i.a,i.b]:=by unfold zO;rw [aM (by omega)]
     rw [h];exact ⟨_,_,_,U,kW Oe,U,U⟩)
  | (have h:zO i=[i.a]:=by unfold zO;rw [aE (by omega),aM (by omega)]
     rw [h];exact ⟨_,_,_,U,kW Oe,U,U⟩)
  | skip
def yM (i:Sl.Instr) (regs:Int):Bool:=
 decide (1≤i.op∧i.op≤8∧0≤i.to∧i.to<regs∧(i.op=3∨i.op=4∨i.b=0)) && Fx i.op i.c && (zO i).all fun r=>decide (0≤r∧r<regs)
theorem Pj {α:Type} [Inhabited α] (p:α→Bool) {l:List α} {k:Nat} (h:k<l.length):(l.take (k+1)).all p=((l.take k).all p && p (l[((k:Nat):Int).toNat]?.getD default)):=by
 have:l.take (k+1)=l.take k++[l[(k:Int).toNat]?.getD default]:=by
  rw [fW,aH,aA h];rfl
 rw [this,List.all_append];simp
theorem qn (G:A3) (i:Sl.Instr) (regs:Int):Does Tryz.prog 173 [.agg (A2.enc i).toArray,.int .i64 regs] G [] (fun v G' Ho=>v=.bool (decide (yM i regs=true))∧G'=G∧Ho=[]):=by
 refine D0 Tryz.func173 Tryz.ntmps173 fun w=>?_;refine aL 2 [] ?_;refine fK 0 fun b1=>?_;refine aN 10 [0] ?_;apply fG 4 10 14 U;intro hg1;refine aF 7 [0] ?_;exact gO 4 0;intro hg1;refine aF 4 [] ?_;exact gO 4 0;refine aF 1 [] ?_;apply fG 4 15 19 U;intro hg1;refine aF 7 [0] ?_;exact gO 4 0;intro hg1;refine aF 4 [] ?_;exact gO 4 0;refine aF 1 [] ?_;apply fG 5 20 25 U;intro hg1;refine aF 9 [0] ?_;exact gO 5 0;intro hg1;refine aF 5 [] ?_;exact gO 5 0;refine aF 1 [] ?_;apply fG 10 26 36 U;intro hg1;refine aF 5 [0] ?_;refine dC U (qj _ _) ?_;refine aF 1 [] ?_;refine aT (gF U) ?_;refine aF 2 [] ?_;apply gE 4 31 35 U;intro hg1;refine aF 8 [0] ?_;exact gO 4 0;intro hg1;refine aF 5 [] ?_;exact gO 4 0;refine aF 1 [] ?_;exact gO 7 0;intro hg1;refine aF 5 [] ?_;refine Ov U U U ?_;refine Ov U U U ?_;refine Ov U U U ?_;refine aF 2 [] ?_;exact gO 10 0;refine aF 1 [] ?_;apply fG 4 37 41 U;intro hg1;refine aF 3 [0] ?_;refine dC U (qk _ _) ?_;refine aF 1 [] ?_;refine aT (gF U) ?_;refine aF 1 [] ?_;exact gO 4 0;intro hg1;refine aF 4 [] ?_;exact gO 4 0;refine bY 2 [] ?_;refine hZ (fun hc1=>?_) fun hc1=>?_;refine cJ 7 [] ?_;refine cZ ?_;rotate_left;refine aL 6 [0] ?_;refine cQ 1 U (ql _ _) fun v1 G1 Ho1 hle1 hp=>?_;obtain ⟨ad1,cd1,junk1,rfl,hoa1,rfl,rfl⟩:=hp;refine bY 5 [] ?_;rotate_left
 · refine ⟨?_,U,U⟩;have:yM i regs=false:=by
    unfold yM;rcases hc1 with ((((h | h) | h) | h) | h) | h
    all_goals first | (rw [cM uJ];rfl) | simp [h]
   simp [this]
 have hasks:(zO i).length≤2:=by unfold zO;split <;> (try split) <;> simp
 refine kL (ι:=Nat) (fun k=>([(45,.int .i64 (k:Int)),(44,.int .i64 (↑(List.length (zO i)):Int)),(43,.slice ad1 (List.length (zO i)) cd1),(1,.int .i64 regs)],[(2,Option.map (fun x=>Go.Addr.block x) ad1,Row (α:=Int) 3 (zO i) (junk1)),(0,some b1,.cells (List.toArray (A2.enc i)) 211)])) (fun k=>k≤(zO i).length∧((zO i).take k).all (fun r=>decide (0≤r∧r<regs))=true) (fun k=>(zO i).length - k) (0) (⟨aS _,U⟩) fun k=>fun hk=>?_;obtain ⟨hk1,hk2⟩:=hk;refine dN 6 [] ?_;refine hZ (fun hc2=>?_) fun hc2=>?_;refine aL 6 [] ?_;refine kZ (α:=Int) T.sl24 ?_;refine Wl.lo 2 0 T.one3 ?_;refine aN 8 [] ?_;apply fG 4 51 55 U;intro hg1;refine aF 7 [] ?_;exact gO 4 0;intro hg1;refine aF 4 [] ?_;exact gO 4 0;refine bY 2 [] ?_;refine hZ (fun hc3=>?_) fun hc3=>?_;refine cJ 11 [] ?_;refine cZ ?_;rotate_left;refine cJ 7 [] ?_;rotate_left;refine cJ 11 [] ?_;refine cZ ?_;rotate_left
 · refine ⟨?_,U,U⟩;have hl:k<(zO i).length:=uJ;have hx:(zO i)[(k:Int).toNat]?.getD default∈zO i:=by rw [aH,aA hl];simp
   have hf:((zO i).all fun r=>decide (0≤r∧r<regs))=false:=by
    rw [List.all_eq_false];exact ⟨_,hx,by simp only [aY];omega⟩
   have:yM i regs=false:=by unfold yM;rw [hf];simp
   simp [this]
 · refine eH (k+1) ?_ ?_
   · refine ⟨by omega,?_⟩;rw [Pj _ uJ,hk2];simp only [pI,aY];omega
   omega
 refine ⟨?_,U,U⟩;have hk:k=(zO i).length:=uJ;subst hk;rw [gX] at hk2;have:yM i regs=true:=by
  unfold yM;rw [hk2];simp only [not_or] at hc1;simp only [nL,aB,aY];refine ⟨by omega,?_⟩;have:=hc1.2;simpa using this
 simp [this]
structure PV where
 ins:Int
 regs:Int
 code:List Sl.Instr
 outs:List Int
abbrev J6(p:PV)(ac:Option Addr)(cc:Nat)(ao:Option Addr)(co:Nat):Array Value:=#[.int .i64 p.ins,.int .i64 p.regs,.slice ac p.code.length cc,.slice ao p.outs.length co]
def Cn (p:PV):Bool:=decide (1≤p.ins∧p.ins≤p.regs∧p.regs≤128∧p.code.length≤16384∧1≤p.outs.length∧p.outs.length≤128) && p.outs.all fun r=>decide (0≤r∧r<p.regs)
def Uo (p:PV):Option Nat:=p.code.findIdx? fun i=>!yM i p.regs
def yU (p:PV):Int×Bool:=if Cn p=false then (-1,true) else match Uo p with | some k=>(k,true) | none=>(0,false)
theorem QN {α:Type} [Inhabited α] {p:α→Bool} {l:List α} {k:Nat} (h:k<l.length) (h1:(l.take k).all p=true) (h2:¬p (l[((k:Nat):Int).toNat]?.getD default)=true):l.findIdx? (fun i=>!p i)=some k:=by
 rw [tH];rw [aH,aA h,kF] at h2;refine ⟨h,by simpa using h2,fun j hj=>?_⟩;have hm:l[j]'(by omega)∈l.take k:=by rw [List.mem_take_iff_getElem];exact ⟨j,by omega,U⟩
 have:=eT.1 h1 _ hm;simpa using this
theorem LG {α:Type} {p:α→Bool} {l:List α} (h1:l.all p=true):l.findIdx? (fun i=>!p i)=none:=by
 rw [qQ];intro x hx;simpa using eT.1 h1 x hx
theorem aw (G:A3) (p:PV) (ac ao:Option Addr) (cc co:Nat) (hc:Arr G ac p.code) (ho:Arr G ao p.outs) (h1:p.code.length≤1099511627776) (h2:p.outs.length≤1099511627776) :
 Does Tryz.prog 124 [.agg (J6 p ac cc ao co)] G [] (fun v G' Ho=>v=.tuple #[.int .i64 (yU p).1,.int .i64 (if (yU p).2 then 80 else 0)]∧G'=G∧Ho=[]):=by
 refine D0 Tryz.func124 Tryz.ntmps124 fun w=>?_;refine aL 2 [] ?_;refine fK 0 fun b1=>?_;refine aN 11 [0] ?_;apply fG 6 11 17 U;intro hg1;refine aF 11 [0,0] ?_;exact gO 6 0;intro hg1;refine aF 6 [] ?_;exact gO 6 0;refine aF 1 [] ?_;apply fG 4 18 22 U;intro hg1;refine aF 7 [0] ?_;exact gO 4 0;intro hg1;refine aF 4 [] ?_;exact gO 4 0;refine aF 1 [] ?_;apply fG 5 23 28 U;intro hg1;refine aF 9 [0] ?_;exact gO 5 0;intro hg1;refine aF 5 [] ?_;exact gO 5 0;refine aF 1 [] ?_;apply fG 5 29 34 U;intro hg1;refine aF 9 [0] ?_;exact gO 5 0;intro hg1;refine aF 5 [] ?_;exact gO 5 0;refine aF 1 [] ?_;apply fG 5 35 40 U;intro hg1;refine aF 9 [0] ?_;exact gO 5 0;intro hg1;refine aF 5 [] ?_;exact gO 5 0;refine bY 2 [] ?_;refine hZ (fun hc1=>?_) fun hc1=>?_;refine cJ 8 [] ?_;refine fU ?_;rotate_left;refine dN 12 [0] ?_;rotate_left
 · refine ⟨?_,U,U⟩;have:Cn p=false:=by unfold Cn;rw [cM uJ];rfl
   simp [yU,this]
 refine kL (ι:=Nat) (fun k=>([(44,.int .i64 (k:Int)),(43,.int .i64 (↑p.outs.length:Int)),(42,.slice ao p.outs.length co),(1,.pointer (some ⟨b1,0,none⟩))],[(0,some b1,.cells (J6 p ac cc ao co) 26)])) (fun k=>k≤p.outs.length∧(p.outs.take k).all (fun r=>decide (0≤r∧r<p.regs))=true) (fun k=>p.outs.length - k) (0) (⟨aS _,U⟩) fun k=>fun hk=>?_;obtain ⟨hk1,hk2⟩:=hk;refine dN 6 [] ?_;refine hZ (fun hc2=>?_) fun hc2=>?_;refine aL 6 [] ?_;refine fF (α:=Int) T.sl24 ?_;refine iT 0 T.one3 ?_;refine aN 8 [] ?_;apply fG 5 50 55 U;intro hg1;refine aF 9 [0] ?_;exact gO 5 0;intro hg1;refine aF 5 [] ?_;exact gO 5 0;refine bY 2 [] ?_;refine hZ (fun hc3=>?_) fun hc3=>?_;refine cJ 12 [] ?_;refine fU ?_;rotate_left;refine cJ 7 [] ?_;rotate_left;refine dN 15 [0] ?_;rotate_left
 · refine ⟨?_,U,U⟩;have hl:k<p.outs.length:=uJ;have hx:p.outs[(k:Int).toNat]?.getD default∈p.outs:=by rw [aH,aA hl];simp
   have hf:(p.outs.all fun r=>decide (0≤r∧r<p.regs))=false:=by
    rw [List.all_eq_false];exact ⟨_,hx,by simp only [aY];omega⟩
   have:Cn p=false:=by unfold Cn;rw [hf,Bool.and_false]
   simp [yU,this]
 · refine eH (k+1) ?_ ?_
   · refine ⟨by omega,?_⟩;rw [Pj _ uJ,hk2];simp only [pI,aY];omega
   omega
 have hk:k=p.outs.length:=uJ;subst hk;rw [gX] at hk2;have hh:Cn p=true:=by
  unfold Cn;rw [hk2,nL,aY];omega
 clear hk1 hk2 hc2;refine kL (ι:=Nat) (fun k=>([(60,.int .i64 (k:Int)),(59,.int .i64 (↑p.code.length:Int)),(58,.slice ac p.code.length cc),(1,.pointer (some ⟨b1,0,none⟩))],[(0,some b1,.cells (J6 p ac cc ao co) 26)])) (fun k=>k≤p.code.length∧(p.code.take k).all (fun i=>yM i p.regs)=true) (fun k=>p.code.length - k) (0) (⟨aS _,U⟩) fun k=>fun hk=>?_;obtain ⟨hk1,hk2⟩:=hk;refine dN 6 [] ?_;refine hZ (fun hc2=>?_) fun hc2=>?_;refine aL 7 [] ?_;refine fF (α:=Instr) T.sl23 ?_;refine qF T.agg211 ?_;refine bB 1 U T.zero211 fun b2=>?_;refine aN 9 [1,1,0] ?_;refine dC U (qn _ _ _) ?_;refine aT (gF U) ?_;refine bY 2 [] ?_;refine hZ (fun hc3=>?_) fun hc3=>?_;refine cJ 13 [] ?_;refine fU ?_;rotate_left;refine cJ 7 [] ?_;rotate_left;refine cJ 12 [] ?_;refine fU ?_;rotate_left
 · refine ⟨?_,U,U⟩;have hl:k<p.code.length:=uJ;have:Uo p=some k:=QN hl hk2 hc3;simp [yU,hh,this]
 · refine eH (k+1) ?_ ?_
   · refine ⟨by omega,?_⟩;rw [Pj _ uJ,hk2];simpa using hc3
   omega
 refine ⟨?_,U,U⟩;have hk:k=p.code.length:=uJ;subst hk;rw [gX] at hk2;have:Uo p=none:=LG hk2;simp [yU,hh,this]
def uY (p:PV):Bool:=!(yU p).2
theorem LH (i:Sl.Instr) (regs:Int):yM i regs=true↔(1≤i.op∧i.op≤8∧0≤i.to∧i.to<regs∧0≤i.a∧i.a<regs)∧
 (if i.op=3∨i.op=4 then 0≤i.b∧i.b<regs∧i.c=0 else i.b=0∧(if i.op=5∨i.op=6 then i.c≠0∧-512≤i.c∧i.c≤512 else if i.op=7∨i.op=8 then 1≤i.c∧i.c≤64 else i.c=0)):=by
 unfold yM Fx zO;by_cases h3:i.op=3∨i.op=4
 · have h5:¬(i.op=5∨i.op=6):=uJ;have h7:¬(i.op=7∨i.op=8):=uJ;simp only [aM h3,aE h5,aE h7,kC,List.all_nil,nL,aB,aY];omega
 by_cases h1:1≤i.op∧i.op≤8
 · simp only [aE h3,aM h1,kC,List.all_nil,nL,aB,aY];by_cases h5:i.op=5∨i.op=6
   · simp only [aM h5,aY];omega
   by_cases h7:i.op=7∨i.op=8
   · simp only [aE h5,aM h7,aY];omega
   simp only [aE h5,aE h7,aY];omega
 simp only [aE h3,aE h1,List.all_nil,nL,aB,aY];constructor <;> (intro h;omega)
instance:DecidableEq PV:=fun a b=>by
 cases a;cases b;simp only [PV.mk.injEq];infer_instance
structure Tab where
 held:List Int
 known:List (K4×Int)
 first:List (K4×Int)
 next:Int
def start (p:PV):List Int:=(List.range p.regs.toNat).map fun r=>if (p.ins:Int)<((r:Nat):Int) then p.ins else ((r:Nat):Int)
theorem vW {p:PV} (h:uY p=true):1≤p.ins∧p.ins≤p.regs∧p.regs≤128∧p.code.length≤16384∧1≤p.outs.length∧p.outs.length≤128∧(∀ r∈p.outs,0≤r∧r<p.regs)∧(∀ i∈p.code,yM i p.regs=true):=by
 unfold uY yU at h;by_cases hh:Cn p=false
 · rw [aM hh] at h;cases h
 rw [aE hh] at h;have hb:Uo p=none:=by
  cases hb:Uo p with
  | none=>rfl
  | some k=>rw [hb] at h;cases h
 have hh':Cn p=true:=by simpa using hh
 unfold Cn at hh';rw [aB,aY,eT] at hh';unfold Uo at hb;rw [qQ] at hb;obtain ⟨⟨g1,g2,g3,g4,g5,g6⟩,g7⟩:=hh';refine ⟨g1,g2,g3,g4,g5,g6,fun r hr=>?_,fun i hi=>?_⟩
 · have:=g7 r hr;rw [aY] at this;exact this
 simpa using hb i hi
section
variable {t:Tab} {out:List Sl.Instr} {n:Int} {i:Sl.Instr}
end
theorem get_mem {l:List Int} {r:Int} (h:0≤r∧r<l.length):l[r.toNat]?.getD default∈l:=by
 have hlt:r.toNat<l.length:=uJ;rw [aA hlt];exact dY hlt
def p2 (n:Nat):Int:=((2 ^ n:Nat):Int)
theorem QO (n:Nat):0<p2 n:=by unfold p2;exact oN.2 (iP uR)
theorem ir {m n:Nat} (h:m≤n):p2 m≤p2 n:=by unfold p2;exact qB.2 (eR uR h)
def cst (i:Sl.Instr):Int:=if i.op=5∨i.op=6 then i.c else p2 i.c.toNat
theorem AM {i:Sl.Instr} (h:i.op=5∨i.op=6):cst i=i.c:=aM h
theorem QP {i:Sl.Instr} (h:¬(i.op=5∨i.op=6)):cst i=p2 i.c.toNat:=aE h
def xN (y:Int) (xs:List Int):Prop:=∀ i:Nat,i<xs.length→xs[i]?.getD 0 % y=0
instance (y:Int) (xs:List Int):Decidable (xN y xs):=by unfold xN;infer_instance
def zP (i:Sl.Instr) (rs:List (List Int)):Option (List Int):=
 let a:=rs[i.a.toNat]?.getD []
 if i.op=2 then some (a.map (fun x=>-1*x))
 else if i.op=3 then some (List.zipWith (fun x y=>x+1*y) a (rs[i.b.toNat]?.getD []))
 else if i.op=4 then some (List.zipWith (fun x y=>x+(-1)*y) a (rs[i.b.toNat]?.getD []))
 else if i.op=5∨i.op=7 then some (a.map (fun x=>cst i*x))
 else if i.op=6∨i.op=8 then (if xN (cst i) a then some (a.map (· / cst i)) else none)
 else some a
def wW (p:PV) (gs:List (List Int)):List (List Int):=(List.range p.regs.toNat).map fun k=>if k<gs.length then gs[k]?.getD [] else List.replicate (gs[0]?.getD []).length 0
def zG (p:PV) (gs:List (List Int)):Nat→Option (List (List Int))
 | 0=>some (wW p gs)
 | k+1=>(zG p gs k).bind fun rs=>(zP (p.code[((k:Nat):Int).toNat]?.getD default) rs).map fun x=>rs.set (p.code[((k:Nat):Int).toNat]?.getD default).to.toNat x
def xE (p:PV) (rs:List (List Int)):List (List Int):=p.outs.map fun r=>rs[r.toNat]?.getD []
def vH (p:PV) (gs:List (List Int)):Option (List (List Int)):=(zG p gs p.code.length).map (xE p)
theorem Hc {p:PV} {gs:List (List Int)} {k:Nat} {rs x:List (List Int)} {y:List Int} (h:zG p gs k=some rs) (hd:zP (p.code[((k:Nat):Int).toNat]?.getD default) rs=some y) :
 zG p gs (k+1)=some (rs.set (p.code[((k:Nat):Int).toNat]?.getD default).to.toNat y):=by
 unfold zG;rw [h];simp only [kG,hd,fR]
theorem EK {p:PV} {gs:List (List Int)} {k:Nat} (h:zG p gs k=none) (j:Nat):zG p gs (k+j)=none:=by
 induction j with
 | zero=>exact h
 | succ j ih=>rw [←nK];unfold zG;rw [ih];rfl
theorem Pm {p:PV} {gs:List (List Int)} {k:Nat} {rs:List (List Int)} (h:zG p gs k=some rs) (hd:zP (p.code[((k:Nat):Int).toNat]?.getD default) rs=none) (hk:k<p.code.length):vH p gs=none:=by
 have h1:zG p gs (k+1)=none:=by unfold zG;rw [h];simp only [kG,hd,lX]
 have h2:=EK h1 (p.code.length - (k+1));rw [show k+1+(p.code.length - (k+1))=p.code.length by omega] at h2;unfold vH;rw [h2];rfl
theorem QQ:∀ c:Nat,c≤64→((p2 c).natAbs:Int)<pw 5:=fun c hc=>by
 have h1:=ir hc;have h2:=QO c;have h3:p2 64<pw 5:=by unfold p2 pw;decide
 omega
theorem Fy {i:Sl.Instr} {regs:Int} (h:yM i regs=true):(1≤i.op∧i.op≤8)∧(0≤i.to∧i.to<regs)∧(0≤i.a∧i.a<regs)∧(i.op=3∨i.op=4→0≤i.b∧i.b<regs)∧Fx i.op i.c=true∧
 (i.op≠1→i.op≠2→i.op≠3→i.op≠4→cst i≠0∧((cst i).natAbs:Int)<pw 5)∧(i.op=5∨i.op=6→-9223372036854775808≤i.c∧i.c≤9223372036854775807)∧(¬(i.op=5∨i.op=6)→0≤i.c∧i.c≤64):=by
 unfold yM at h;rw [aB,aB,aY,eT] at h;obtain ⟨⟨⟨g1,g2,g3,g4,g5⟩,g6⟩,g7⟩:=h;have hA:∀ r∈zO i,0≤r∧r<regs:=fun r hr=>by have:=g7 r hr;rwa [aY] at this
 have ha:i.a∈zO i:=by
  unfold zO;split
  · exact bM
  rw [aM ⟨g1,g2⟩];exact bM
 have hc:=g6;unfold Fx at g6;have k1:i.op=5∨i.op=6→i.c≠0∧-512≤i.c∧i.c≤512:=fun h=>by rw [aM h,aY] at g6;exact g6
 have k2:¬(i.op=5∨i.op=6)→(i.op=7∨i.op=8→1≤i.c∧i.c≤64)∧(¬(i.op=7∨i.op=8)→i.c=0):=fun h=>by
  rw [aE h] at g6;refine ⟨fun h2=>?_,fun h2=>?_⟩
  · rw [aM h2,aY] at g6;exact g6
  rw [aE h2,aY] at g6;exact g6
 refine ⟨⟨g1,g2⟩,⟨g3,g4⟩,hA _ ha,fun h34=>hA _ (by unfold zO;rw [aM h34];exact bD _ bM),hc,fun n1 n2 n3 n4=>?_,fun h56=>by have:=k1 h56;omega,fun h56=>?_⟩
 · by_cases h56:i.op=5∨i.op=6
   · rw [AM h56];have:=k1 h56;have h3:(65536:Int)<pw 5:=by unfold pw;decide
     exact ⟨this.1,by omega⟩
   rw [QP h56];have h2:=(k2 h56).1 uJ;have:=QO i.c.toNat;exact ⟨by omega,QQ _ uJ⟩
 by_cases h78:i.op=7∨i.op=8
 · have:=(k2 h56).1 h78;omega
 have:=(k2 h56).2 h78;omega
theorem Bg (p:PV) (gs:List (List Int)):(wW p gs).length=p.regs.toNat:=by unfold wW;rw [aW,dO]
theorem Jf {p:PV} {gs:List (List Int)} {k:Nat} (hk:k<p.regs.toNat):(wW p gs)[k]?.getD []=if k<gs.length then gs[k]?.getD [] else List.replicate (gs[0]?.getD []).length 0:=by
 unfold wW;rw [bJ,dP hk];rfl
def Hd:List Sl.Instr→List (List Int)→Option (List (List Int))
 | [],rs=>some rs
 | i :: l,rs=>(zP i rs).bind fun x=>Hd l (rs.set i.to.toNat x)
theorem AN (l m:List Sl.Instr) (rs:List (List Int)):Hd (l++m) rs=(Hd l rs).bind (Hd m):=by
 induction l generalizing rs with
 | nil=>rfl
 | cons i l ih =>
   show (zP i rs).bind (fun x=>Hd (l++m) (rs.set i.to.toNat x))=_;show _=((zP i rs).bind fun x=>Hd l (rs.set i.to.toNat x)).bind (Hd m);cases zP i rs with
   | none=>rfl
   | some x=>exact ih _
theorem LI {l:List Sl.Instr} {i:Sl.Instr} {rs:List (List Int)}:Hd (l++[i]) rs=(Hd l rs).bind fun r=>(zP i r).map fun x=>r.set i.to.toNat x:=by
 rw [AN];congr 1;funext r;show (zP i r).bind (fun x=>Hd [] (r.set i.to.toNat x))=_;cases zP i r <;> rfl
theorem He (p:PV) (gs:List (List Int)):∀ k,k≤p.code.length→zG p gs k=Hd (p.code.take k) (wW p gs)
 | 0,_=>by rw [bX];rfl
 | k+1,h=>by
   have hk:k<p.code.length:=uJ;have e:p.code.take (k+1)=p.code.take k++[p.code[(k:Int).toNat]?.getD default]:=by
    rw [List.take_succ_eq_append_getElem hk,aH,aA hk];rfl
   rw [e,LI,←He p gs k uJ];rfl
end Go.Proofs.YtngphgeghfdjbaaGreatDoor
namespace Go.Proofs.YtngphgeghfdjbaaGreatDoor.T
open Go Go.Sl
theorem fld93_1:∀ (w:World) (v0 v1:Value),(Instr.field 93 (.agg #[v0,v1]) 1).run Tryz.prog w=.ok (#[v0,v1][1]?.getD undef) w:=fun _ _ _=>uO
end Go.Proofs.YtngphgeghfdjbaaGreatDoor.T
namespace Go.Proofs.YtngphgeghfdjbaaGreatDoor
open Go Go.Sl
theorem Up {l:List A4} {i:Nat} (h:i<l.length):uS (l.drop i)=dg l i+65536*uS (l.drop (i+1)):=by
 rw [eN h,wZ];unfold dg;rw [aH,aA h];rfl
theorem ay {l:List A4} {i:Nat} (h:i<l.length) (d:Int):dg (l.set i ⟨d⟩) i=d:=by
 unfold dg;rw [aH,aA (by rw [aJ];exact h),List.getElem_set_self];rfl
theorem EL {la q:List A4} {i:Nat} {r B:Int} (hi:i<la.length) (hq:i<q.length) (hv:uS (la.drop (i+1))=uS (q.drop (i+1))*B+r) :
 uS (la.drop i)=uS ((q.set i ⟨(r*65536+dg la i) / B⟩).drop i)*B+(r*65536+dg la i) % B:=by
 rw [Up hi,Up (l:=q.set i _) (by rw [aJ];exact hq),ay hq,sZ uJ,hv];have h:=iC (r*65536+dg la i) B;rw [kE,cW ((r*65536+dg la i) / B) B,dA 65536,bQ];omega
theorem QR {r a B:Int} (hr:0≤r∧r<B) (ha:0≤a∧a<65536):0≤(r*65536+a) / B∧(r*65536+a) / B<65536:=by
 refine ⟨nQ uJ uJ,mE uJ ?_⟩;have h1:=eU (show r+1≤B by omega) (show (0:Int)≤65536 by decide);rw [cW 65536 B];omega
theorem Xv {lb:List A4} (h:lb.length=1):uS lb=dg lb 0:=by
 match lb,h with
 | [d],_=>rw [Bo];rfl
def iu (G:A3) (la lb:List A4) (v:Value):Prop:=∃ (qa ra:Option Addr) (qc rc:Nat) (lq lr:List A4),v=.tuple #[.slice qa lq.length qc,.slice ra lr.length rc]∧Arr G qa lq∧Arr G ra lr∧B2 lq∧E8 lq∧B2 lr∧E8 lr∧
 uS la=uS lq*uS lb+uS lr∧uS lr<uS lb∧lq.length≤qc∧lr.length≤rc∧lq.length≤la.length
section
attribute [local irreducible] uS pw vJ p2
theorem iv (G:A3) (a b:Option Addr) (ca cb:Nat) (la lb:List A4) (ha:Arr G a la) (hb:Arr G b lb) (da:B2 la) (db:B2 lb) (tb:E8 lb) (h1:la.length≤536870912) (hl1:lb.length=1) :
 Does Tryz.prog 105 [.slice a la.length ca,.slice b lb.length cb] G [] (fun v G' Ho=>iu G' la lb v∧Ho=[]):=by
 have hB:0<dg lb 0:=by
  rw [←Xv hl1];exact Xm db tb (fun e=>by rw [e] at hl1;simp at hl1)
 have hB2:=Je db (show 0<lb.length by omega);have hb0:(lb[((0:Nat):Int).toNat]?.getD default).v=dg lb 0:=rfl;refine D0 Tryz.func105 Tryz.ntmps105 fun w=>?_;refine aL 19 [1] ?_;refine jL (α:=A4) 0 U T.sl87 T.el166 U U uJ uJ fun b1=>?_;refine bY 18 [] ?_;obtain ⟨N,hN⟩:∃ N,N=la.length:=⟨_,U⟩
 have hM:(la.length:Int).toNat=N:=uJ;rw [hM];have hown:∀ r:List A4,r.length=N→A5 (some ⟨b1,0,none⟩) N r []:=fun r hr=>.inr ⟨b1,U,by rw [hr];rfl,by omega,by simp only [maxLen];omega⟩;refine iD 6 U (show _=Value.slice (some ⟨b1,0,none⟩) (List.replicate N (default:A4)).length N by rw [aC]) ?_;refine kL (ι:=Nat×Int×List A4) (fun (k,r,q)=>([(8,.int .i64 ((k:Int) - 1)),(7,.int .u64 r),(6,.slice (some ⟨b1,0,none⟩) q.length N),(5,.slice none 0 0),(4,.slice none 0 0),(0,.slice a (List.length la) ca),(1,.slice b (List.length lb) cb)],[(0,some b1,Row 166 q [])])) (fun (k,r,q)=>k≤la.length∧q.length=N∧B2 q∧0≤r∧r<dg lb 0∧uS (la.drop k)=uS (q.drop k)*dg lb 0+r) (fun (k,r,q)=>k) ((la.length,0,List.replicate N (default:A4))) (⟨aG _,aC,Pb N,by decide,hB,by rw [cY (aG _),cY Oc,xO,gM];rfl⟩) fun ⟨k,r,q⟩=>fun hk=>?_;obtain ⟨hk1,hqN,hdq,hr0,hr1,hv⟩:=hk;have hoq:=hown q hqN;rcases dD k with rfl | hpos
 · rw [kN,kN] at hv;have hcap:=hoq.le;refine aL 16 [0] ?_;refine eC 0 U hoq fun G8 hle8 hA=>?_;refine cQ 1 U (AI _ _ _ _ _ uK Sp (by first | assumption | exact aG _)) fun v1 G1 Ho1 hle1 hp=>?_;obtain ⟨tn1,rfl,htr1,rfl,rfl⟩:=hp;refine aT (Uh T.fld93_1 U U) ?_;refine aF 1 [] ?_;refine aT (iO U T.u166 U uJ) ?_;refine eV (α:=A4) 1 [⟨r⟩] U T.sl87 T.el166 U U U U U fun b2=>?_;have hdr:B2 [(⟨r⟩:A4)]:=sQ uJ;refine eC 1 U (kW (xs:=[(⟨r⟩:A4)]) Oe) fun G9 hle9 hA2=>?_;replace hA:=hA.up hle9;refine cQ 2 U (AI _ _ _ _ _ uK Sp (by first | assumption | exact aG _)) fun v2 G2 Ho2 hle2 hp=>?_;obtain ⟨tn2,rfl,htr2,rfl,rfl⟩:=hp;refine aT (Uh T.fld93_1 U U) ?_;refine bA 6 [] ?_;refine fU ?_;refine ⟨⟨C4 (some ⟨b1,0,none⟩) N 0 1,C4 (some ⟨b2,0,none⟩) 1 0 1,N,1,q.take tn1,[(⟨r⟩:A4)].take tn2,?_,Xu hA _,Xu hA2 _,hdq.take _,htr1.top,hdr.take _,htr2.top,?_,?_,?_,?_,?_⟩,U⟩
   · rw [htr1.len,htr2.len];rfl
   · rw [htr1.val,htr2.val,Bo,Xv hl1];exact hv
   · rw [htr2.val,Bo,Xv hl1];exact hr1
   · rw [htr1.len];exact aP htr1.1 hcap
   · rw [htr2.len];exact htr2.1
   rw [htr1.len,←hN,←hqN];exact htr1.1
 obtain ⟨i,rfl⟩:∃ i,k=i+1:=⟨k - 1,by omega⟩
 have hai:=Je da (show i<la.length by omega);have ei:(((i+1:Nat):Int) - 1).toNat=i:=uJ;have eA:(la[(((i+1:Nat):Int) - 1).toNat]?.getD default).v=dg la i:=by unfold dg;rw [ei,aH]
 have hsl:=QR ⟨hr0,hr1⟩ hai;have hb1:0<(lb[(0:Int).toNat]?.getD default).v:=hB;have hb2:(lb[(0:Int).toNat]?.getD default).v<65536:=hB2.2;have hsl':0≤(r*65536+(la[(((i+1:Nat):Int) - 1).toNat]?.getD default).v) / (lb[(0:Int).toNat]?.getD default).v∧(r*65536+(la[(((i+1:Nat):Int) - 1).toNat]?.getD default).v) / (lb[(0:Int).toNat]?.getD default).v≤65535:=by
  rw [eA];exact ⟨hsl.1,by have:=hsl.2;show _ / dg lb 0≤_;omega⟩
 have hrm:0≤(r*65536+dg la i) % dg lb 0∧(r*65536+dg la i) % dg lb 0<dg lb 0:=⟨kA _ uJ,eM _ hB⟩
 refine aL 15 [1] ?_;refine aT (oW U U vG) ?_;refine aF 2 [] ?_;refine fF (α:=A4) T.sl87 ?_;refine iT 0 T.one166 ?_;refine aT (cI U T.u165 U uJ) ?_;refine aT (iB U U uJ) ?_;refine aN 9 [] ?_;refine fF (α:=A4) T.sl87 ?_;refine aU U (cS T.one166 U (gZ uK uJ 0 U U)) ?_;refine aT (cI U T.u165 U uJ) ?_;refine aT (qC U U uJ) ?_;refine aT (iO U T.u166 U uJ) ?_;refine kZ (α:=A4) T.sl87 ?_;refine fL (z:=_) 0 T.size166 U U U uK uJ U fun ho1=>?_;refine aN 5 [] ?_;refine fF (α:=A4) T.sl87 ?_;refine aU U (cS T.one166 U (gZ uK uJ 0 U U)) ?_;refine aT (cI U T.u165 U uJ) ?_;refine aT (mG U U uJ) ?_;refine bA 9 [] ?_;rw [eA];refine dH 8 U (show _=Value.int .i64 ((i:Int) - 1) by congr 1;omega) ?_;refine jW 0 (Row 166 (q.set i ⟨(r*65536+dg la i) / dg lb 0⟩) []) U (by rw [ei];rfl) ?_;refine dH 6 U (show _=Value.slice (some ⟨b1,0,none⟩) (q.set i ⟨(r*65536+dg la i) / dg lb 0⟩).length N by rw [aJ]) ?_;refine eH ((i,(r*65536+dg la i) % dg lb 0,q.set i ⟨(r*65536+dg la i) / dg lb 0⟩)) ?_ ?_
 · exact ⟨by omega,by rw [aJ];exact hqN,Ph hdq _ hsl,hrm.1,hrm.2,EL uJ uJ hv⟩
 show i<i+1;omega
end
section
variable {B:Bs} {e:B0} {D:List Deferred} {H:Hp} {G:A3}
theorem retagH {a:Act} {w:World} (hh:A7 B ⟨e,D,H,G⟩ a w) (t t':Nat) {k:Option Nat} {o:Obj} (ht:H.get t=some (k,o)) (hn:t≠t') (hk:H.get t'=none∨True):A7 B ⟨e,D,(t',k,o) :: (t,none,o) :: H,G⟩ a w:=by
 have key:∀ i b o',Hp.get ((t',k,o) :: (t,none,o) :: H) i=some (some b,o')→(i=t'∧H.get t=some (some b,o'))∨(i≠t'∧i≠t∧H.get i=some (some b,o')):=fun i b o' hx=>by
  rw [bZ] at hx;split at hx
  · rename_i hi;left;refine ⟨hi.symm,?_⟩;rw [ht];exact hx
  rename_i hi;rw [bZ] at hx;split at hx
  · simp at hx
  rename_i hi2;exact .inr ⟨fun h=>hi h.symm,fun h=>hi2 h.symm,hx⟩
 refine ⟨hh.size,hh.defers,hh.env,⟨?_,?_,hh.mem.imm,?_⟩,hh.upd,?_,hh.le,hh.new⟩
 · intro i b o' hx;rcases key i b o' hx with ⟨_,h⟩ | ⟨_,_,h⟩
   · exact hh.mem.own _ b o' h
   exact hh.mem.own _ b o' h
 · intro i i' b o1 o2 hx hy;rcases key i b o1 hx with ⟨h1,h2⟩ | ⟨h1,h1',h2⟩ <;> rcases key i' b o2 hy with ⟨h3,h4⟩ | ⟨h3,h3',h4⟩
   · rw [h1,h3]
   · exact absurd (hh.mem.one _ _ b _ _ h2 h4).symm h3'
   · exact absurd (hh.mem.one _ _ b _ _ h2 h4) h1'
   exact hh.mem.one _ _ b _ _ h2 h4
 · intro i b o' hx;rcases key i b o' hx with ⟨_,h⟩ | ⟨_,_,h⟩
   · exact hh.mem.off _ b o' h
   exact hh.mem.off _ b o' h
 intro i b o' hx;rcases key i b o' hx with ⟨_,h⟩ | ⟨_,_,h⟩
 · exact hh.mine _ b o' h
 exact hh.mine _ b o' h
theorem Ar.retag {x:Exit} {Q:Exit→Act→World→Prop} (t t':Nat) {k:Option Nat} {o:Obj} (ht:H.get t=some (k,o)) (hn:Nat.beq t t'=false) (h:Ar Q x B ⟨e,D,(t',k,o) :: (t,none,o) :: H,G⟩):Ar Q x B ⟨e,D,H,G⟩:=
 fun a w hh=>h a w (retagH hh t t' ht (fun e=>by subst e;simp at hn) (.inr trivial))
end
theorem F4.len {G:A3} {x:IV} {z:Int} (h:F4 G x z) {m:Nat} (hz:(z.natAbs:Int)<pw m):x.n≤m:=by
 obtain ⟨l,h1,_,_,h4⟩:=h;rw [←h1];exact h4.len hz
section
attribute [local irreducible] uS pw vJ p2
end
theorem az (G:A3) (n:Int) (hn:-9223372036854775808≤n∧n≤9223372036854775807) :
 Does Tryz.prog 59 [.int .i64 n] G [] (fun v G' Ho=>∃ r:IV,v=.agg (A2.enc r).toArray∧F4 G' r n∧Ho=[]):=c59 G n hn
section
attribute [local irreducible] uS pw vJ p2
end
section
attribute [local irreducible] uS pw vJ p2
def bd (m N:Nat) (rs:List (List Int)):Prop:=∀ zs∈rs,zs.length=N∧Go.Sl.Below m zs
end
def A8 (G:A3) (l:List IV) (zs:List Int):Prop:=l.length=zs.length∧∀ i:Nat,i<l.length→B9 G (l[i]?.getD default) (zs[i]?.getD 0)
theorem A8.up {G G':A3} {l:List IV} {zs:List Int} (h:A8 G l zs) (hl:G.le G'):A8 G' l zs:=⟨h.1,fun i hi=>(h.2 i hi).up hl⟩
theorem A8.at {G:A3} {l:List IV} {zs:List Int} (h:A8 G l zs) {k:Int} (hk:0≤k∧k<l.length):B9 G (l[k.toNat]?.getD default) (zs[k.toNat]?.getD 0):=h.2 _ uJ
theorem A8.nil (G:A3):A8 G [] []:=⟨U,fun i hi=>by simp at hi⟩
theorem A8.set {G:A3} {l:List IV} {zs:List Int} (h:A8 G l zs) (k:Nat) {x:IV} {z:Int} (hx:B9 G x z):A8 G (l.set k x) (zs.set k z):=by
 refine ⟨by rw [aJ,aJ];exact h.1,fun i hi=>?_⟩;rw [aJ] at hi;rw [gL,gL];have h1:=h.1;by_cases hk:k=i
 · subst hk;rw [aM rfl,aM rfl,aM hi,aM (by omega)];exact hx
 rw [aE hk,aE hk];exact h.2 i hi
theorem A8.snoc {G:A3} {l:List IV} {zs:List Int} (h:A8 G l zs) {x:IV} {z:Int} (hx:B9 G x z):A8 G (l++[x]) (zs++[z]):=by
 refine ⟨by rw [aI,aI,h.1];rfl,fun i hi=>?_⟩;rw [aI,gJ] at hi;have h1:=h.1;rcases aK i l.length with h2 | h2
 · rw [bC h2,bC uJ];exact h.2 i h2
 have e:i=l.length:=uJ;subst e;rw [cD (aG _),iW,h1,cD (aG _),iW];exact hx
theorem EM (G:A3) (n:Nat):A8 G (List.replicate n (default:IV)) (List.replicate n 0):=by
 refine ⟨by rw [aC,aC],fun i hi=>?_⟩;rw [aC] at hi;rw [lF,lF,aM hi,aM hi];exact B9.zero G
abbrev pC:=@EM
def Below (m:Nat) (zs:List Int):Prop:=∀ z∈zs,(z.natAbs:Int)<pb m
theorem Below.at {m:Nat} {zs:List Int} (h:Below m zs) (k:Nat):((zs[k]?.getD 0).natAbs:Int)<pb m:=by
 rcases aK k zs.length with h1 | h1
 · rw [aA h1];exact h _ (dY h1)
 rw [bF h1];exact xV m
theorem be:((1:Int).natAbs:Int)<pb 1:=by unfold pb;decide
theorem bg (n:Nat):p2 n=((2 ^ n:Nat):Int):=rfl
theorem Pn {z:Int}:Jd z=0↔z=0:=by
 unfold Jd;split
 · simp [*]
 split <;> omega
theorem EN {x y:Int} (hy:y≠0):((x % y).natAbs:Int)<y.natAbs:=by
 have e1:=kA x hy;rcases Int.lt_or_gt_of_ne hy with h | h
 · have e2:=eM x (show 0 < -y by omega);rw [Int.emod_neg] at e2;omega
 have e2:=eM x h;omega
section
attribute [local irreducible] uM pb vJ uZ p2
theorem qo (G:A3) (n:Nat) (hn:n≤64) :
 Does Tryz.prog 317 [.int .i64 (n:Int)] G [] (fun v G' Ho=>∃ r:IV,v=.agg (A2.enc r).toArray∧B9 G' r (p2 n)∧Ho=[]):=by
 refine D0 Tryz.func317 Tryz.ntmps317 fun w=>?_;refine aL 2 [] ?_;refine bB 0 U T.zero89 fun b1=>?_;refine aN 4 [] ?_;refine cQ 1 U (OC _ _ uJ) fun v1 G1 Ho1 hle1 hp=>?_;obtain ⟨ro1,rfl,hro1,rfl⟩:=hp;refine aF 1 [] ?_;refine jB 7 U (show _=Value.int .i64 ((32*(n / 32)+n % 32:Nat):Int) by rw [lY]) ?_;refine cQ 20 U (c56 _ ro1 1 (n / 32) (n % 32) hro1 (aP (jG hro1 be) uR) (iX _ uR) uJ) fun v9 G9 Ho9 hle9 hp=>?_;obtain ⟨r9,rfl,hr9,rfl⟩:=hp;refine aF 3 [] ?_;refine bB 1 U T.zero89 fun b2=>?_;refine bA 11 [1,1,0] ?_;refine cP (.inr U) (Ho:=Hp.only _ []) U (.agg 0 U U T.agg89) (aV _ _) ?_;exact ⟨r9,U,B9.out hr9 (by rw [lY,eO,bg]),U⟩
end
def yN (a b:Int):Prop:=-16≤a∧a≤16∧-16≤b∧b≤16
instance (a b:Int):Decidable (yN a b):=inferInstanceAs (Decidable (_∧_))
theorem iw (G:A3) (n:Int):Does Tryz.prog 205 [.int .i64 n] G [] (fun v G' Ho=>v=.bool (decide (-16≤n∧n≤16))∧G'=G∧Ho=[]):=by
 refine D0 Tryz.func205 Tryz.ntmps205 fun w=>?_;refine aL 10 [] ?_;apply gE 3 5 8 U;intro hg1;refine aF 5 [] ?_;exact gO 3 0;intro hg1;refine aF 3 [] ?_;exact gO 3 0;refine bA 4 [] ?_;refine cZ ?_;exact ⟨U,U,U⟩
theorem qp (G:A3) (n:Int) (h:-9223372036854775807≤n):Does Tryz.prog 316 [.int .i64 n] G [] (fun v G' Ho=>v=.int .i64 (n.natAbs:Int)∧G'=G∧Ho=[]):=by
 refine D0 Tryz.func316 Tryz.ntmps316 fun w=>?_;refine dN 12 [] ?_;refine hZ (fun hc1=>?_) fun hc1=>?_;refine aL 3 [] ?_;refine aT (Qy.neg U uJ) ?_;refine bA 5 [] ?_;refine cZ ?_;rotate_left;refine cJ 9 [] ?_;refine cZ ?_;rotate_left
 · exact ⟨by congr 1;omega,U,U⟩
 exact ⟨by congr 1;omega,U,U⟩
theorem qr (G:A3) (a b:Int) (h1:-4611686018427387904≤a∧a≤4611686018427387904) (h2:-4611686018427387904≤b∧b≤4611686018427387904):Does Tryz.prog 290 [.int .i64 a,.int .i64 b] G [] (fun v G' Ho=>v=.int .i64 (Int.gcd a b:Int)∧G'=G∧Ho=[]):=by
 refine D0 Tryz.func290 Tryz.ntmps290 fun w=>?_;refine dN 7 [] ?_;refine kL (ι:=Int×Int) (fun (x,y)=>([(0,.int .i64 x),(1,.int .i64 y),(4,.int .i64 0)],[])) (fun (x,y)=>Int.gcd x y=Int.gcd a b∧(-4611686018427387904≤x∧x≤4611686018427387904)∧(-4611686018427387904≤y∧y≤4611686018427387904)) (fun (x,y)=>y.natAbs) ((a,b)) (⟨U,h1,h2⟩) fun ⟨x,y⟩=>fun hk=>?_;obtain ⟨hg,hx,hy⟩:=hk;refine dN 7 [] ?_;refine hZ (fun hc1=>?_) fun hc1=>?_;refine dN 3 [] ?_;refine gK [] [] T.mixed [[0],[1],[2]] ?_;refine eP 3 [] U (Qy.rem U U uJ) ?_;refine gS [[4],[5]] ?_;refine eI ?_;refine lW ?_;rotate_left;refine aL 8 [] ?_;refine dC U (qp _ _ uJ) ?_;refine bA 4 [] ?_;refine cZ ?_;rotate_left
 · have e:=Int.natAbs_tmod x y;have hyp:0<y.natAbs:=uJ;have e2:=iX x.natAbs hyp;have e3:=Nat.mod_le x.natAbs y.natAbs;refine eH ((y,x.tmod y)) ?_ ?_
   · refine ⟨?_,hy,by omega⟩;rw [←hg];show Nat.gcd y.natAbs (x.tmod y).natAbs=Nat.gcd x.natAbs y.natAbs;rw [e,Nat.gcd_comm,←Nat.gcd_rec,Nat.gcd_comm]
   show (x.tmod y).natAbs<y.natAbs;omega
 refine ⟨?_,U,U⟩;rw [←hg];have e:y=0:=uJ;subst e;rw [Int.gcd_zero_right]
theorem qt (G:A3) (a b:Int):Does Tryz.prog 164 [.agg #[.int .i64 a,.int .i64 b]] G [] (fun v G' Ho=>v=.bool (decide (yN a b))∧G'=G∧Ho=[]):=by
 refine D0 Tryz.func164 Tryz.ntmps164 fun w=>?_;refine aL 2 [] ?_;refine fK 0 fun b1=>?_;refine aN 7 [0] ?_;refine dC U (by apply iw <;> first | assumption | omega | rfl) ?_;refine aF 1 [] ?_;apply gE 4 6 10 U;intro hg1;refine aF 5 [0] ?_;refine dC U (by apply iw <;> first | assumption | omega | rfl) ?_;refine aF 1 [] ?_;exact gO 4 0;intro hg1;refine aF 4 [] ?_;exact gO 4 0;refine bA 4 [] ?_;refine cZ ?_;exact ⟨by congr 1;exact decide_eq_decide.mpr (by unfold yN;omega),U,U⟩
theorem ix (G:A3) (a b:Int):Does Tryz.prog 166 [.agg #[.int .i64 a,.int .i64 b]] G [] (fun v G' Ho=>v=.bool (decide (a=0∧b=0))∧G'=G∧Ho=[]):=by
 refine D0 Tryz.func166 Tryz.ntmps166 fun w=>?_;refine aL 2 [] ?_;refine fK 0 fun b1=>?_;refine aN 6 [0] ?_;refine aT (fY (cs:=[_,_]) T.st51 U U U) ?_;refine aT (Nh [_,_] [_,_] T.ai51 U U U U) ?_;refine bA 4 [] ?_;refine cZ ?_;exact ⟨by congr 1;exact decide_eq_decide.mpr vL,U,U⟩
def AO (a b:Int):Int:=if b<0∨(b=0∧a<0) then -(Int.gcd a b:Int) else (Int.gcd a b:Int)
def ZI (a b:Int):Int×Int:=if a=0∧b=0 then (a,b) else (a.tdiv (AO a b),b.tdiv (AO a b))
theorem Jg (a g:Int):-(a.natAbs:Int)≤a.tdiv g∧a.tdiv g≤a.natAbs:=by
 have h:(a.tdiv g).natAbs=a.natAbs / g.natAbs:=Int.natAbs_tdiv a g;have h2:=Nat.div_le_self a.natAbs g.natAbs;omega
theorem iy (G:A3) (a b:Int) (h1:-4611686018427387904≤a∧a≤4611686018427387904) (h2:-4611686018427387904≤b∧b≤4611686018427387904):Does Tryz.prog 248 [.agg #[.int .i64 a,.int .i64 b]] G [] (fun v G' Ho=>v=.agg #[.int .i64 (ZI a b).1,.int .i64 (ZI a b).2]∧G'=G∧Ho=[]):=by
 refine D0 Tryz.func248 Tryz.ntmps248 fun w=>?_;have hga:=Int.gcd_dvd_left a b;have hgb:=Int.gcd_dvd_right a b;have hgm:(Int.gcd a b:Int)≤4611686018427387904:=by
  by_cases h:a=0
  · subst h;rw [Int.gcd_zero_left];omega
  have:=Int.le_of_dvd (show 0<(a.natAbs:Int) by omega) (Int.dvd_natAbs.mpr hga);omega
 have q1:=Jg a (Int.gcd a b:Int);have q2:=Jg b (Int.gcd a b:Int);have q3:=Jg a (-(Int.gcd a b:Int));have q4:=Jg b (-(Int.gcd a b:Int));refine aL 2 [] ?_;refine fK 0 fun b1=>?_;refine bB 1 U T.zero51 fun b2=>?_;refine aN 8 [0,0] ?_;refine dC U (qr _ _ _ uJ uJ) ?_;refine bY 12 [] ?_;refine hZ (fun hc1=>?_) fun hc1=>?_;refine cJ 9 [0,1] ?_;refine cP (.inr U) (Ho:=Hp.only _ []) U (.agg 1 U U T.agg51) (aV _ _) ?_;rotate_left;refine dN 9 [0] ?_;refine hZ (fun hc2=>?_) fun hc2=>?_;refine aL 5 [1] ?_;refine aT (Qy.neg U uJ) ?_;refine bY 5 [] ?_;refine gK [0,1] [(1,9)] T.mixed [[0],[1,0],[2]] ?_;refine eP 3 [] U (Qy.quo U U uJ uJ) ?_;refine gS [[4],[5,0],[6]] ?_;refine eP 7 [] U (Qy.quo U U uJ uJ) ?_;refine eP 8 [] U (fY (cs:=[_,_]) T.st51 U U U) ?_;refine fC 9 ?_;refine aF 1 [1] ?_;refine lC ?_;refine iN 2 [] ?_;refine cP (.inr U) (Ho:=Hp.only _ []) U (.agg 1 U U T.agg51) (aV _ _) ?_;rotate_left;refine aL 5 [0] ?_;apply gE 4 20 24 U;intro hg1;refine aF 7 [0] ?_;exact gO 4 0;intro hg1;refine aF 4 [] ?_;exact gO 4 0;refine bY 3 [] ?_;refine hZ (fun hc3=>?_) fun hc3=>?_;refine aL 2 [] ?_;refine aT (Qy.neg U uJ) ?_;refine bY 5 [] ?_;refine gK [0,1] [(1,9)] T.mixed [[0],[1,0],[2]] ?_;refine eP 3 [] U (Qy.quo U U uJ uJ) ?_;refine gS [[4],[5,0],[6]] ?_;refine eP 7 [] U (Qy.quo U U uJ uJ) ?_;refine eP 8 [] U (fY (cs:=[_,_]) T.st51 U U U) ?_;refine fC 9 ?_;refine aF 1 [1] ?_;refine lC ?_;refine iN 2 [] ?_;refine cP (.inr U) (Ho:=Hp.only _ []) U (.agg 1 U U T.agg51) (aV _ _) ?_;rotate_left;refine dN 4 [] ?_;refine gK [0,1] [(1,9)] T.mixed [[0],[1,0],[2]] ?_;refine eP 3 [] U (Qy.quo U U uJ uJ) ?_;refine gS [[4],[5,0],[6]] ?_;refine eP 7 [] U (nB U U uJ) ?_;refine eP 8 [] U (fY (cs:=[_,_]) T.st51 U U U) ?_;refine fC 9 ?_;refine aF 1 [1] ?_;refine lC ?_;refine iN 2 [] ?_;refine cP (.inr U) (Ho:=Hp.only _ []) U (.agg 1 U U T.agg51) (aV _ _) ?_;rotate_left
 · obtain ⟨ea,eb⟩:=Int.gcd_eq_zero_iff.mp (show Int.gcd a b=0 by omega);exact ⟨by unfold ZI;rw [aM ⟨ea,eb⟩],U,U⟩
 · have hn:¬(a=0∧b=0):=uJ;exact ⟨by unfold ZI AO;rw [aE hn,aM (by omega)],U,U⟩
 · have hn:¬(a=0∧b=0):=uJ;exact ⟨by unfold ZI AO;rw [aE hn,aM (by omega)],U,U⟩
 have hn:¬(a=0∧b=0):=fun h=>hc1 (by rw [h.1,h.2];rfl);exact ⟨by unfold ZI AO;rw [aE hn,aE (by omega),Int.tdiv_eq_ediv_of_nonneg (a:=b) uJ],U,U⟩
def same (a b c d:Int):Prop:=ZI a b=ZI c d
instance (a b c d:Int):Decidable (same a b c d):=inferInstanceAs (Decidable (_=_))
theorem qu (G:A3) (a b c d:Int):Does Tryz.prog 207 [.agg #[.int .i64 a,.int .i64 b],.agg #[.int .i64 c,.int .i64 d]] G [] (fun v G' Ho=>v=.tuple #[.bool (decide (yN a b∧yN c d∧same a b c d)),.int .i64 (if yN a b∧yN c d then 0 else 2)]∧G'=G∧Ho=[]):=by
 refine D0 Tryz.func207 Tryz.ntmps207 fun w=>?_;refine aL 2 [] ?_;refine fK 0 fun b1=>?_;refine fK 1 fun b2=>?_;refine aN 8 [0] ?_;refine dC U Tv ?_;refine aT (gF U) ?_;refine aF 1 [] ?_;apply fG 4 9 13 U;intro hg1;refine aF 3 [1] ?_;refine dC U Tv ?_;refine aF 1 [] ?_;refine aT (gF U) ?_;refine aF 1 [] ?_;exact gO 4 0;intro hg1;refine aF 4 [] ?_;exact gO 4 0;refine bY 2 [] ?_;refine hZ (fun hc1=>?_) fun hc1=>?_;refine cJ 8 [] ?_;refine fU ?_;rotate_left;refine dN 3 [] ?_;refine gK [0,1] [] T.mixed [[0,0],[2,1]] ?_;refine fC 1 ?_;refine dC U (iy _ _ _ Ty Ty) ?_;refine eD 3 ?_;refine dC U (iy _ _ _ Ty Ty) ?_;refine dG ?_;refine eP 4 [] U (Nh [_,_] [_,_] T.ai51 U U U U) ?_;refine gS [[5],[6]] ?_;refine eI ?_;refine iN 2 [] ?_;refine fU ?_;rotate_left
 · exact ⟨by rw [aE (by unfold yN at *;omega),cM (fun h=>absurd (And.intro h.1 h.2.1) Ty)],rfl,rfl⟩
 refine ⟨?_,U,U⟩;rw [aM (by unfold yN at *;omega)];congr 4;exact decide_eq_decide.mpr (by unfold same yN at *;rw [Prod.ext_iff];simp;omega)
def EO (p q:R2):Prop:=yN p.a p.b∧yN q.a q.b∧same p.a p.b q.a q.b
def Twin (l:List R2):Prop:=∃ j,j<l.length∧∃ i,i<j∧EO (l[i]?.getD default) (l[j]?.getD default)
theorem iz (G:A3) (a:Option Addr) (c:Nat) (l:List R2) (ha:Arr G a l) (h1:l.length≤1048576) (hc:l.length≤c):Does Tryz.prog 167 [.slice a l.length c] G [] (fun v G' Ho=>∃ (i j:Int) (b:Bool),v=.tuple #[.int .i64 i,.int .i64 j,.bool b]∧(b=true↔Twin l)∧G'=G∧Ho=[]):=by
 refine D0 Tryz.func167 Tryz.ntmps167 fun w=>?_;refine dN 16 [] ?_;refine kL (ι:=Nat) (fun j=>([(13,.int .i64 (j:Int)),(12,.int .i64 (l.length:Int)),(11,.slice a (List.length l) c),(0,.slice a (List.length l) c)],[])) (fun j=>j≤l.length∧(∀ j',j'<j→∀ i,i<j'→¬EO (l[i]?.getD default) (l[j']?.getD default))) (fun j=>l.length - j) (0) (⟨aS _,fun j' h=>absurd h uJ⟩) fun j=>fun hk=>?_;obtain ⟨hj,hno⟩:=hk;refine dN 6 [] ?_;refine hZ (fun hc1=>?_) fun hc1=>?_;refine aL 7 [] ?_;refine fF (α:=R2) T.sl22 ?_;refine qF T.agg51 ?_;refine bB 0 U T.zero51 fun b1=>?_;refine aN 8 [0] ?_;refine aT (Xc T.sl22 U U uJ) ?_;refine bY 5 [] ?_;rotate_left;refine cJ 13 [] ?_;refine sR ?_;rotate_left
 · have haj:Arr G (C4 a c 0 2) (l.take j):=Iv ha j;have ej:(l.take j).length=j:=by rw [bI];omega
   refine iD 20 U (show _=Value.slice (C4 a c 0 2) (l.take j).length c by rw [ej];rfl) ?_;refine kL (ι:=Nat) (fun i=>([(22,.int .i64 (i:Int)),(0,.slice a l.length c),(11,.slice a l.length c),(12,.int .i64 (l.length:Int)),(20,.slice (Go.Sl.C4 a c 0 2) (List.length (List.take j l)) c),(21,.int .i64 (↑(Int.toNat (↑j:Int)):Int)),(5,.int .i64 (↑j:Int)),(6,.pointer (some ⟨b1,0,none⟩)),(13,.int .i64 (↑j:Int))],[(0,some b1,.cells (List.toArray (A2.enc (Option.getD l[Int.toNat (↑j:Int)]? default))) 51)])) (fun i=>i≤j∧(∀ i',i'<i→¬EO (l[i']?.getD default) (l[j]?.getD default))) (fun i=>j - i) (0) (⟨aS _,fun i' h=>absurd h uJ⟩) fun i=>fun hk=>?_;obtain ⟨hi,hni⟩:=hk;have eti:i<j→(l.take j)[(i:Int).toNat]?.getD default=l[i]?.getD default:=fun h=>by rw [fO,aM (by omega)];rfl
   have etj:l[(j:Int).toNat]?.getD default=l[j]?.getD default:=rfl;refine dN 6 [] ?_;refine hZ (fun hc2=>?_) fun hc2=>?_;refine aL 7 [] ?_;refine fF (α:=R2) T.sl22 ?_;refine qF T.agg51 ?_;refine bB 1 U T.zero51 fun b2=>?_;refine aN 8 [1,1,0] ?_;refine dC U (by apply qu <;> first | assumption | omega | rfl) ?_;refine bY 12 [] ?_;refine hZ (fun hc3=>?_) fun hc3=>?_;refine cJ 19 [] ?_;refine sR ?_;rotate_left;refine cJ 7 [] ?_;rotate_left;refine cJ 10 [] ?_;rotate_left
   · rw [eti uJ] at hc3;exact ⟨_,_,true,U,⟨fun _=>⟨j,by omega,i,by omega,hc3⟩,fun _=>rfl⟩,U,U⟩
   · refine dH 22 U (show _=Value.int .i64 ((i+1:Nat):Int) from U) ?_;refine eH (i+1) ?_ ?_
     · refine ⟨by omega,fun i' h2=>?_⟩;rcases aK i' i with h | h
       · exact hni i' h
       have e:i'=i:=uJ;subst e;intro hq;rw [eti uJ] at hc3;exact hc3 hq
     omega
   refine dH 13 U (show _=Value.int .i64 ((j+1:Nat):Int) from U) ?_;refine eH (j+1) ?_ ?_
   · refine ⟨by omega,fun j' h1 i h2=>?_⟩;rcases aK j' j with h | h
     · exact hno j' h i h2
     have e:j'=j:=uJ;subst e;exact hni i uJ
   omega
 refine ⟨0,0,false,U,⟨fun h=>absurd h uR,fun ⟨j',h1,i',h2,h3⟩=>absurd h3 (hno j' uJ i' h2)⟩,U,U⟩
def ZJ (p:R2):Prop:=yN p.a p.b∧¬(p.a=0∧p.b=0)
def yO (l:List R2):Prop:=1≤l.length∧l.length≤15∧(∀ i,i<l.length→ZJ (l[i]?.getD default))∧¬Twin l
theorem qw (G:A3) (a:Option Addr) (c:Nat) (l:List R2) (ha:Arr G a l) (h1:l.length≤1048576) (hc:l.length≤c):Does Tryz.prog 226 [.slice a l.length c] G [] (fun v G' Ho=>∃ b:Bool,v=.bool b∧(b=true↔yO l)∧G'=G∧Ho=[]):=by
 refine D0 Tryz.func226 Tryz.ntmps226 fun w=>?_;refine aL 12 [] ?_;apply fG 4 11 15 U;intro hg1;refine aF 7 [] ?_;exact gO 4 0;intro hg1;refine aF 4 [] ?_;exact gO 4 0;refine bY 2 [] ?_;refine hZ (fun hc1=>?_) fun hc1=>?_;refine cJ 7 [] ?_;refine cZ ?_;rotate_left;refine dN 11 [] ?_;rotate_left
 · exact ⟨false,U,⟨fun h=>absurd h uR,fun h=>absurd h.1 (by have:=h.2.1;omega)⟩,U,U⟩
 refine kL (ι:=Nat) (fun j=>([(18,.int .i64 (j:Int)),(0,.slice a l.length c),(17,.int .i64 (l.length:Int)),(16,.slice a (List.length l) c)],[])) (fun j=>j≤l.length∧(∀ i,i<j→ZJ (l[i]?.getD default))) (fun j=>l.length - j) (0) (⟨aS _,fun j' h=>absurd h uJ⟩) fun j=>fun hk=>?_;obtain ⟨hj,hno⟩:=hk;refine dN 6 [] ?_;refine hZ (fun hc2=>?_) fun hc2=>?_;refine aL 6 [] ?_;refine fF (α:=R2) T.sl22 ?_;refine qF T.agg51 ?_;refine bB 0 U T.zero51 fun b1=>?_;refine aN 6 [0,0] ?_;refine dC U Tv ?_;refine aT (gF U) ?_;refine aF 1 [] ?_;apply fG 3 25 28 U;intro hg1;refine aF 3 [0] ?_;refine dC U (by apply ix <;> first | assumption | omega | rfl) ?_;refine aF 1 [] ?_;exact gO 3 0;intro hg1;refine aF 3 [] ?_;exact gO 3 0;refine bY 2 [] ?_;refine hZ (fun hc3=>?_) fun hc3=>?_;refine cJ 11 [] ?_;refine cZ ?_;rotate_left;refine cJ 7 [] ?_;rotate_left;refine aL 8 [] ?_;refine cQ 0 U (iz _ _ _ _ uK uJ vG) fun v1 G1 Ho1 hle1 hp=>?_;obtain ⟨ti1,tj1,tb1,rfl,htb1,rfl,rfl⟩:=hp;refine bA 17 [] ?_;refine cZ ?_;rotate_left
 · exact ⟨false,U,⟨fun h=>absurd h uR,fun h=>absurd (h.2.2.1 j uJ) (by show ¬ZJ (l[(j:Int).toNat]?.getD default);unfold ZJ;unfold yN at *;omega)⟩,U,U⟩
 · refine dH 18 U (show _=Value.int .i64 ((j+1:Nat):Int) from U) ?_;refine eH (j+1) ?_ ?_
   · refine ⟨by omega,fun i' h2=>?_⟩;rcases aK i' j with h | h
     · exact hno i' h
     have e:i'=j:=uJ;subst e;show ZJ (l[(i':Int).toNat]?.getD default);unfold ZJ;unfold yN at *;omega
   omega
 refine ⟨!tb1,U,?_,U,U⟩;have e:(∀ i,i<l.length→ZJ (l[i]?.getD default)):=fun i hi=>hno i uJ;rw [eJ,Bool.eq_false_iff,ne_eq,htb1];exact ⟨fun h=>⟨by omega,by omega,e,h⟩,fun h=>h.2.2.2⟩
instance (a b c d:Int):Decidable (if (a=0∧b=0)∨(c=0∧d=0) then (a=0∧b=0)∧(c=0∧d=0) else a*d - c*b=0):=by split <;> infer_instance
def qx (a b c d:Int):Prop:=if (a=0∧b=0)∨(c=0∧d=0) then (a=0∧b=0)∧(c=0∧d=0) else a*d - c*b=0
instance (a b c d:Int):Decidable (qx a b c d):=inferInstanceAs (Decidable (if (a=0∧b=0)∨(c=0∧d=0) then (a=0∧b=0)∧(c=0∧d=0) else a*d - c*b=0))
section
attribute [local irreducible] uM pb vJ uZ p2
theorem bh (G:A3) (x:IV) (z n:Int) (hx:B9 G x z) (h1:x.n≤536870912) (hn:-9223372036854775808≤n∧n≤9223372036854775807) :
 Does Tryz.prog 253 [.agg (A2.enc x).toArray,.int .i64 n] G [] (fun v G' Ho=>∃ r:IV,v=.agg (A2.enc r).toArray∧B9 G' r (z*n)∧Ho=[]):=by
 have hn3:(n.natAbs:Int)<pb 3:=by
  have e:pb 3=79228162514264337593543950336:=by unfold pb;decide
  omega
 obtain ⟨n1,a,k1,ca⟩:=x;refine D0 Tryz.func253 Tryz.ntmps253 fun w=>?_;refine aL 2 [] ?_;refine fK 0 fun b1=>?_;refine bB 1 U T.zero89 fun b2=>?_;refine bY 3 [] ?_;refine gK [0,1] [(1,4)] T.mixed [[0,0],[1]] ?_;refine fC 2 ?_;refine cQ 2 U (OC _ _ uJ) fun v1 G1 Ho1 hle1 hp=>?_;obtain ⟨ro,rfl,hro,rfl⟩:=hp;replace hx:=hx.up hle1;refine eD 3 ?_;refine cQ 2 U (oq _ _ _ _ _ hx hro h1 (aP (jG hro hn3) uR)) fun v2 G2 Ho2 hle2 hp=>?_;obtain ⟨rm,rfl,hrm,rfl⟩:=hp;replace hro:=hro.up hle2;replace hx:=hx.up hle2;refine eD 4 ?_;refine aF 1 [1] ?_;refine lC ?_;refine iN 2 [] ?_;refine cP (.inr U) (Ho:=Hp.only _ []) U (.agg 1 U U T.agg89) (aV _ _) ?_;exact ⟨rm,U,hrm,U⟩
end
section
attribute [local irreducible] uM pb vJ uZ p2
def yP (a b:Int) (n:Nat):List Int:=(List.range n).map fun j=>a ^ j*b ^ (n - 1 - j)
theorem ja (G:A3) (a b:Int) (n:Nat) (hp:yN a b) (hn:n≤15) :
 Does Tryz.prog 210 [.agg #[.int .i64 a,.int .i64 b],.int .i64 n] G [] (fun v G' Ho=>∃ (s:Option Addr) (r:List IV) (c':Nat),v=.tuple #[.slice s r.length c',.int .i64 0]∧Arr G' s r∧A8 G' r (yP a b n)∧r.length≤c'∧Ho=[]):=by
 refine D0 Tryz.func210 Tryz.ntmps210 fun w=>?_;have hpn:¬((¬yN a b∨(n:Int)<0)∨16<(n:Int)):=Ty;refine aL 2 [] ?_;refine fK 0 fun b1=>?_;refine aN 8 [0] ?_;refine dC U Tv ?_;refine aT (gF U) ?_;refine aF 1 [] ?_;apply fG 3 14 17 U;intro hg1;refine aF 5 [] ?_;exact gO 3 0;intro hg1;refine aF 3 [] ?_;exact gO 3 0;refine aF 1 [] ?_;apply fG 3 18 21 U;intro hg1;refine aF 5 [] ?_;exact gO 3 0;intro hg1;refine aF 3 [] ?_;exact gO 3 0;refine aN 8 [0] ?_;refine jL (α:=IV) 1 U T.sl39 T.el89 U U uJ uJ fun b2=>?_;refine aN 5 [] ?_;refine cQ 2 U (OC _ 1 uR) fun v1 G1 Ho1 hle1 hp=>?_;obtain ⟨ro1,rfl,hro1,rfl⟩:=hp;refine cQ 2 U (OC _ 1 uR) fun v2 G2 Ho2 hle2 hp=>?_;obtain ⟨ro2,rfl,hro2,rfl⟩:=hp;replace hro1:=hro1.up hle2;refine bB 2 U T.zero89 fun b3=>?_;refine bB 3 U T.zero89 fun b4=>?_;refine bY 13 [2,3] ?_;refine iD 6 U (show _=Value.slice (some ⟨b2,0,none⟩) (List.replicate n (default:IV)).length n by simp) ?_;have e2:(List.replicate n (default:IV)).length=n:=aC ..;refine fX (ι:=Nat×A3×List IV×IV×(Option Addr×Nat×List Value)) (fun (k,Gx,r,x,(o,d,j))=>([(28,.int .i64 (k:Int)),(6,.slice o r.length d),(27,.int .i64 (↑(List.length (List.replicate (Int.toNat (↑n:Int)) default)):Int)),(8,.pointer (some (Addr.mk b4 0 none))),(7,.pointer (some (Addr.mk b3 0 none))),(5,.int .i64 0),(4,.slice none 0 0),(2,.pointer (some ⟨b1,0,none⟩)),(1,.int .i64 (↑n:Int))],[(1,o.map (·.block),Row 89 r j),(2,some b3,.cells (A2.enc x).toArray 89),(3,some b4,.cells (List.toArray (A2.enc ro2)) 89),(0,some b1,.cells #[.int .i64 a,.int .i64 b] 51)])) (fun (k,Gx,r,x,(o,d,j))=>Gx) (fun (k,Gx,r,x,(o,d,j))=>k≤n∧G2.le Gx∧r.length=n∧A8 Gx r ((List.range n).map fun i=>if i<k then a ^ i else 0)∧B9 Gx x (a ^ k)∧A5 o d r j) (fun (k,Gx,r,x,(o,d,j))=>n - k) ((0,G2,List.replicate n default,ro1,(some ⟨b2,0,none⟩,n,[]))) (⟨aS _,cC _,aC ..,by have e:(List.range n).map (fun i=>if i<0 then a ^ i else 0)=List.replicate n (0:Int):=by { apply oZ <;> simp };rw [e];exact pC _ _,by rw [lP];exact hro1,.inr ⟨b2,U,by rw [aC];rfl,by omega,by simp only [maxLen];omega⟩⟩) U ⟨U,U,U,U,U,U,U,U,U,I8⟩ ⟨U,U,U,U,I8⟩ fun ⟨k,Gx,r,x,(o,d,j)⟩=>fun hk=>?_;obtain ⟨hk1,hk2,hk3,hk4,hk5,hob⟩:=hk;have e1:(List.replicate ((n:Int)).toNat (default:IV)).length=n:=Oc;have e0:(List.replicate n (default:IV)).length=n:=aC ..;have hx3:k≤15→((a ^ k).natAbs:Int)<pb 3:=fun h=>by
  have e:pb 3=79228162514264337593543950336:=by unfold pb;decide
  have e2:(a ^ k).natAbs≤16 ^ 15:=by
   rw [sL];exact aP (lA (show a.natAbs≤16 by unfold yN at hp;omega) k) (eR uJ h)
  have e3:(16:Nat) ^ 15=1152921504606846976:=uR;omega
 have hxn:x.n≤536870912:=aP (jG hk5 (hx3 uJ)) uR;refine dN 6 [] ?_;refine hZ (fun hc1=>?_) fun hc1=>?_;refine aL 15 [2] ?_;refine kZ (α:=IV) T.sl39 ?_;rotate_left;refine dN 14 [] ?_;rotate_left
 · refine fL (z:=x) 1 T.size89 U U U uK uJ U fun h9=>?_;refine aN 6 [2,0] ?_;refine cQ 4 U (bh _ _ _ a hk5 hxn HC) fun v3 G3 Ho3 hle3 hp=>?_;obtain ⟨rt,rfl,hrt,rfl⟩:=hp;replace hk4:=hk4.up hle3;replace hk5:=hk5.up hle3;refine bA 8 [2] ?_;have hle3':Gx.le G3:=hle3;refine dH 28 U (show _=Value.int .i64 ((k+1:Nat):Int) from U) ?_;refine dH 6 U (show _=Value.slice o (r.set (k:Int).toNat x).length d by rw [aJ]) ?_;refine eH ((k+1,G3,r.set (k:Int).toNat x,rt,(o,d,j))) ?_ ?_
   · refine ⟨by omega,bH hk2 hle3',by rw [aJ];exact hk3,?_,by rw [lQ];exact hrt,h9⟩;have h8:=hk4.set k hk5;rw [aH];have e:((List.range n).map fun i=>if i<k then a ^ i else 0).set k (a ^ k)=(List.range n).map fun i=>if i<k+1 then a ^ i else 0:=by
      apply oZ
      · simp
      intro i h1 h2;rw [List.getElem_set];simp only [oY,qI];by_cases h:k=i
      · subst h;simp
      rw [aE h];by_cases h7:i<k
      · rw [aM h7,aM (by omega)]
      rw [aE h7,aE (by omega)]
     rw [e] at h8;exact h8
   show n - (k+1)<n - k;omega
 have hkn:k=n:=uJ;subst hkn;have hl1:(List.range k).map (fun i=>if i<k then a ^ i else (0:Int))=(List.range k).map fun m=>if ((m:Nat):Int)≤(k:Int) - 1 then a ^ m else a ^ m*b ^ (k - 1 - m):=by
  apply dI;intro m hm;rw [oM] at hm;rw [aM hm,aM (by omega)]
 rw [hl1] at hk4;refine Wc.lg (ι:=Int×A3×List IV×IV) (fun (i,Gy,q,y)=>([(10,.int .i64 i),(6,.slice o q.length d),(8,.pointer (some (Addr.mk b4 0 none))),(5,.int .i64 0),(4,.slice none 0 0),(2,.pointer (some ⟨b1,0,none⟩))],[(1,o.map (·.block),Row 89 q j),(3,some b4,.cells (A2.enc y).toArray 89),(2,some b3,.cells (List.toArray (A2.enc x)) 89),(0,some b1,.cells #[.int .i64 a,.int .i64 b] 51)])) (fun (i,Gy,q,y)=>Gy) (fun (i,Gy,q,y)=>-1≤i∧i<k∧Gx.le Gy∧q.length=k∧A8 Gy q ((List.range k).map fun m=>if ((m:Nat):Int)≤i then a ^ m else a ^ m*b ^ (k - 1 - m))∧B9 Gy y (b ^ ((k:Int) - 1 - i).toNat)∧A5 o d q j) (fun (i,Gy,q,y)=>(i+1).toNat) (((k:Int) - 1,Gx,r,ro2)) (⟨by omega,by omega,cC _,hk3,hk4,by rw [show ((k:Int) - 1 - ((k:Int) - 1)).toNat=0 by omega,lP];exact hro2.up hk2,hob⟩) fun ⟨i,Gy,q,y⟩=>fun hk=>?_;obtain ⟨hi1,hi2,hi3,hi4,hi5,hi6,hi7⟩:=hk;rcases Int.lt_or_le i 0 with hi0 | hi0
 · have hi9:i=-1:=uJ;subst hi9;have hl2:(List.range k).map (fun m=>if ((m:Nat):Int)≤-1 then a ^ m else a ^ m*b ^ (k - 1 - m))=yP a b k:=by
    unfold yP;apply dI;intro m hm;rw [aE (by omega)]
   rw [hl2] at hi5;refine cJ 21 [0] ?_;refine dX 1 U hi7 fun G8 hle8 hA8=>?_;refine fU ?_;exact ⟨_,_,_,U,hA8,hi5.up hle8,hi7.le,U⟩
 obtain ⟨m,rfl⟩:∃ m:Nat,i=(m:Int):=⟨i.toNat,by omega⟩
 have hmk:m<k:=uJ;have hbe:B9 Gy (q[(m:Int).toNat]?.getD default) (a ^ m):=by
  have h9:=hi5.2 m uJ;rw [bJ,dP hmk] at h9;rw [aH];simpa using h9
 have hsm:∀ (c:Int) (e:Nat),-16≤c∧c≤16→e≤15→((c ^ e).natAbs:Int)<pb 3:=fun c e hc he=>by
  have e0:pb 3=79228162514264337593543950336:=by unfold pb;decide
  have e2:(c ^ e).natAbs≤16 ^ 15:=by
   rw [sL];exact aP (lA (show c.natAbs≤16 by omega) e) (eR uJ he)
  have e3:(16:Nat) ^ 15=1152921504606846976:=uR;omega
 have hlq:=jG hbe (hsm a m HC uJ);have hly:=jG hi6 (hsm b _ HC uJ);have hyn:y.n≤536870912:=aP hly uR;refine dN 13 [1] ?_;refine gK [0,2,3,1] [(1,9),(3,9),(2,9),(0,9)] T.mixed [[0],[1],[2],[3]] ?_;refine nE (α:=IV) 4 T.sl39 ?_;refine eP 5 [1] U (Ks 1 T.agg89 U U uK uJ) ?_;refine gS [[6,3]] ?_;refine fC 7 ?_;refine cQ 4 U (oq _ _ _ _ _ hbe hi6 (aP hlq uR) (aP hly uR)) fun v3 G3 Ho3 hle3 hp=>?_;obtain ⟨rm3,rfl,hrm3,rfl⟩:=hp;replace hi5:=hi5.up hle3;replace hi6:=hi6.up hle3;replace hbe:=hbe.up hle3;refine dG ?_;refine nE (α:=IV) 8 T.sl39 ?_;refine fC 9 ?_;refine fL (z:=rm3) 1 T.size89 U U U uK uJ U fun h9=>?_;refine lC ?_;refine rH 5 [3,0] ?_;refine cQ 4 U (bh _ _ _ b uK hyn HC) fun v4 G4 Ho4 hle4 hp=>?_;obtain ⟨rt4,rfl,hrt4,rfl⟩:=hp;replace hrm3:=hrm3.up hle4;replace hi5:=hi5.up hle4;replace hi6:=hi6.up hle4;replace hbe:=hbe.up hle4;refine bA 9 [3] ?_;refine dH 6 U (show _=Value.slice o (q.set (m:Int).toNat rm3).length d by rw [aJ]) ?_;refine eH (((m:Int) - 1,_,q.set (m:Int).toNat rm3,rt4)) ?_ ?_
 · refine ⟨by omega,by omega,bH hi3 (bH uK uK),by rw [aJ];exact hi4,?_,?_,h9⟩
   · have h8:=hi5.set m hrm3;rw [aH];have e:((List.range k).map fun q=>if ((q:Nat):Int)≤(m:Int) then a ^ q else a ^ q*b ^ (k - 1 - q)).set m (a ^ m*b ^ ((k:Int) - 1 - (m:Int)).toNat)=(List.range k).map fun q=>if ((q:Nat):Int)≤(m:Int) - 1 then a ^ q else a ^ q*b ^ (k - 1 - q):=by
      apply oZ
      · simp
      intro i h1 h2;rw [List.getElem_set];simp only [oY,qI];by_cases h:m=i
      · subst h;rw [aM rfl,aE (by omega)];congr 2;omega
      rw [aE h];by_cases h7:(i:Int)≤(m:Int)
      · rw [aM h7,aM (by omega)]
      rw [aE h7,aE (by omega)]
     rw [e] at h8;exact h8
   have e:((k:Int) - 1 - ((m:Int) - 1)).toNat=((k:Int) - 1 - (m:Int)).toNat+1:=uJ;rw [e,lQ];exact hrt4
 show ((m:Int) - 1+1).toNat<((m:Int)+1).toNat;omega
end
end Go.Proofs.YtngphgeghfdjbaaGreatDoor
