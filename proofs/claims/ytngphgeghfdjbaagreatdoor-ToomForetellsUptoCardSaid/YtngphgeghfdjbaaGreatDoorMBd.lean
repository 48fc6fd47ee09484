/- uK of the proof (part 4): what the rows' text needs of the texts that lead to it. -/
import Derived.Test.YtngphgeghfdjbaaGreatDoorMBc
set_option linter.unusedVariables false
set_option linter.unusedSimpArgs false
set_option linter.unusedSectionVars false
set_option maxHeartbeats 4000000
set_option maxRecDepth 100000
namespace Go.Proofs.YtngphgeghfdjbaaGreatDoor
open Go Go.Sl
theorem IsBig.make {neg:Bool} {m:List U32} (hd:Lims m) (ht:Top m):IsBig (neg && decide (0<m.length)) m (if neg=true then -sX m else sX m):=by
 refine ⟨hd,ht,fun e=>by rw [e];simp,?_⟩
 by_cases h:0<m.length
 · simp [h]
 have e:m=[]:=cB sV
 rw [e];simp [tX]
theorem Big.make {G:Imm} {b:Option Addr} {c:Nat} {m:List U32} (neg:Bool) (hA:Arr G b m) (hd:Lims m) (ht:Top m) (hc:m.length≤c) {z:Int} (hz:z=if neg=true then -sX m else sX m):Big G ⟨neg && decide (0<m.length),b,m.length,c⟩ z:=
 ⟨m,rfl,hc,hA,hz▸IsBig.make hd ht⟩
abbrev nH:=@Big.make
theorem Big.len {G:Imm} {x:IV} {z:Int} (h:Big G x z) {m:Nat} (hz:(z.natAbs:Int)<pb m):x.n≤m:=by
 obtain ⟨l,h1,_,_,h4⟩:=h
 rw [←h1];exact h4.len hz
abbrev iR:=@Big.len
theorem Big.out {G:Imm} {x:IV} {z z':Int} (h:Big G x z) (e:z=z'):Big G x z':=e▸h
def Ck (z:Int):Int:=if z=0 then 0 else if z<0 then -1 else 1
theorem HF {z:Int} (h:z<0):Ck z=-1:=by unfold Ck;rw [aL (by omega),aR h]
theorem HG {z:Int} (h:0<z):Ck z=1:=by unfold Ck;rw [aL (by omega),aL (by omega)]
theorem HH {z:Int} (h:z=0):Ck z=0:=by unfold Ck;rw [aR h]
section
attribute [local irreducible] sX pb tQ tN
theorem Jl (G:Imm) (neg:Bool) (a:Option Addr) (n c:Nat) (hn:n≤1099511627776) :
 Does Tryz.prog 96 [.bool neg,.slice a n c] G [] (fun v G' Ho=>v=.agg #[.bool (neg && decide (0<n)),.slice a n c]∧G'=G∧Ho=[]):=by
 refine D0 Tryz.func96 Tryz.ntmps96 fun w=>?_
 have e:((0:Int)<(n:Int))=(0<n):=by rw [eq_iff_iff];omega
 cases neg
 · refine aK 2 [] ?_
   refine aQ 0 rfl T.zero89 fun b1=>?_
   refine aJ 11 [] ?_
   refine aN (fB (cs:=[_,_]) T.st89 rfl rfl rfl) ?_
   refine aW 4 [0] ?_
   refine dL (.inr rfl) (Ho:=Hp.only _ []) rfl (.agg 0 rfl rfl T.agg89) (bK _ _) ?_
   exact ⟨by simp only [Bool.false_and],rfl,rfl⟩
 refine aK 2 [] ?_
 refine aQ 0 rfl T.zero89 fun b1=>?_
 refine aJ 14 [] ?_
 refine aN (fB (cs:=[_,_]) T.st89 rfl rfl rfl) ?_
 refine aW 4 [0] ?_
 refine dL (.inr rfl) (Ho:=Hp.only _ []) rfl (.agg 0 rfl rfl T.agg89) (bK _ _) ?_
 exact ⟨by simp only [e,kK],rfl,rfl⟩
theorem YF (G:Imm) (neg:Bool) (a:Option Addr) (c:Nat) (l:List U32) (ha:Arr G a l) (hd:Lims l) (hb:l.length≤1073741824) (hc:l.length≤c) :
 Does Tryz.prog 100 [.bool neg,.slice a l.length c] G [] (fun v G' Ho=>∃ r:IV,v=.agg (Cells.enc r).toArray∧Big G' r (if neg=true then -sX l else sX l)∧Ho=[]):=by
 refine D0 Tryz.func100 Tryz.ntmps100 fun w=>?_
 refine aK 2 [] ?_
 refine aQ 0 rfl T.zero89 fun b1=>?_
 refine aJ 6 [] ?_
 refine bV 1 rfl (QF _ _ _ _ sW Jy Jy) fun v1 G1 Ho1 hle1 hp=>?_
 obtain ⟨na1,nm1,rfl,hna1,hne1,hnt1,hnl1,rfl⟩:=hp
 replace ha:=ha.up hle1
 refine bW rfl (Jl _ _ _ _ _ sV) ?_
 refine aW 4 [0] ?_
 refine dL (.inr rfl) (Ho:=Hp.only _ []) rfl (.agg 0 rfl rfl T.agg89) (bK _ _) ?_
 refine ⟨⟨neg && decide (0<nm1.length),na1,nm1.length,nm1.length⟩,rfl,nH neg hna1 (vX hne1 hd) (Bq hne1 hnt1) (aG _) (by rw [wE hne1 hnt1]),rfl⟩
theorem c48 (G:Imm) (neg:Bool) (a:Option Addr) (c:Nat) (l:List U32) (z:Int) (h:IsBig neg l z) (h1:l.length≤1073741824) :
 Does Tryz.prog 48 [.agg #[.bool neg,.slice a l.length c]] G [] (fun v G' Ho=>v=.int .i64 (Ck z)∧G'=G∧Ho=[]):=by
 have hz:=h.zero_iff
 have hn:=h.neg_iff
 refine D0 Tryz.func48 Tryz.ntmps48 fun w=>?_
 by_cases h0:l.length=0
 · have hz0:=hz.1 h0
   refine aK 2 [] ?_
   refine cV 0 fun b1=>?_
   refine aW 23 [0,1] ?_
   refine bO ?_
   exact ⟨by rw [hz0];rfl,rfl,rfl⟩
 have hz0:z≠0:=fun e=>h0 (hz.2 e)
 by_cases hs:z<0
 · rw [hn,cL hs]
   refine aK 2 [] ?_
   refine cV 0 fun b1=>?_
   refine aW 31 [0,0,0,1] ?_
   refine bO ?_
   exact ⟨by unfold Ck;rw [aL hz0,aR hs],rfl,rfl⟩
 rw [hn,bF hs]
 refine aK 2 [] ?_
 refine cV 0 fun b1=>?_
 refine aW 32 [0,0,0,0] ?_
 refine bO ?_
 exact ⟨by unfold Ck;rw [aL hz0,aL hs],rfl,rfl⟩
theorem c55 (G:Imm) (x:IV) (z:Int) (hx:Big G x z) (h1:x.n≤1073741824) :
 Does Tryz.prog 55 [.agg (Cells.enc x).toArray] G [] (fun v G' Ho=>∃ r:IV,v=.agg (Cells.enc r).toArray∧Big G' r (-z)∧G'=G∧Ho=[]):=by
 obtain ⟨neg,a,n,c⟩:=x
 obtain ⟨l,hl,hlc,hA,hI⟩:=hx
 simp only at hl hlc hA hI h1
 subst hl
 show Does Tryz.prog 55 [.agg #[.bool neg,.slice a l.length c]] G [] _
 refine D0 Tryz.func55 Tryz.ntmps55 fun w=>?_
 refine aK 2 [] ?_
 refine cV 0 fun b1=>?_
 refine aQ 1 rfl T.zero89 fun b2=>?_
 refine aJ 9 [0,0] ?_
 refine bW rfl (Jl _ _ _ _ _ sV) ?_
 refine aW 4 [1] ?_
 refine dL (.inr rfl) (Ho:=Hp.only _ []) rfl (.agg 1 rfl rfl T.agg89) (bK _ _) ?_
 refine ⟨⟨!neg && decide (0<l.length),a,l.length,c⟩,rfl,nH (!neg) hA hI.digs hI.top hlc ?_,rfl,rfl⟩
 rw [hI.val];cases neg <;> simp
theorem c58 (G:Imm) (x:IV) (z:Int) (hx:Big G x z) (h1:x.n≤1073741824) :
 Does Tryz.prog 58 [.agg (Cells.enc x).toArray] G [] (fun v G' Ho=>∃ r:IV,v=.agg (Cells.enc r).toArray∧Big G' r (z.natAbs:Int)∧G'=G∧Ho=[]):=by
 obtain ⟨neg,a,n,c⟩:=x
 obtain ⟨l,hl,hlc,hA,hI⟩:=hx
 simp only at hl hlc hA hI h1
 subst hl
 show Does Tryz.prog 58 [.agg #[.bool neg,.slice a l.length c]] G [] _
 refine D0 Tryz.func58 Tryz.ntmps58 fun w=>?_
 refine aK 2 [] ?_
 refine cV 0 fun b1=>?_
 refine aQ 1 rfl T.zero89 fun b2=>?_
 refine aJ 6 [0] ?_
 refine bW rfl (Jl _ _ _ _ _ sV) ?_
 refine aW 4 [1] ?_
 refine dL (.inr rfl) (Ho:=Hp.only _ []) rfl (.agg 1 rfl rfl T.agg89) (bK _ _) ?_
 refine ⟨⟨false && decide (0<l.length),a,l.length,c⟩,rfl,nH false hA hI.digs hI.top hlc ?_,rfl,rfl⟩
 rw [aL (by decide),hI.abs]
theorem Tv (G:Imm) (x:IV) (z:Int) (hx:Big G x z) (h1:x.n≤1073741824) :
 Does Tryz.prog 48 [.agg (Cells.enc x).toArray] G [] (fun v G' Ho=>v=.int .i64 (Ck z)∧G'=G∧Ho=[]):=by
 obtain ⟨n1,a,k1,ca⟩:=x
 obtain ⟨la,hl,hlc,hA,hI⟩:=hx
 simp only at hl hlc hA hI h1
 subst hl
 exact c48 G n1 a ca la z hI h1
theorem c57 (G:Imm) (x y:IV) (zx zy:Int) (hx:Big G x zx) (hy:Big G y zy) (h1:x.n≤1073741824) (h2:y.n≤1073741824) :
 Does Tryz.prog 57 [.agg (Cells.enc x).toArray,.agg (Cells.enc y).toArray] G [] (fun v G' Ho=>v=.int .i64 (tQ zx zy)∧G'=G∧Ho=[]):=by
 obtain ⟨n1,a,k1,ca⟩:=x
 obtain ⟨n2,b,k2,cb⟩:=y
 obtain ⟨la,hl,hlc,hA,hI⟩:=hx
 obtain ⟨lb,hl',hlc',hA',hI'⟩:=hy
 simp only at hl hlc hA hI hl' hlc' hA' hI' h1 h2
 subst hl hl'
 have da:=hI.digs
 have db:=hI'.digs
 have ta:=hI.top
 have tb:=hI'.top
 have va:=hI.abs
 have vb:=hI'.abs
 have na:=hI.neg_iff
 have nb:=hI'.neg_iff
 have cs:∀ u v:Int,u<v→tQ u v=-1:=fun u v h=>xX h
 have cg:∀ u v:Int,v<u→tQ u v=1:=fun u v h=>yL h
 show Does Tryz.prog 57 [.agg #[.bool n1,.slice a la.length ca],.agg #[.bool n2,.slice b lb.length cb]] G [] _
 refine D0 Tryz.func57 Tryz.ntmps57 fun w=>?_
 by_cases sx:zx<0 <;> by_cases sy:zy<0
 · rw [na,nb,cL sx,cL sy]
   refine aK 2 [] ?_
   refine cV 0 fun b1=>?_
   refine cV 1 fun b2=>?_
   refine aJ 25 [0,1,1,1,0] ?_
   refine bW rfl (PC _ _ _ _ _ _ _ sW sW sW sW sV sV sV sV) ?_
   refine aW 6 [] ?_
   refine bO ?_
   exact ⟨by rw [Al (x:=sX lb) (y:=sX la) (u:=zx) (v:=zy) sV sV],rfl,rfl⟩
 · rw [na,nb,cL sx,bF sy]
   refine aK 2 [] ?_
   refine cV 0 fun b1=>?_
   refine cV 1 fun b2=>?_
   refine aW 35 [0,1,0,0,1] ?_
   refine bO ?_
   exact ⟨by rw [cs zx zy sV],rfl,rfl⟩
 · rw [na,nb,bF sx,cL sy]
   refine aK 2 [] ?_
   refine cV 0 fun b1=>?_
   refine cV 1 fun b2=>?_
   refine aW 41 [0,0,0,0,1,1] ?_
   refine bO ?_
   exact ⟨by rw [cg zx zy sV],rfl,rfl⟩
 rw [na,nb,bF sx,bF sy]
 refine aK 2 [] ?_
 refine cV 0 fun b1=>?_
 refine cV 1 fun b2=>?_
 refine aJ 42 [0,0,0,0,1,0,0,1] ?_
 refine bW rfl (PC _ _ _ _ _ _ _ sW sW sW sW sV sV sV sV) ?_
 refine aW 4 [] ?_
 refine bO ?_
 exact ⟨by rw [Al (x:=sX la) (y:=sX lb) (u:=zx) (v:=zy) sV sV],rfl,rfl⟩
theorem YG (G:Imm) (x y:IV) (zx zy:Int) (hx:Big G x zx) (hy:Big G y zy) (h1:x.n≤536870912) (h2:y.n≤536870912) :
 Does Tryz.prog 65 [.agg (Cells.enc x).toArray,.agg (Cells.enc y).toArray] G [] (fun v G' Ho=>∃ r:IV,v=.agg (Cells.enc r).toArray∧Big G' r (zx*zy)∧Ho=[]):=by
 obtain ⟨n1,a,k1,ca⟩:=x
 obtain ⟨n2,b,k2,cb⟩:=y
 obtain ⟨la,hl,hlc,hA,hI⟩:=hx
 obtain ⟨lb,hl',hlc',hA',hI'⟩:=hy
 simp only at hl hlc hA hI hl' hlc' hA' hI' h1 h2
 subst hl hl'
 have da:=hI.digs
 have db:=hI'.digs
 have ta:=hI.top
 have tb:=hI'.top
 show Does Tryz.prog 65 [.agg #[.bool n1,.slice a la.length ca],.agg #[.bool n2,.slice b lb.length cb]] G [] _
 refine D0 Tryz.func65 Tryz.ntmps65 fun w=>?_
 refine aK 2 [] ?_
 refine cV 0 fun b1=>?_
 refine cV 1 fun b2=>?_
 refine aQ 2 rfl T.zero89 fun b3=>?_
 refine bJ 3 [] ?_
 refine eB [0,1,2] [(2,11)] T.mixed [[0],[1,0],[2],[3,1]] ?_
 refine gD 4 [] rfl (Eh T.u4 rfl rfl) ?_
 refine eJ [[5],[6,0],[7],[8,1]] ?_
 refine fE 9 ?_
 refine bV 3 rfl (XY _ _ _ _ _ _ _ sW sW sW sW sV sV) fun v1 G1 Ho1 hle1 hp=>?_
 obtain ⟨⟨ra1,rm1,rfl,hra1,hrl1,hrt1,hrv1,hrn1⟩,rfl⟩:=hp
 replace hA:=hA.up hle1
 replace hA':=hA'.up hle1
 refine bT 10 ?_
 refine bW rfl (Jl _ _ _ _ _ sV) ?_
 refine bT 11 ?_
 refine aA 1 [2] ?_
 refine fV ?_
 refine gZ 2 [] ?_
 refine dL (.inr rfl) (Ho:=Hp.only _ []) rfl (.agg 2 rfl rfl T.agg89) (bK _ _) ?_
 refine ⟨⟨decide (n1≠n2) && decide (0<rm1.length),ra1,rm1.length,rm1.length⟩,rfl,nH (decide (n1≠n2)) hra1 hrl1 hrt1 (aG _) ?_,rfl⟩
 rw [hrv1,hI.val,hI'.val]
 cases n1 <;> cases n2 <;> simp [pL,Int.mul_neg]
end
theorem Tw {n:Int} (h:-9223372036854775808≤n∧n<0):IntKind.u64.wrap (0 - IntKind.u64.wrap n)=-n:=by
 rw [nT,nT];omega
theorem NC (u:Int):sX [(⟨u % 4294967296⟩:U32),⟨u / 4294967296⟩]=u:=by
 rw [uP,uP,tX]
 show u % 4294967296+4294967296*(u / 4294967296+4294967296*0)=u
 omega
theorem HI {u:Int} (h:0≤u∧u<18446744073709551616):Lims [(⟨u % 4294967296⟩:U32),⟨u / 4294967296⟩]:=by
 intro d hd
 simp only [dF,List.mem_nil_iff,or_false] at hd
 rcases hd with rfl | rfl
 · exact Db u
 show 0≤u / 4294967296∧u / 4294967296<4294967296
 omega
theorem Big.lt {G:Imm} {x:IV} {z:Int} (h:Big G x z):(z.natAbs:Int)<pb x.n:=by
 obtain ⟨l,h1,_,_,h4⟩:=h
 rw [←h4.abs,←h1];exact vS h4.digs
section
attribute [local irreducible] sX pb tQ tN
theorem LK (G:Imm) (n:Int) (hn:-9223372036854775808≤n∧n≤9223372036854775807) :
 Does Tryz.prog 43 [.int .i64 n] G [] (fun v G' Ho=>∃ r:IV,v=.agg (Cells.enc r).toArray∧Big G' r n∧Ho=[]):=by
 refine D0 Tryz.func43 Tryz.ntmps43 fun w=>?_
 refine aK 2 [] ?_
 refine aQ 0 rfl T.zero89 fun b1=>?_
 refine aJ 5 [] ?_
 refine aN (kP rfl T.u165 rfl) ?_
 refine bJ 3 [] ?_
 refine rB (ι:=Int) (fun u=>([(0,.int .i64 n),(2,.pointer (some ⟨b1,0,none⟩)),(3,.int .u64 u)],[(0,some b1,.cells #[.bool false,.slice none 0 0] 89)])) (fun u=>0≤u∧u<18446744073709551616∧n=if decide (n<0)=true then -u else u) ?_ fun u=>fun (hk:0≤u∧u<18446744073709551616∧n=if decide (n<0)=true then -u else u)=>?_
 · by_cases hneg:n<0
   · refine aK 9 [1] ?_
     refine aN (mV rfl) ?_
     refine aW 2 [] ?_
     refine cZ 3 rfl (show _=Value.int .u64 (-n) by rw [Tw ⟨hn.1,hneg⟩]) ?_
     refine sJ (-n) ?_
     exact ⟨by omega,by omega,by rw [aR (by simpa using hneg)];omega⟩
   refine bE 8 [0] ?_
   refine cZ 3 rfl (show _=Value.int .u64 n by rw [jA _ sV]) ?_
   refine sJ (n) ?_
   exact ⟨by omega,by omega,by rw [aL (by simpa using hneg)]⟩
 obtain ⟨hu0,hu1,hun⟩:=hk
 refine aK 5 [] ?_
 refine aN (gR rfl T.u166 rfl) ?_
 refine aA 1 [] ?_
 refine aN (fA rfl rfl sV) ?_
 refine aN (gL rfl T.u166 rfl sV) ?_
 refine fF (α:=U32) 1 [⟨u % 4294967296⟩,⟨u / 4294967296⟩] rfl T.sl87 T.el166 rfl rfl rfl rfl rfl fun b2=>?_
 have hd:=HI ⟨hu0,hu1⟩
 refine cR 1 rfl (iI (xs:=[(⟨u % 4294967296⟩:U32),⟨u / 4294967296⟩]) Jz) fun G9 hle9 hA9=>?_
 refine bV 2 rfl (YF _ _ _ _ _ sW sW Jy Jy) fun v1 G1 Ho1 hle1 hp=>?_
 obtain ⟨r1,rfl,hr1,rfl⟩:=hp
 replace hA9:=hA9.up hle1
 refine aW 4 [0] ?_
 refine dL (.inr rfl) (Ho:=Hp.only _ []) rfl (.agg 0 rfl rfl T.agg89) (bK _ _) ?_
 exact ⟨_,rfl,Big.out hr1 (by rw [NC];exact hun.symm),rfl⟩
theorem YH (G:Imm) (x y:IV) (zx zy:Int) (hx:Big G x zx) (hy:Big G y zy) (h1:x.n≤536870912) (h2:y.n≤536870912) :
 Does Tryz.prog 42 [.agg (Cells.enc x).toArray,.agg (Cells.enc y).toArray] G [] (fun v G' Ho=>∃ r:IV,v=.agg (Cells.enc r).toArray∧Big G' r (zx+zy)∧Ho=[]):=by
 obtain ⟨n1,a,k1,ca⟩:=x
 obtain ⟨n2,b,k2,cb⟩:=y
 obtain ⟨la,hl,hlc,hA,hI⟩:=hx
 obtain ⟨lb,hl',hlc',hA',hI'⟩:=hy
 simp only at hl hlc hA hI hl' hlc' hA' hI' h1 h2
 subst hl hl'
 have da:=hI.digs
 have db:=hI'.digs
 have ta:=hI.top
 have tb:=hI'.top
 have len_le:∀ {l m:List U32},Lims l→Lims m→Top m→sX m≤sX l→m.length≤l.length:=fun {l m} hl hm tm h=>by
  rcases aM l.length m.length with h1 | h1
  · have:=yC hl hm tm h1;omega
  exact h1
 show Does Tryz.prog 42 [.agg #[.bool n1,.slice a la.length ca],.agg #[.bool n2,.slice b lb.length cb]] G [] _
 refine D0 Tryz.func42 Tryz.ntmps42 fun w=>?_
 by_cases hs:n1=n2
 · refine aK 2 [] ?_
   refine cV 0 fun b1=>?_
   refine cV 1 fun b2=>?_
   refine aQ 2 rfl T.zero89 fun b3=>?_
   refine aJ 9 [0,1] ?_
   refine aN (rC T.u4 rfl rfl) ?_
   refine bJ 4 [1] ?_
   refine eB [0,1,2] [(2,8)] T.mixed [[0],[1,0],[2],[3,0],[4],[5,1]] ?_
   refine fE 6 ?_
   refine bV 3 rfl (c97 _ _ _ _ _ _ _ sW sW sW sW sV sV) fun v1 G1 Ho1 hle1 hp=>?_
   obtain ⟨⟨ra1,rm1,rfl,hra1,hrl1,hrt1,hrv1,hrn1⟩,rfl⟩:=hp
   replace hA:=hA.up hle1
   replace hA':=hA'.up hle1
   refine bT 7 ?_
   refine bW rfl (Jl _ _ _ _ _ sV) ?_
   refine bT 8 ?_
   refine aA 1 [2] ?_
   refine fV ?_
   refine gZ 3 [] ?_
   refine dL (.inr rfl) (Ho:=Hp.only _ []) rfl (.agg 2 rfl rfl T.agg89) (bK _ _) ?_
   all_goals
    refine ⟨⟨n1 && decide (0<rm1.length),ra1,rm1.length,rm1.length⟩,rfl,nH n1 hra1 hrl1 hrt1 (aG _) ?_,rfl⟩
    rw [hrv1,hI.val,hI'.val]
    revert hs
    cases n1 <;> cases n2 <;> simp <;> omega
 by_cases hle:sX lb≤sX la
 · have hcmp:¬tQ (sX la) (sX lb)<0:=fun h=>by have:=Tu h;omega
   have hll:=len_le da db tb hle
   refine aK 2 [] ?_
   refine cV 0 fun b1=>?_
   refine cV 1 fun b2=>?_
   refine aQ 2 rfl T.zero89 fun b3=>?_
   refine aJ 9 [0,1] ?_
   refine aN (rC T.u4 rfl rfl) ?_
   refine aJ 12 [0,0,1] ?_
   refine bW rfl (PC _ _ _ _ _ _ _ sW sW sW sW sV sV sV sV) ?_
   refine aJ 12 [0,0,1] ?_
   refine bV 3 rfl (c99 _ _ _ _ _ _ _ sW sW sW sW sV sV sV sV sV) fun v1 G1 Ho1 hle1 hp=>?_
   obtain ⟨rq1,rfl,⟨ra1,rm1,rfl,hra1,hrl1,hrt1,hrv1,hrn1⟩,rfl⟩:=hp
   replace hA:=hA.up hle1
   replace hA':=hA'.up hle1
   refine aJ 12 [0] ?_
   refine bW rfl (Jl _ _ _ _ _ sV) ?_
   refine aW 4 [2] ?_
   refine dL (.inr rfl) (Ho:=Hp.only _ []) rfl (.agg 2 rfl rfl T.agg89) (bK _ _) ?_
   refine ⟨⟨n1 && decide (0<rm1.length),ra1,rm1.length,rm1.length⟩,rfl,nH n1 hra1 hrl1 hrt1 (aG _) ?_,rfl⟩
   rw [hrv1,hI.val,hI'.val]
   revert hs
   cases n1 <;> cases n2 <;> simp <;> omega
 have hcmp:tQ (sX la) (sX lb)=-1:=xX sV
 have hle':sX la≤sX lb:=sV
 have hll:=len_le db da ta hle'
 refine aK 2 [] ?_
 refine cV 0 fun b1=>?_
 refine cV 1 fun b2=>?_
 refine aQ 2 rfl T.zero89 fun b3=>?_
 refine aJ 9 [0,1] ?_
 refine aN (rC T.u4 rfl rfl) ?_
 refine aJ 12 [0,0,1] ?_
 refine bW rfl (PC _ _ _ _ _ _ _ sW sW sW sW sV sV sV sV) ?_
 refine aJ 17 [1,1,0,0,1,0,1] ?_
 refine bV 3 rfl (c99 _ _ _ _ _ _ _ sW sW sW sW sV sV sV sV sV) fun v1 G1 Ho1 hle1 hp=>?_
 obtain ⟨rq1,rfl,⟨ra1,rm1,rfl,hra1,hrl1,hrt1,hrv1,hrn1⟩,rfl⟩:=hp
 replace hA:=hA.up hle1
 replace hA':=hA'.up hle1
 refine aJ 12 [0] ?_
 refine bW rfl (Jl _ _ _ _ _ sV) ?_
 refine aW 4 [2] ?_
 refine dL (.inr rfl) (Ho:=Hp.only _ []) rfl (.agg 2 rfl rfl T.agg89) (bK _ _) ?_
 refine ⟨⟨n2 && decide (0<rm1.length),ra1,rm1.length,rm1.length⟩,rfl,nH n2 hra1 hrl1 hrt1 (aG _) ?_,rfl⟩
 rw [hrv1,hI.val,hI'.val]
 revert hs
 cases n1 <;> cases n2 <;> simp <;> omega
theorem TG (G:Imm) (x y:IV) (zx zy:Int) (hx:Big G x zx) (hy:Big G y zy) (h1:x.n≤536870912) (h2:y.n≤536870912) :
 Does Tryz.prog 159 [.agg (Cells.enc x).toArray,.agg (Cells.enc y).toArray] G [] (fun v G' Ho=>∃ r:IV,v=.agg (Cells.enc r).toArray∧Big G' r (zx - zy)∧Ho=[]):=by
 refine D0 Tryz.func159 Tryz.ntmps159 fun w=>?_
 refine aK 2 [] ?_
 refine cV 0 fun b1=>?_
 refine cV 1 fun b2=>?_
 refine aQ 2 rfl T.zero89 fun b3=>?_
 refine bJ 3 [] ?_
 refine eB [0,1,2] [(2,4)] T.mixed [[0,0],[1,1]] ?_
 refine fE 2 ?_
 refine bV 3 rfl (c55 _ _ _ hy sV) fun v1 G1 Ho1 hle1 hp=>?_
 obtain ⟨nr1,rfl,hnr1,rfl,rfl⟩:=hp
 refine bT 3 ?_
 have hn1:nr1.n≤y.n:=iR hnr1 (by rw [Int.natAbs_neg];exact Big.lt hy)
 refine bV 20 rfl (YH _ x nr1 zx (-zy) hx hnr1 h1 sV) fun v2 G2 Ho2 hle2 hp=>?_
 obtain ⟨r2,rfl,hr2,rfl⟩:=hp
 refine bT 4 ?_
 refine aA 1 [2] ?_
 refine fV ?_
 refine gZ 2 [] ?_
 refine dL (.inr rfl) (Ho:=Hp.only _ []) rfl (.agg 2 rfl rfl T.agg89) (bK _ _) ?_
 exact ⟨r2,rfl,Big.out hr2 (Int.sub_eq_add_neg).symm,rfl⟩
theorem TH (d s:Nat):pb d*((2 ^ s:Nat):Int)=((2 ^ (32*d+s):Nat):Int):=by
 unfold pb
 rw [←cJ]
 congr 1
 rw [show (4294967296:Nat)=2 ^ 32 by decide,←Nat.pow_mul,←mR]
theorem c56 (G:Imm) (x:IV) (zx:Int) (d s:Nat) (hx:Big G x zx) (h1:x.n≤536870912) (hs:s<32) (hd:d≤1000) :
 Does Tryz.prog 56 [.agg (Cells.enc x).toArray,.int .i64 ((32*d+s:Nat):Int)] G [] (fun v G' Ho=>∃ r:IV,v=.tuple #[.agg (Cells.enc r).toArray,.int .i64 0]∧Big G' r (zx*((2 ^ (32*d+s):Nat):Int))∧Ho=[]):=by
 obtain ⟨n1,a,k1,ca⟩:=x
 obtain ⟨la,hl,hlc,hA,hI⟩:=hx
 simp only at hl hlc hA hI h1
 subst hl
 have da:=hI.digs
 show Does Tryz.prog 56 [.agg #[.bool n1,.slice a la.length ca],.int .i64 ((32*d+s:Nat):Int)] G [] _
 refine D0 Tryz.func56 Tryz.ntmps56 fun w=>?_
 refine aK 2 [] ?_
 refine cV 0 fun b1=>?_
 refine aQ 1 rfl T.zero89 fun b2=>?_
 refine aJ 8 [0] ?_
 refine bV 2 rfl (TE _ _ _ _ d s sW sW sV hs hd) fun v1 G1 Ho1 hle1 hp=>?_
 obtain ⟨rq1,rfl,⟨ra1,rm1,rfl,hra1,hrl1,hrt1,hrv1,hrn1⟩,rfl⟩:=hp
 replace hA:=hA.up hle1
 refine aJ 22 [0,0] ?_
 refine bW rfl (Jl _ _ _ _ _ sV) ?_
 refine aW 5 [1] ?_
 refine iK (.inr rfl) (Ho:=Hp.only _ []) rfl (.agg 1 rfl rfl T.agg89) (.tmp rfl) (bK _ _) ?_
 refine ⟨⟨n1 && decide (0<rm1.length),ra1,rm1.length,rm1.length⟩,rfl,nH n1 hra1 hrl1 hrt1 (aG _) ?_,rfl⟩
 rw [hrv1,hI.val,TH]
 cases n1
 · rw [aL (by decide),aL (by decide),cN]
 rw [aR rfl,aR rfl,pL,cN]
end
end Go.Proofs.YtngphgeghfdjbaaGreatDoor
namespace Go.Sl
open Go
section
variable {B:Bs} {e:Env} {D:List Deferred} {H:Hp} {G:Imm}
theorem retagH {a:Act} {w:World} (hh:Hold B ⟨e,D,H,G⟩ a w) (t t':Nat) {k:Option Nat} {o:Obj} (ht:H.get t=some (k,o)) (hn:t≠t') (hk:H.get t'=none∨True):Hold B ⟨e,D,(t',k,o) :: (t,none,o) :: H,G⟩ a w:=by
 have key:∀ i b o',Hp.get ((t',k,o) :: (t,none,o) :: H) i=some (some b,o')→(i=t'∧H.get t=some (some b,o'))∨(i≠t'∧i≠t∧H.get i=some (some b,o')):=fun i b o' hx=>by
  rw [bU] at hx
  split at hx
  · rename_i hi;left;refine ⟨hi.symm,?_⟩;rw [ht];exact hx
  rename_i hi
  rw [bU] at hx
  split at hx
  · simp at hx
  rename_i hi2;exact .inr ⟨fun h=>hi h.symm,fun h=>hi2 h.symm,hx⟩
 refine ⟨hh.size,hh.defers,hh.env,⟨?_,?_,hh.mem.imm,?_⟩,hh.upd,?_,hh.le,hh.new⟩
 · intro i b o' hx
   rcases key i b o' hx with ⟨_,h⟩ | ⟨_,_,h⟩
   · exact hh.mem.own _ b o' h
   exact hh.mem.own _ b o' h
 · intro i i' b o1 o2 hx hy
   rcases key i b o1 hx with ⟨h1,h2⟩ | ⟨h1,h1',h2⟩ <;> rcases key i' b o2 hy with ⟨h3,h4⟩ | ⟨h3,h3',h4⟩
   · rw [h1,h3]
   · exact absurd (hh.mem.one _ _ b _ _ h2 h4).symm h3'
   · exact absurd (hh.mem.one _ _ b _ _ h2 h4) h1'
   exact hh.mem.one _ _ b _ _ h2 h4
 · intro i b o' hx
   rcases key i b o' hx with ⟨_,h⟩ | ⟨_,_,h⟩
   · exact hh.mem.off _ b o' h
   exact hh.mem.off _ b o' h
 intro i b o' hx
 rcases key i b o' hx with ⟨_,h⟩ | ⟨_,_,h⟩
 · exact hh.mine _ b o' h
 exact hh.mine _ b o' h
theorem Ar.retag {x:Exit} {Q:Exit→Act→World→Prop} (t t':Nat) {k:Option Nat} {o:Obj} (ht:H.get t=some (k,o)) (hn:Nat.beq t t'=false) (h:Ar Q x B ⟨e,D,(t',k,o) :: (t,none,o) :: H,G⟩):Ar Q x B ⟨e,D,H,G⟩:=
 fun a w hh=>h a w (retagH hh t t' ht (fun e=>by subst e;simp at hn) (.inr trivial))
end
end Go.Sl
namespace Go.Proofs.YtngphgeghfdjbaaGreatDoor
open Go Go.Sl
theorem Xd (z:Int):-1≤Ck z∧Ck z≤1:=by unfold Ck;split;exact ⟨by omega,by omega⟩;split <;> exact ⟨by omega,by omega⟩
theorem Ze (z:Int):-9223372036854775808≤Ck z∧Ck z≤9223372036854775807:=by have:=Xd z;omega
theorem ND (z:Int):((Ck z).natAbs:Int)<pb 1:=by have:=Xd z;have:pb 1=4294967296:=tF;omega
theorem NE (z:Int):Ck z*z=z.natAbs:=by
 unfold Ck
 split
 · omega
 split <;> omega
theorem Jm {x y q r:Int} (hy:y≠0) (h:x=q*y+r) (h0:0≤r) (h1:r<y.natAbs):q=x / y∧r=x % y:=by
 rcases Int.lt_or_gt_of_ne hy with hn | hp
 · have:=(Int.ediv_emod_unique' (a:=x) (b:=y) (r:=r) (q:=q) hn).2 ⟨by rw [cN y q];omega,h0,by omega⟩
   exact ⟨this.1.symm,this.2.symm⟩
 have:=(qS (a:=x) (b:=y) (r:=r) (q:=q) hp).2 ⟨by rw [cN y q];omega,h0,by omega⟩
 exact ⟨this.1.symm,this.2.symm⟩
theorem Tx {n1 n2:Bool} {x y la lb lq lr:Int} (hx:x=if n1=true then -la else la) (hy:y=if n2=true then -lb else lb) (hv:la=lq*lb+lr) :
 x=(if decide (n1≠n2)=true then -lq else lq)*y+(if n1=true then -lr else lr):=by
 subst hx hy hv
 cases n1 <;> cases n2 <;> simp [pL,Int.mul_neg,Int.neg_add]
theorem Zf {x y q r:Int} (h:x=q*y+r):x=(q - Ck y)*y+(r+y.natAbs):=by
 have:=NE y
 rw [pK,this];omega
theorem NF {n1:Bool} {m:List U32} {q x y:Int} (hx:x=q*y+(if n1=true then -sX m else sX m)) (hy:y≠0) (hl:sX m<y.natAbs) (h:(n1 && decide (0<m.length))=true) (ht:Top m) (hd:Lims m) :
 q - Ck y=x / y∧(if n1=true then -sX m else sX m)+(y.natAbs:Int)=x % y:=by
 rw [aC,aT] at h
 have hp:=Lb hd ht (fun e=>by have:=h.2;rw [e] at this;simp at this)
 have e:=h.1
 subst e
 rw [aR rfl] at hx ⊢
 exact Jm hy (Zf hx) sV sV
theorem HJ {n1:Bool} {m:List U32} {q x y:Int} (hx:x=q*y+(if n1=true then -sX m else sX m)) (hy:y≠0) (hl:sX m<y.natAbs) (h:(n1 && decide (0<m.length))=false) (hd:Lims m) :
 q=x / y∧(if n1=true then -sX m else sX m)=x % y:=by
 have hn:=tT hd
 refine Jm hy hx ?_ ?_
 · cases n1 with
   | false=>rw [aL (by decide)];exact hn
   | true =>
     have h0:m=[]:=by
      rw [kK,dM] at h
      exact cB sV
     rw [aR rfl,h0,tX]
     omega
 split <;> omega
section
attribute [local irreducible] sX pb tQ tN
theorem YI (G:Imm) (x y:IV) (zx zy:Int) (hx:Big G x zx) (hy:Big G y zy) (h1:x.n≤268435456) (h2:y.n≤268435456) (hy0:zy≠0) :
 Does Tryz.prog 109 [.agg (Cells.enc x).toArray,.agg (Cells.enc y).toArray] G [] (fun v G' Ho=>∃ q r:IV,v=.tuple #[.agg (Cells.enc q).toArray,.agg (Cells.enc r).toArray,.int .i64 0]∧Big G' q (zx / zy)∧Big G' r (zx % zy)∧Ho=[]):=by
 obtain ⟨n1,a,k1,ca⟩:=x
 obtain ⟨n2,b,k2,cb⟩:=y
 obtain ⟨la,hl,hlc,hA,hI⟩:=hx
 obtain ⟨lb,hl',hlc',hA',hI'⟩:=hy
 simp only at hl hlc hA hI hl' hlc' hA' hI' h1 h2
 subst hl hl'
 have da:=hI.digs
 have db:=hI'.digs
 have ta:=hI.top
 have tb:=hI'.top
 have h1':la.length≤536870912:=sV
 have h2':lb.length≤536870912:=sV
 have va:=hI.abs
 have vb:=hI'.abs
 have hlt:=vS db
 have hB:0<sX lb:=sV
 show Does Tryz.prog 109 [.agg #[.bool n1,.slice a la.length ca],.agg #[.bool n2,.slice b lb.length cb]] G [] _
 refine D0 Tryz.func109 Tryz.ntmps109 fun w=>?_
 refine aK 2 [] ?_
 refine cV 0 fun b1=>?_
 refine cV 1 fun b2=>?_
 refine aQ 2 rfl T.zero89 fun b3=>?_
 refine aQ 3 rfl T.zero89 fun b4=>?_
 refine aJ 9 [0,1] ?_
 refine bV 4 rfl (YE _ _ _ _ _ _ _ sW sW da ta db h1' h2' hlc hlc' hB) fun v1 G1 Ho1 hle1 hp=>?_
 obtain ⟨_,_,rfl,⟨qa1,qm1,rfl,hqa1,hql1,hqt1,hqv1,hqn1⟩,⟨ra1,rm1,rfl,hra1,hrl1,hrt1,hrv1,hrn1⟩,rfl⟩:=hp
 replace hA:=hA.up hle1
 replace hA':=hA'.up hle1
 refine bJ 19 [0] ?_
 refine rB (ι:=Nat×Nat) (fun (p,q)=>([(10,.pointer (some ⟨p,0,none⟩)),(11,.pointer (some ⟨q,0,none⟩)),(6,.int .i64 0),(5,.pointer (some (Addr.mk b4 0 none))),(4,.pointer (some (Addr.mk b3 0 none))),(3,.pointer (some ⟨b2,0,none⟩))],[(60,some p,.cells #[.bool (decide (n1≠n2) && decide (0<qm1.length)),.slice qa1 qm1.length qm1.length] 89),(61,some q,.cells #[.bool (n1 && decide (0<rm1.length)),.slice ra1 rm1.length rm1.length] 89),(3,some b4,.cells #[.bool Bool.false,.slice none 0 0] 89),(2,some b3,.cells #[.bool Bool.false,.slice none 0 0] 89),(1,some b2,.cells #[.bool n2,.slice b (List.length lb) cb] 89),(0,some b1,.cells #[.bool n1,.slice a (List.length la) ca] 89)])) (fun (p,q)=>True) ?_ fun ⟨p,q⟩=>fun (hk:True)=>?_
 · refine eB [0,1,2,3] [] T.mixed [[0],[1,0],[2],[3,1]] ?_
   refine gD 4 [] rfl (Eh T.u4 rfl rfl) ?_
   refine eJ [[5],[7],[8,0],[9]] ?_
   refine Gm.o3 6 11 12 ?_ ?_ ?_
   refine bW rfl (Jl _ _ _ _ _ sV) ?_
   refine dW ?_
   refine Gm.o3 10 11 12 ?_ ?_ ?_
   refine bW rfl (Jl _ _ _ _ _ sV) ?_
   refine dW ?_
   refine pM 11 12 ?_ ?_
   refine aQ 4 rfl T.zero89 fun b5=>?_
   refine bT 12 ?_
   refine aQ 5 rfl T.zero89 fun b6=>?_
   refine bT 13 ?_
   refine aA 1 [4] ?_
   refine bT 14 ?_
   refine aA 1 [5] ?_
   refine fV ?_
   rotate_left
   refine aQ 4 rfl T.zero89 fun b5=>?_
   refine bT 11 ?_
   refine aQ 5 rfl T.zero89 fun b6=>?_
   refine bT 13 ?_
   refine aA 1 [5] ?_
   refine bT 14 ?_
   refine aA 1 [4] ?_
   refine fV ?_
   rotate_left
   refine aQ 4 rfl T.zero89 fun b5=>?_
   refine dW ?_
   refine pM 10 12 ?_ ?_
   refine bW rfl (Jl _ _ _ _ _ sV) ?_
   refine bT 12 ?_
   refine aQ 5 rfl T.zero89 fun b6=>?_
   refine bT 13 ?_
   refine aA 1 [4] ?_
   refine bT 14 ?_
   refine aA 1 [5] ?_
   refine fV ?_
   rotate_left
   refine aQ 5 rfl T.zero89 fun b6=>?_
   refine bT 10 ?_
   refine bW rfl (Jl _ _ _ _ _ sV) ?_
   refine bT 13 ?_
   refine aA 1 [4] ?_
   refine bT 14 ?_
   refine aA 1 [5] ?_
   refine fV ?_
   rotate_left
   refine aQ 4 rfl T.zero89 fun b5=>?_
   refine dW ?_
   refine pM 10 11 ?_ ?_
   refine bW rfl (Jl _ _ _ _ _ sV) ?_
   refine bT 11 ?_
   refine aQ 5 rfl T.zero89 fun b6=>?_
   refine bT 13 ?_
   refine aA 1 [5] ?_
   refine bT 14 ?_
   refine aA 1 [4] ?_
   refine fV ?_
   rotate_left
   refine aQ 5 rfl T.zero89 fun b6=>?_
   refine bT 10 ?_
   refine bW rfl (Jl _ _ _ _ _ sV) ?_
   refine bT 13 ?_
   refine aA 1 [5] ?_
   refine bT 14 ?_
   refine aA 1 [4] ?_
   refine fV ?_
   rotate_left
   refine aQ 4 rfl T.zero89 fun b5=>?_
   refine dW ?_
   refine pM 6 12 ?_ ?_
   refine bW rfl (Jl _ _ _ _ _ sV) ?_
   refine dW ?_
   refine pM 10 12 ?_ ?_
   refine bW rfl (Jl _ _ _ _ _ sV) ?_
   refine bT 12 ?_
   refine aQ 5 rfl T.zero89 fun b6=>?_
   refine bT 13 ?_
   refine aA 1 [4] ?_
   refine bT 14 ?_
   refine aA 1 [5] ?_
   refine fV ?_
   rotate_left
   refine aQ 5 rfl T.zero89 fun b6=>?_
   refine bT 10 ?_
   refine bW rfl (Jl _ _ _ _ _ sV) ?_
   refine bT 13 ?_
   refine aA 1 [4] ?_
   refine bT 14 ?_
   refine aA 1 [5] ?_
   refine fV ?_
   rotate_left
   refine aQ 5 rfl T.zero89 fun b6=>?_
   refine bT 6 ?_
   refine bW rfl (Jl _ _ _ _ _ sV) ?_
   refine bT 10 ?_
   refine bW rfl (Jl _ _ _ _ _ sV) ?_
   refine bT 13 ?_
   refine aA 1 [4] ?_
   refine bT 14 ?_
   refine aA 1 [5] ?_
   refine fV ?_
   rotate_left
   refine aQ 4 rfl T.zero89 fun b5=>?_
   refine dW ?_
   refine pM 6 11 ?_ ?_
   refine bW rfl (Jl _ _ _ _ _ sV) ?_
   refine dW ?_
   refine pM 10 11 ?_ ?_
   refine bW rfl (Jl _ _ _ _ _ sV) ?_
   refine bT 11 ?_
   refine aQ 5 rfl T.zero89 fun b6=>?_
   refine bT 13 ?_
   refine aA 1 [5] ?_
   refine bT 14 ?_
   refine aA 1 [4] ?_
   refine fV ?_
   rotate_left
   refine aQ 5 rfl T.zero89 fun b6=>?_
   refine bT 10 ?_
   refine bW rfl (Jl _ _ _ _ _ sV) ?_
   refine bT 13 ?_
   refine aA 1 [5] ?_
   refine bT 14 ?_
   refine aA 1 [4] ?_
   refine fV ?_
   rotate_left
   refine aQ 5 rfl T.zero89 fun b6=>?_
   refine bT 6 ?_
   refine bW rfl (Jl _ _ _ _ _ sV) ?_
   refine bT 10 ?_
   refine bW rfl (Jl _ _ _ _ _ sV) ?_
   refine bT 13 ?_
   refine aA 1 [5] ?_
   refine bT 14 ?_
   refine aA 1 [4] ?_
   refine fV ?_
   rotate_left
   all_goals first | (refine Ar.retag 4 60 rfl rfl (Ar.retag 5 61 rfl rfl (rH (b5,b6) trivial rfl ?_ ?_)) <;> (repeat (first | exact trivial | refine ⟨rfl,?_⟩));done) | (refine Ar.retag 5 60 rfl rfl (Ar.retag 4 61 rfl rfl (rH (b6,b5) trivial rfl ?_ ?_)) <;> (repeat (first | exact trivial | refine ⟨rfl,?_⟩));done)
 have hxy:=Tx hI.val hI'.val (show sX la=sX qm1*sX lb+sX rm1 by rw [hqv1,hrv1,cN];exact (Int.mul_ediv_add_emod (sX la) (sX lb)).symm)
 have hrlt:sX rm1<sX lb:=by rw [hrv1];exact eF _ hB
 have hQ0:=nH (decide (n1≠n2)) hqa1 hql1 hqt1 (aG _) rfl
 have hy2:Big G1 ⟨n2,b,lb.length,cb⟩ zy:=⟨lb,rfl,hlc',hA',hI'⟩
 have hR0:=nH n1 hra1 hrl1 hrt1 (aG _) rfl
 refine cF 7 [61] ?_
 refine rM rfl (fun hc1=>?_) fun hc1=>?_
 refine dT ?_
 refine eB [0,1,2,3,61,60] [(61,4)] T.mixed [[0,61],[1,1]] ?_
 refine fE 2 ?_
 refine bV 62 rfl (c58 _ ⟨n2,b,lb.length,cb⟩ zy hy2 (aO h2' tF)) fun v2 G2 Ho2 hle2 hp=>?_
 obtain ⟨nr2,rfl,hnr2,rfl,rfl⟩:=hp
 refine bT 3 ?_
 refine bV 62 rfl (YH _ ⟨(n1 && decide (0<rm1.length)),ra1,rm1.length,rm1.length⟩ nr2 _ _ hR0 hnr2 (aO hrn1 h2') (aO (iR hnr2 (m:=lb.length) sV) h2')) fun v3 G3 Ho3 hle3 hp=>?_
 obtain ⟨rs3,rfl,hrs3,rfl⟩:=hp
 replace hnr2:=hnr2.up hle3
 replace hqa1:=hqa1.up hle3
 replace hra1:=hra1.up hle3
 replace hA:=hA.up hle3
 replace hA':=hA'.up hle3
 replace hQ0:=hQ0.up hle3
 replace hy2:=hy2.up hle3
 replace hR0:=hR0.up hle3
 refine bT 4 ?_
 refine aA 1 [61] ?_
 refine fV ?_
 refine cE ?_
 refine eB [0,1,2,3,60,61] [(60,5)] T.mixed [[0,60],[1,1]] ?_
 refine fE 2 ?_
 refine bW rfl (c48 _ _ _ _ _ zy hI' sV) ?_
 refine bT 3 ?_
 refine bV 62 rfl (LK _ _ (Ze zy)) fun v4 G4 Ho4 hle4 hp=>?_
 obtain ⟨ro4,rfl,hro4,rfl⟩:=hp
 replace hrs3:=hrs3.up hle4
 replace hnr2:=hnr2.up hle4
 replace hqa1:=hqa1.up hle4
 replace hra1:=hra1.up hle4
 replace hA:=hA.up hle4
 replace hA':=hA'.up hle4
 replace hQ0:=hQ0.up hle4
 replace hy2:=hy2.up hle4
 replace hR0:=hR0.up hle4
 refine bT 4 ?_
 refine bV 62 rfl (TG _ ⟨(decide (n1≠n2) && decide (0<qm1.length)),qa1,qm1.length,qm1.length⟩ ro4 _ _ hQ0 hro4 (aO hqn1 h1') (aO (iR hro4 (m:=1) (ND zy)) tF)) fun v5 G5 Ho5 hle5 hp=>?_
 obtain ⟨rd5,rfl,hrd5,rfl⟩:=hp
 replace hro4:=hro4.up hle5
 replace hrs3:=hrs3.up hle5
 replace hnr2:=hnr2.up hle5
 replace hqa1:=hqa1.up hle5
 replace hra1:=hra1.up hle5
 replace hA:=hA.up hle5
 replace hA':=hA'.up hle5
 replace hQ0:=hQ0.up hle5
 replace hy2:=hy2.up hle5
 replace hR0:=hR0.up hle5
 refine bT 5 ?_
 refine aA 1 [60] ?_
 refine fV ?_
 refine oJ 2 [] ?_
 refine eB [0,1,2,3,61,60] [(3,3),(2,2)] T.mixed [[0,60],[1,61]] ?_
 refine fE 2 ?_
 refine aA 1 [2] ?_
 refine bT 3 ?_
 refine aA 1 [3] ?_
 refine dW ?_
 refine eJ [[4]] ?_
 refine dV ?_
 refine gZ 2 [] ?_
 refine rG (.inr rfl) (Ho:=Hp.only _ []) rfl (.agg 2 rfl rfl T.agg89) (.agg 3 rfl rfl T.agg89) (.tmp rfl) (bK _ _) ?_
 rotate_left
 refine cF 3 [] ?_
 refine eB [0,1,2,3,61,60] [(3,3),(2,2)] T.mixed [[0,60],[1,61]] ?_
 refine fE 2 ?_
 refine aA 1 [2] ?_
 refine bT 3 ?_
 refine aA 1 [3] ?_
 refine dW ?_
 refine eJ [[4]] ?_
 refine dV ?_
 refine gZ 2 [] ?_
 refine rG (.inr rfl) (Ho:=Hp.only _ []) rfl (.agg 2 rfl rfl T.agg89) (.agg 3 rfl rfl T.agg89) (.tmp rfl) (bK _ _) ?_
 rotate_left
 · have he:=NF hxy hy0 sV hc1 hrt1 hrl1
   refine ⟨rd5,rs3,rfl,?_,?_,rfl⟩
   · rw [←he.1];exact hrd5
   rw [←he.2];exact hrs3
 have he:=HJ hxy hy0 sV hc1 hrl1
 refine ⟨⟨(decide (n1≠n2) && decide (0<qm1.length)),qa1,qm1.length,qm1.length⟩,⟨(n1 && decide (0<rm1.length)),ra1,rm1.length,rm1.length⟩,rfl,?_,?_,rfl⟩
 · rw [←he.1];exact hQ0
 rw [←he.2];exact hR0
end
def Am (l:List U32) (n:Nat):Prop:=n≤l.length∧(∀ j,n≤j→j<l.length→(l[j]?.getD default).v=0)∧(n=0∨(l[n - 1]?.getD default).v≠0)
theorem Rf {α:Type} [Cells α] {G:Imm} {a:Option Addr} {c sz:Nat} {l:List α} (h:Arr G a l) (n:Nat):Arr G (subA a c 0 sz) (l.take n):=by
 refine ⟨tI _,?_⟩
 rcases h.2 with h0 | ⟨b,o,rfl,hr⟩
 · left;rw [bC];omega
 refine .inr ⟨b,o,?_,fun i v hi=>hr i v ?_⟩
 · unfold subA
   split
   · rfl
   simp [Addr.add]
 have e:tM l=tM (l.take n)++tM (l.drop n):=by rw [←vP,dA]
 rw [e,bH (aS.1 hi).1];exact hi
theorem xE (G:Imm) (neg:Bool) (a:Option Addr) (c:Nat) (l:List U32) (hl:Arr G a l) (hb:l.length≤1099511627776) (hc:l.length≤c) :
 Does Tryz.prog 106 [.bool neg,.slice a l.length c] G [] (fun v G' Ho=>∃ n,v=.agg #[.bool (neg && decide (0<n)),.slice (subA a c 0 1) n c]∧Am l n∧G'=G∧Ho=[]):=by
 refine D0 Tryz.func106 Tryz.ntmps106 fun w=>?_
 refine aK 2 [] ?_
 refine aQ 0 rfl T.zero93 fun b1=>?_
 refine bJ 11 [] ?_
 refine gC (ι:=Nat) (fun n=>([(5,.int .i64 (n:Int)),(4,.pointer (some ⟨b1,0,none⟩)),(0,.bool neg),(1,.slice a (List.length l) c)],[(0,some b1,.cells #[.bool Bool.false,.slice none 0 0] 93)])) (fun n=>n≤l.length∧(∀ j,n≤j→j<l.length→(l[j]?.getD default).v=0)) (fun n=>n) (l.length) (⟨aG _,fun j h1 h2=>absurd h2 sV⟩) fun n=>fun hk=>?_
 obtain ⟨hn,hz⟩:=hk
 refine aK 6 [] ?_
 apply cW 7 10 17 rfl
 intro hg1
 refine aA 7 [] ?_
 refine dP (α:=U32) T.sl87 ?_
 refine aA 1 [] ?_
 refine fQ 0 T.one166 ?_
 refine aA 3 [] ?_
 exact cU 7 0
 intro hg1
 refine aA 7 [] ?_
 exact cU 7 0
 refine bJ 2 [] ?_
 refine dN (fun hc1=>?_) fun hc1=>?_
 refine bE 9 [] ?_
 rotate_left
 refine aK 9 [] ?_
 refine BL 21 rfl (fun hg1=>?_) fun hg1=>?_
 refine aA 7 [] ?_
 refine aN (Qp T.sl87 rfl rfl sV) ?_
 refine aN (fB (cs:=[_,_]) T.st93 rfl rfl rfl) ?_
 refine aW 4 [0] ?_
 refine dL (.inr rfl) (Ho:=Hp.only _ []) rfl (.agg 0 rfl rfl T.agg93) (bK _ _) ?_
 rotate_left
 refine aA 5 [] ?_
 refine aN (Qp T.sl87 rfl rfl sV) ?_
 refine aN (fB (cs:=[_,_]) T.st93 rfl rfl rfl) ?_
 refine aW 4 [0] ?_
 refine dL (.inr rfl) (Ho:=Hp.only _ []) rfl (.agg 0 rfl rfl T.agg93) (bK _ _) ?_
 rotate_left
 · refine cZ 5 rfl (show _=Value.int .i64 ((n - 1:Nat):Int) by congr 1;omega) ?_
   refine cS (n - 1) ?_ ?_
   · refine ⟨by omega,fun j h1 h2=>?_⟩
     rcases aM j n with h3 | h3
     · have e:j=((n:Int) - 1).toNat:=sV
       rw [e];exact hc1.2
     exact hz j h3 h2
   omega
 · refine ⟨n,?_,⟨hn,hz,?_⟩,rfl,rfl⟩
   · rw [hg1]
     have e:((0:Int)<(n:Int))=(0<n):=by rw [eq_iff_iff];omega
     simp only [e,kK,aF]
   rcases eU n with h | h
   · exact .inl h
   refine .inr fun h2=>hc1 ⟨by omega,?_⟩
   have e:((n:Int) - 1).toNat=n - 1:=sV
   rw [e];exact h2
 refine ⟨n,?_,⟨hn,hz,?_⟩,rfl,rfl⟩
 · rw [hg1]
   simp only [Bool.false_and,aF]
 rcases eU n with h | h
 · exact .inl h
 refine .inr fun h2=>hc1 ⟨by omega,?_⟩
 have e:((n:Int) - 1).toNat=n - 1:=sV
 rw [e];exact h2
theorem Zg (P s:Int):P*(s % 65536)+65536*P*(s / 65536)=P*s:=by
 have h:=gG s 65536
 have e:65536*P*(s / 65536)=P*(65536*(s / 65536)):=by rw [cN 65536 P,bR]
 rw [e,←bI,h]
def dg (l:List U32) (i:Nat):Int:=(l[((i:Nat):Int).toNat]?.getD default).v
theorem zO {l:List U32} (h:Digs l) {i:Nat} (hi:i<l.length):0≤dg l i∧dg l i<65536:=h.at sV
theorem Hf {l:List U32} {i:Nat} (hi:l.length≤i):dg l i=0:=by
 unfold dg;rw [aF,cQ hi];rfl
theorem vN (l:List U32) (i:Nat):sZ (l.take (i+1))=sZ (l.take i)+pw i*dg l i:=by
 rcases aM i l.length with h | h
 · exact Bm h
 rw [tH h,tH sV,Hf h,cI,dG]
theorem Cl {la lb r:List U32} {i:Nat} {cy s:Int} (hri:r.length=i) (hv:sZ (la.take i)+sZ (lb.take i)=sZ r+pw i*cy) (hs:s=cy+dg la i+dg lb i) :
 sZ (la.take (i+1))+sZ (lb.take (i+1))=sZ (r++[⟨s % 65536⟩])+pw (i+1)*(s / 65536):=by
 rw [vN,vN,yN,hri,xB]
 have h:=Zg (pw i) s
 rw [hs,bI,bI] at h
 rw [←hs] at h
 show _=sZ r+pw i*(s % 65536)+65536*pw i*(s / 65536)
 omega
theorem yQ {r:List U32} (h:Digs r) (s:Int):Digs (r++[⟨s % 65536⟩]):=h.append (pW ⟨iM _ tF,eF _ tF⟩)
section
attribute [local irreducible] sZ pw
theorem YJ (G:Imm) (a b:Option Addr) (ca cb:Nat) (la lb:List U32) (ha:Arr G a la) (hb:Arr G b lb) (da:Digs la) (db:Digs lb) (h1:la.length≤1073741824) (h2:lb.length≤1073741824) :
 Does Tryz.prog 126 [.slice a la.length ca,.slice b lb.length cb] G [] (fun v G' Ho=>∃ o c r j,v=.slice o r.length c∧OwnA o c r j∧Ho=[(0,o.map (·.block),tK 166 r j)]∧G'=G∧Digs r∧sZ r=sZ la+sZ lb∧r.length≤max la.length lb.length+1):=by
 refine D0 Tryz.func126 Tryz.ntmps126 fun w=>?_
 refine fO 0 (tK 166 ([]:List U32) []) ?_
 refine cF 22 [] ?_
 refine qA (ι:=Nat×Int×List U32×(Option Addr×Nat×List Value)) (fun (i,cy,r,(o,d,j))=>([(7,.int .i64 (i:Int)),(6,.int .u32 cy),(5,.slice o r.length d),(4,.slice none 0 0),(0,.slice a (List.length la) ca),(1,.slice b (List.length lb) cb)],[(0,o.map (·.block),tK 166 r j)])) (fun (i,cy,r,(o,d,j))=>r.length=i∧(i≤max la.length lb.length∨(i≤max la.length lb.length+1∧cy=0))∧0≤cy∧cy≤1∧Digs r∧sZ (la.take i)+sZ (lb.take i)=sZ r+pw i*cy∧OwnA o d r j) (fun (i,cy,r,(o,d,j))=>2*(max la.length lb.length - i)+cy.toNat) ((0,0,[],(none,0,[]))) (⟨rfl,.inl (aU _),by decide,by decide,qX,by rw [bN,bN,cI,dG,vD];rfl,eW⟩) ⟨rfl,rfl,rfl,rfl,rfl,rfl,trivial⟩ ⟨rfl,trivial⟩ fun ⟨i,cy,r,(o,d,j)⟩=>fun hk=>?_
 obtain ⟨hri,hiM,hc0,hc1,hdr,hv,hob⟩:=hk
 rcases aM i la.length with hia | hia
 · have da1:0≤(la[(i:Int).toNat]?.getD default).v∧(la[(i:Int).toNat]?.getD default).v<65536:=zO da hia
   rcases aM i lb.length with hib | hib
   · have db1:0≤(lb[(i:Int).toNat]?.getD default).v∧(lb[(i:Int).toNat]?.getD default).v<65536:=zO db hib
     refine aK 8 [] ?_
     refine Io 12 ?_
     refine aJ 30 [1,1] ?_
     refine dP (α:=U32) T.sl87 ?_
     refine fQ 0 T.one166 ?_
     refine aN (mP rfl rfl sV) ?_
     refine aJ 17 [1] ?_
     refine dP (α:=U32) T.sl87 ?_
     refine fQ 0 T.one166 ?_
     refine aN (mP rfl rfl sV) ?_
     refine aJ 7 [] ?_
     refine aN (jO rfl rfl sV) ?_
     refine fF (α:=U32) 1 [⟨(cy+Go.Sl.U32.v (Option.getD la[Int.toNat (↑i:Int)]? Inhabited.default)+Go.Sl.U32.v (Option.getD lb[Int.toNat (↑i:Int)]? Inhabited.default)) % 65536⟩] rfl T.sl87 T.el166 rfl rfl rfl rfl rfl fun b1=>?_
     refine kO (α:=U32) 0 T.sl87 T.el166 (fZ 1 rfl) fun a1 c1 junk1 ho1=>?_
     refine aJ 5 [] ?_
     refine aN (pS rfl rfl sV) ?_
     refine aW 9 [] ?_
     refine cS ((i+1,(cy+(la[(i:Int).toNat]?.getD default).v+(lb[(i:Int).toNat]?.getD default).v) / 65536,_,(a1,c1,junk1))) ?_ ?_
     · exact ⟨by rw [aI,hri];rfl,by omega,by omega,by omega,yQ hdr _,Cl hri hv wA,ho1⟩
     show 2*(max la.length lb.length - (i+1))+((cy+(la[(i:Int).toNat]?.getD default).v+(lb[(i:Int).toNat]?.getD default).v) / 65536).toNat<2*(max la.length lb.length - i)+cy.toNat
     omega
   have z:=Hf hib
   refine aK 8 [] ?_
   refine Io 12 ?_
   refine aJ 30 [1,1] ?_
   refine dP (α:=U32) T.sl87 ?_
   refine fQ 0 T.one166 ?_
   refine aN (mP rfl rfl sV) ?_
   refine aJ 19 [0] ?_
   refine aN (jO rfl rfl sV) ?_
   refine fF (α:=U32) 1 [⟨(cy+Go.Sl.U32.v (Option.getD la[Int.toNat (↑i:Int)]? Inhabited.default)) % 65536⟩] rfl T.sl87 T.el166 rfl rfl rfl rfl rfl fun b1=>?_
   refine kO (α:=U32) 0 T.sl87 T.el166 (fZ 1 rfl) fun a1 c1 junk1 ho1=>?_
   refine aJ 5 [] ?_
   refine aN (pS rfl rfl sV) ?_
   refine aW 9 [] ?_
   refine cS ((i+1,(cy+(la[(i:Int).toNat]?.getD default).v) / 65536,_,(a1,c1,junk1))) ?_ ?_
   · exact ⟨by rw [aI,hri];rfl,by omega,by omega,by omega,yQ hdr _,Cl hri hv (by rw [z,dG];rfl),ho1⟩
   show 2*(max la.length lb.length - (i+1))+((cy+(la[(i:Int).toNat]?.getD default).v) / 65536).toNat<2*(max la.length lb.length - i)+cy.toNat
   omega
 have z:=Hf hia
 rcases aM i lb.length with hib | hib
 · have db1:0≤(lb[(i:Int).toNat]?.getD default).v∧(lb[(i:Int).toNat]?.getD default).v<65536:=zO db hib
   refine aK 8 [] ?_
   refine jV 12 ?_
   refine aA 10 [] ?_
   refine Io 18 ?_
   refine aJ 36 [1,0,1] ?_
   refine dP (α:=U32) T.sl87 ?_
   refine fQ 0 T.one166 ?_
   refine aN (mP rfl rfl sV) ?_
   refine aJ 7 [] ?_
   refine aN (jO rfl rfl sV) ?_
   refine fF (α:=U32) 1 [⟨(cy+Go.Sl.U32.v (Option.getD lb[Int.toNat (↑i:Int)]? Inhabited.default)) % 65536⟩] rfl T.sl87 T.el166 rfl rfl rfl rfl rfl fun b1=>?_
   refine kO (α:=U32) 0 T.sl87 T.el166 (fZ 1 rfl) fun a1 c1 junk1 ho1=>?_
   refine aJ 5 [] ?_
   refine aN (pS rfl rfl sV) ?_
   refine aW 9 [] ?_
   refine cS ((i+1,(cy+(lb[(i:Int).toNat]?.getD default).v) / 65536,_,(a1,c1,junk1))) ?_ ?_
   · exact ⟨by rw [aI,hri];rfl,by omega,by omega,by omega,yQ hdr _,Cl hri hv (by rw [z,dG];rfl),ho1⟩
   show 2*(max la.length lb.length - (i+1))+((cy+(lb[(i:Int).toNat]?.getD default).v) / 65536).toNat<2*(max la.length lb.length - i)+cy.toNat
   omega
 have z2:=Hf hib
 by_cases hcy:0<cy
 · refine aK 8 [] ?_
   refine jV 12 ?_
   refine aA 10 [] ?_
   refine jV 18 ?_
   refine aJ 40 [1,0,0] ?_
   refine aN (jO rfl rfl sV) ?_
   refine fF (α:=U32) 1 [⟨cy % 65536⟩] rfl T.sl87 T.el166 rfl rfl rfl rfl rfl fun b1=>?_
   refine kO (α:=U32) 0 T.sl87 T.el166 (fZ 1 rfl) fun a1 c1 junk1 ho1=>?_
   refine aJ 5 [] ?_
   refine aN (pS rfl rfl sV) ?_
   refine aW 9 [] ?_
   refine cS ((i+1,(cy) / 65536,_,(a1,c1,junk1))) ?_ ?_
   · exact ⟨by rw [aI,hri];rfl,by omega,by omega,by omega,yQ hdr _,Cl hri hv (by rw [z,z2];omega),ho1⟩
   show 2*(max la.length lb.length - (i+1))+((cy) / 65536).toNat<2*(max la.length lb.length - i)+cy.toNat
   omega
 have e0:cy=0:=sV
 subst e0
 rw [tH hia,tH hib,cI,dG] at hv
 refine aK 8 [] ?_
 refine jV 12 ?_
 refine aA 10 [] ?_
 refine jV 18 ?_
 refine aW 20 [0] ?_
 refine qJ [0] ?_
 exact ⟨_,_,_,_,rfl,hob,rfl,rfl,hdr,hv.symm,by omega⟩
theorem An {la lb r:List U32} {i:Nat} {cy cy' s:Int} (hri:r.length=i) (hv:sZ (la.take i) - sZ (lb.take i)=sZ r - pw i*cy) (hs:s=dg la i - dg lb i - cy+65536*cy') :
 sZ (la.take (i+1)) - sZ (lb.take (i+1))=sZ (r++[⟨s⟩]) - pw (i+1)*cy':=by
 rw [vN,vN,yN,hri,xB]
 have h:pw i*s=pw i*dg la i - pw i*dg lb i - pw i*cy+65536*pw i*cy':=by
  rw [hs,bI,iU,iU,←bR,cN (pw i) 65536]
 show _=sZ r+pw i*s - 65536*pw i*cy'
 omega
theorem CU {la lb r:List U32} {n:Nat} {cy:Int} (hn:n=la.length) (hb:lb.length≤la.length) (hle:sZ lb≤sZ la) (hri:r.length=n) (hd:Digs r) (hc:0≤cy∧cy≤1) (hv:sZ (la.take n) - sZ (lb.take n)=sZ r - pw n*cy):sZ r=sZ la - sZ lb:=by
 rw [tH sV,tH sV] at hv
 have h:=wO hd
 rw [hri] at h
 have hcy:cy=0:=by
  rcases (show cy=0∨cy=1 by omega) with h1 | h1
  · exact h1
  rw [h1,fR] at hv;omega
 rw [hcy,cI] at hv
 omega
theorem QG (G:Imm) (a b:Option Addr) (ca cb:Nat) (la lb:List U32) (ha:Arr G a la) (hb:Arr G b lb) (da:Digs la) (db:Digs lb) (h1:la.length≤1073741824) (h2:lb.length≤la.length) (hle:sZ lb≤sZ la) :
 Does Tryz.prog 128 [.slice a la.length ca,.slice b lb.length cb] G [] (fun v G' Ho=>∃ o c r j,v=.slice o r.length c∧OwnA o c r j∧Ho=[(0,o.map (·.block),tK 166 r j)]∧G'=G∧Digs r∧sZ r=sZ la - sZ lb∧r.length=la.length):=by
 refine D0 Tryz.func128 Tryz.ntmps128 fun w=>?_
 refine fO 0 (tK 166 ([]:List U32) []) ?_
 refine cF 22 [] ?_
 refine qA (ι:=Nat×Int×List U32×(Option Addr×Nat×List Value)) (fun (i,cy,r,(o,d,j))=>([(7,.int .i64 (i:Int)),(6,.int .u32 cy),(5,.slice o r.length d),(4,.slice none 0 0),(0,.slice a (List.length la) ca),(1,.slice b (List.length lb) cb)],[(0,o.map (·.block),tK 166 r j)])) (fun (i,cy,r,(o,d,j))=>r.length=i∧i≤la.length∧0≤cy∧cy≤1∧Digs r∧sZ (la.take i) - sZ (lb.take i)=sZ r - pw i*cy∧OwnA o d r j) (fun (i,cy,r,(o,d,j))=>la.length - i) ((0,0,[],(none,0,[]))) (⟨rfl,aU _,by decide,by decide,qX,by rw [bN,bN,cI,nB,Int.sub_self,vD],eW⟩) ⟨rfl,rfl,rfl,rfl,rfl,rfl,trivial⟩ ⟨rfl,trivial⟩ fun ⟨i,cy,r,(o,d,j)⟩=>fun hk=>?_
 obtain ⟨hri,hiM,hc0,hc1,hdr,hv,hob⟩:=hk
 rcases aM i la.length with hia | hia
 · have da1:0≤(la[(i:Int).toNat]?.getD default).v∧(la[(i:Int).toNat]?.getD default).v<65536:=zO da hia
   rcases aM i lb.length with hib | hib
   · have db1:0≤(lb[(i:Int).toNat]?.getD default).v∧(lb[(i:Int).toNat]?.getD default).v<65536:=zO db hib
     by_cases hlt:(la[((i:Nat):Int).toNat]?.getD default).v<cy+(lb[((i:Nat):Int).toNat]?.getD default).v
     · refine aK 34 [1,1] ?_
       refine dP (α:=U32) T.sl87 ?_
       refine fQ 0 T.one166 ?_
       refine aN (mP rfl rfl sV) ?_
       refine aJ 12 [] ?_
       refine dP (α:=U32) T.sl87 ?_
       refine fQ 0 T.one166 ?_
       refine aJ 15 [1] ?_
       refine aN (mP rfl rfl sV) ?_
       refine aJ 11 [] ?_
       refine aN (sN rfl rfl sV) ?_
       refine fF (α:=U32) 1 [⟨Go.Sl.U32.v (Option.getD la[Int.toNat (↑i:Int)]? Inhabited.default)+65536 - (cy+Go.Sl.U32.v (Option.getD lb[Int.toNat (↑i:Int)]? Inhabited.default))⟩] rfl T.sl87 T.el166 rfl rfl rfl rfl rfl fun b1=>?_
       refine kO (α:=U32) 0 T.sl87 T.el166 (fZ 1 rfl) fun a1 c1 junk1 ho1=>?_
       refine aW 9 [] ?_
       refine cS ((i+1,1,_,(a1,c1,junk1))) ?_ ?_
       · exact ⟨by rw [aI,hri];rfl,by omega,by decide,by decide,hdr.append (pW sV),An hri hv (by unfold dg;omega),ho1⟩
       show la.length - (i+1)<la.length - i
       omega
     refine aK 34 [1,1] ?_
     refine dP (α:=U32) T.sl87 ?_
     refine fQ 0 T.one166 ?_
     refine aN (mP rfl rfl sV) ?_
     refine aJ 12 [] ?_
     refine dP (α:=U32) T.sl87 ?_
     refine fQ 0 T.one166 ?_
     refine aJ 18 [0] ?_
     refine aN (sN rfl rfl sV) ?_
     refine fF (α:=U32) 1 [⟨Go.Sl.U32.v (Option.getD la[Int.toNat (↑i:Int)]? Inhabited.default) - (cy+Go.Sl.U32.v (Option.getD lb[Int.toNat (↑i:Int)]? Inhabited.default))⟩] rfl T.sl87 T.el166 rfl rfl rfl rfl rfl fun b1=>?_
     refine kO (α:=U32) 0 T.sl87 T.el166 (fZ 1 rfl) fun a1 c1 junk1 ho1=>?_
     refine aW 9 [] ?_
     refine cS ((i+1,0,_,(a1,c1,junk1))) ?_ ?_
     · exact ⟨by rw [aI,hri];rfl,by omega,by decide,by decide,hdr.append (pW sV),An hri hv (by unfold dg;omega),ho1⟩
     show la.length - (i+1)<la.length - i
     omega
   have z:=Hf hib
   by_cases hlt:(la[((i:Nat):Int).toNat]?.getD default).v<cy
   · refine aK 41 [1,0] ?_
     refine dP (α:=U32) T.sl87 ?_
     refine fQ 0 T.one166 ?_
     refine aJ 15 [1] ?_
     refine aN (mP rfl rfl sV) ?_
     refine aJ 11 [] ?_
     refine aN (sN rfl rfl sV) ?_
     refine fF (α:=U32) 1 [⟨Go.Sl.U32.v (Option.getD la[Int.toNat (↑i:Int)]? Inhabited.default)+65536 - cy⟩] rfl T.sl87 T.el166 rfl rfl rfl rfl rfl fun b1=>?_
     refine kO (α:=U32) 0 T.sl87 T.el166 (fZ 1 rfl) fun a1 c1 junk1 ho1=>?_
     refine aW 9 [] ?_
     refine cS ((i+1,1,_,(a1,c1,junk1))) ?_ ?_
     · exact ⟨by rw [aI,hri];rfl,by omega,by decide,by decide,hdr.append (pW sV),An hri hv (by rw [z];unfold dg;omega),ho1⟩
     show la.length - (i+1)<la.length - i
     omega
   refine aK 41 [1,0] ?_
   refine dP (α:=U32) T.sl87 ?_
   refine fQ 0 T.one166 ?_
   refine aJ 18 [0] ?_
   refine aN (sN rfl rfl sV) ?_
   refine fF (α:=U32) 1 [⟨Go.Sl.U32.v (Option.getD la[Int.toNat (↑i:Int)]? Inhabited.default) - cy⟩] rfl T.sl87 T.el166 rfl rfl rfl rfl rfl fun b1=>?_
   refine kO (α:=U32) 0 T.sl87 T.el166 (fZ 1 rfl) fun a1 c1 junk1 ho1=>?_
   refine aW 9 [] ?_
   refine cS ((i+1,0,_,(a1,c1,junk1))) ?_ ?_
   · exact ⟨by rw [aI,hri];rfl,by omega,by decide,by decide,hdr.append (pW sV),An hri hv (by rw [z];unfold dg;omega),ho1⟩
   show la.length - (i+1)<la.length - i
   omega
 refine bE 22 [0] ?_
 refine qJ [0] ?_
 exact ⟨_,_,_,_,rfl,hob,rfl,rfl,hdr,CU sV h2 hle hri hdr ⟨hc0,hc1⟩ hv,by omega⟩
end
theorem Cm (l:List U32) {m:Nat} (h:m≤l.length):sZ l=sZ (l.take m)+pw m*sZ (l.drop m):=by
 have e:sZ l=sZ (l.take m++l.drop m):=by rw [dA]
 rw [e,Bl,bC,dC h]
theorem QH {x y:U32} (h:x.v=y.v):x=y:=by cases x;cases y;simp only at h;rw [h]
theorem Ow {la lb:List U32} {k:Nat} (hn:la.length=lb.length) (h:∀ j,k≤j→j<la.length→dg la j=dg lb j):la.drop k=lb.drop k:=by
 apply fL
 intro j
 rw [eV,eV]
 rcases aM (k+j) la.length with hj | hj
 · have:=h (k+j) sV hj
   unfold dg at this
   rw [aF,aB hj,aB sV] at this
   rw [aB hj,aB sV];exact congrArg some (QH this)
 rw [cQ hj,cQ sV]
theorem Zh {la lb:List U32} {k:Nat} (hn:la.length=lb.length) (hk:k<la.length) (da:Digs la) (db:Digs lb) (h:∀ j,k+1≤j→j<la.length→dg la j=dg lb j) (hlt:dg la k<dg lb k):sZ la<sZ lb:=by
 have e1:=Cm la (m:=k+1) sV
 have e2:=Cm lb (m:=k+1) sV
 rw [vN,Ow hn h] at e1
 rw [vN] at e2
 have h1:=wO (da.take k)
 have h2:=uJ (db.take k)
 rw [bC,dC sV] at h1
 have h3:=aY (show dg la k+1≤dg lb k by omega) (bM (wQ k))
 rw [bI,fR] at h3
 omega
section
attribute [local irreducible] sZ pw tQ
theorem HK (G:Imm) (a b:Option Addr) (ca cb:Nat) (la lb:List U32) (ha:Arr G a la) (hb:Arr G b lb) (da:Digs la) (db:Digs lb) (ta:Top la) (tb:Top lb) (h1:la.length≤1073741824) (h2:lb.length≤1073741824) :
 Does Tryz.prog 127 [.slice a la.length ca,.slice b lb.length cb] G [] (fun v G' Ho=>v=.int .i64 (tQ (sZ la) (sZ lb))∧G'=G∧Ho=[]):=by
 refine D0 Tryz.func127 Tryz.ntmps127 fun w=>?_
 by_cases hn:la.length=lb.length
 · refine cF 28 [0] ?_
   refine gC (ι:=Nat) (fun k=>([(5,.int .i64 ((k:Int) - 1)),(0,.slice a (List.length la) ca),(1,.slice b (List.length lb) cb)],[])) (fun k=>k≤la.length∧∀ j,k≤j→j<la.length→dg la j=dg lb j) (fun k=>k) (la.length) (⟨aG _,fun j h1 h2=>absurd h2 sV⟩) fun k=>fun hk=>?_
   obtain ⟨hk1,hz⟩:=hk
   rcases eU k with rfl | hpos
   · refine bE 19 [0] ?_
     refine bO ?_
     have e:la=lb:=by
      have:=Ow (k:=0) hn hz
      simpa using this
     exact ⟨by rw [e,Cj rfl],rfl,rfl⟩
   have e1:(la[((k:Int) - 1).toNat]?.getD default).v=dg la (k - 1):=by
    unfold dg;rw [show (((k:Nat):Int) - 1).toNat=((k - 1:Nat):Int).toNat by omega]
   have e2:(lb[((k:Int) - 1).toNat]?.getD default).v=dg lb (k - 1):=by
    unfold dg;rw [show (((k:Nat):Int) - 1).toNat=((k - 1:Nat):Int).toNat by omega]
   have hz':∀ j,(k - 1)+1≤j→j<la.length→dg la j=dg lb j:=fun j h1 h2=>hz j sV h2
   refine cF 14 [1] ?_
   refine eB [] [] T.mixed [[0],[1]] ?_
   refine jC (α:=U32) 2 T.sl87 ?_
   refine pA 3 [] 0 T.one166 ?_
   refine eJ [[4],[5]] ?_
   refine jC (α:=U32) 6 T.sl87 ?_
   refine pA 7 [] 0 T.one166 ?_
   refine eJ [[8]] ?_
   refine dV ?_
   refine cE ?_
   refine dN (fun hc1=>?_) fun hc1=>?_
   refine bE 12 [] ?_
   refine bO ?_
   rotate_left
   refine cF 3 [] ?_
   refine eB [] [] T.mixed [[0],[1]] ?_
   refine jC (α:=U32) 2 T.sl87 ?_
   refine pA 3 [] 0 T.one166 ?_
   refine eJ [[4],[5]] ?_
   refine jC (α:=U32) 6 T.sl87 ?_
   refine pA 7 [] 0 T.one166 ?_
   refine eJ [[8]] ?_
   refine dV ?_
   refine cE ?_
   refine dN (fun hc2=>?_) fun hc2=>?_
   refine bE 11 [] ?_
   refine bO ?_
   rotate_left
   refine bE 8 [] ?_
   rotate_left
   · exact ⟨by rw [xX (Zh hn sV da db hz' sV)],rfl,rfl⟩
   · exact ⟨by rw [yL (Zh hn.symm sV db da (fun j h1 h2=>(hz' j h1 sV).symm) sV)],rfl,rfl⟩
   refine cZ 5 rfl (show _=Value.int .i64 (((k - 1:Nat):Int) - 1) by congr 1;omega) ?_
   refine cS (k - 1) ?_ ?_
   · refine ⟨by omega,fun j h1 h2=>?_⟩
     rcases aM j k with h3 | h3
     · have e:j=k - 1:=sV
       rw [e];omega
     exact hz j h3 h2
   omega
 by_cases hlt:la.length<lb.length
 · refine bE 35 [1,1] ?_
   refine bO ?_
   exact ⟨by rw [xX (yX da db tb hlt)],rfl,rfl⟩
 refine bE 36 [1,0] ?_
 refine bO ?_
 exact ⟨by rw [yL (yX db da ta sV)],rfl,rfl⟩
theorem QI (G:Imm) (neg:Bool) (a:Option Addr) (c:Nat) (l:List U32) (z:Int) (h:IsInt neg l z) (h1:l.length≤1073741824) :
 Does Tryz.prog 112 [.agg #[.bool neg,.slice a l.length c]] G [] (fun v G' Ho=>v=.int .i64 (Ck z)∧G'=G∧Ho=[]):=by
 have hz:=h.zero_iff
 have hn:=h.neg_iff
 refine D0 Tryz.func112 Tryz.ntmps112 fun w=>?_
 by_cases h0:l.length=0
 · have hz0:=hz.1 h0
   refine aK 2 [] ?_
   refine cV 0 fun b1=>?_
   refine aW 20 [0,1] ?_
   refine bO ?_
   exact ⟨by rw [hz0];rfl,rfl,rfl⟩
 have hz0:z≠0:=fun e=>h0 (hz.2 e)
 by_cases hs:z<0
 · rw [hn,cL hs]
   refine aK 2 [] ?_
   refine cV 0 fun b1=>?_
   refine aW 30 [0,0,0,1] ?_
   refine bO ?_
   exact ⟨by unfold Ck;rw [aL hz0,aR hs],rfl,rfl⟩
 rw [hn,bF hs]
 refine aK 2 [] ?_
 refine cV 0 fun b1=>?_
 refine aW 31 [0,0,0,0] ?_
 refine bO ?_
 exact ⟨by unfold Ck;rw [aL hz0,aL hs],rfl,rfl⟩
theorem YK (G:Imm) (n1 n2:Bool) (a b:Option Addr) (ca cb:Nat) (la lb:List U32) (x y:Int) (ha:Arr G a la) (hb:Arr G b lb) (hx:IsInt n1 la x) (hy:IsInt n2 lb y) (h1:la.length≤1073741824) (h2:lb.length≤1073741824) :
 Does Tryz.prog 180 [.agg #[.bool n1,.slice a la.length ca],.agg #[.bool n2,.slice b lb.length cb]] G [] (fun v G' Ho=>v=.int .i64 (tQ x y)∧G'=G∧Ho=[]):=by
 have da:=hx.digs
 have db:=hy.digs
 have ta:=hx.top
 have tb:=hy.top
 have va:=hx.abs
 have vb:=hy.abs
 have cs:∀ u v:Int,u<v→tQ u v=-1:=fun u v h=>xX h
 have cg:∀ u v:Int,v<u→tQ u v=1:=fun u v h=>yL h
 refine D0 Tryz.func180 Tryz.ntmps180 fun w=>?_
 have sx:(Ck x=-1∧x<0)∨(Ck x=0∧x=0)∨(Ck x=1∧0<x):=by
  rcases nD x 0 with h | h | h
  · exact .inl ⟨HF h,h⟩
  · exact .inr (.inl ⟨HH h,h⟩)
  exact .inr (.inr ⟨HG h,h⟩)
 have sy:(Ck y=-1∧y<0)∨(Ck y=0∧y=0)∨(Ck y=1∧0<y):=by
  rcases nD y 0 with h | h | h
  · exact .inl ⟨HF h,h⟩
  · exact .inr (.inl ⟨HH h,h⟩)
  exact .inr (.inr ⟨HG h,h⟩)
 refine aK 2 [] ?_
 refine cV 0 fun b1=>?_
 refine cV 1 fun b2=>?_
 refine bJ 4 [] ?_
 refine eB [0,1] [] T.mixed [[0,0],[2,1]] ?_
 refine fE 1 ?_
 refine bW rfl (QI _ _ _ _ _ _ sW sW) ?_
 refine bT 3 ?_
 refine bW rfl (QI _ _ _ _ _ _ sW sW) ?_
 refine dW ?_
 refine eJ [[4],[5]] ?_
 refine dV ?_
 refine oJ 9 [] ?_
 refine dN (fun hc1=>?_) fun hc1=>?_
 refine cF 8 [] ?_
 refine dN (fun hc2=>?_) fun hc2=>?_
 refine bE 8 [] ?_
 refine bO ?_
 rotate_left
 refine bE 9 [] ?_
 refine bO ?_
 rotate_left
 refine cF 9 [] ?_
 refine dN (fun hc2=>?_) fun hc2=>?_
 refine aK 6 [1,0] ?_
 refine bW rfl (HK _ _ _ _ _ _ _ sW sW sW sW sW sW sW sW) ?_
 refine aW 5 [] ?_
 refine bO ?_
 rotate_left
 refine aK 8 [0,1] ?_
 refine bW rfl (HK _ _ _ _ _ _ _ sW sW sW sW sW sW sW sW) ?_
 refine aW 4 [] ?_
 refine bO ?_
 rotate_left
 · exact ⟨by rw [cs x y sV],rfl,rfl⟩
 · exact ⟨by rw [cg x y sV],rfl,rfl⟩
 · exact ⟨by rw [Al (x:=sZ lb) (y:=sZ la) (u:=x) (v:=y) sV sV],rfl,rfl⟩
 exact ⟨by rw [Al (x:=sZ la) (y:=sZ lb) (u:=x) (v:=y) sV sV],rfl,rfl⟩
end
section
attribute [local irreducible] sZ pw tQ
theorem YL (G:Imm) (neg:Bool) (a:Option Addr) (c:Nat) (l:List U32) (z:Int) (ha:Arr G a l) (h:IsInt neg l z) (h1:l.length≤1073741824) (hc:l.length≤c) :
 Does Tryz.prog 116 [.agg #[.bool neg,.slice a l.length c]] G [] (fun v G' Ho=>∃ r:IV,v=.agg #[.bool r.neg,.slice r.a r.n r.c]∧Num G r (-z)∧G'=G∧Ho=[]):=by
 refine D0 Tryz.func116 Tryz.ntmps116 fun w=>?_
 refine aK 2 [] ?_
 refine cV 0 fun b1=>?_
 refine aQ 1 rfl T.zero93 fun b2=>?_
 refine aJ 9 [0,0] ?_
 refine bV 2 rfl (xE _ _ _ _ _ sW sV sW) fun v1 G1 Ho1 hle1 hp=>?_
 obtain ⟨tn1,rfl,htr1,rfl,rfl⟩:=hp
 refine aW 4 [1] ?_
 refine dL (.inr rfl) (Ho:=Hp.only _ []) rfl (.agg 1 rfl rfl T.agg93) (bK _ _) ?_
 refine ⟨⟨!neg && decide (0<tn1),subA a c 0 1,tn1,c⟩,rfl,?_,rfl,rfl⟩
 have e:=htr1.num h.digs ha hc (!neg)
 have e2:(if (!neg)=true then -sZ l else sZ l)=-z:=by
  rw [h.val];cases neg <;> simp
 rw [e2] at e;exact e
theorem YM (G:Imm) (neg:Bool) (a:Option Addr) (c:Nat) (l:List U32) (z:Int) (ha:Arr G a l) (h:IsInt neg l z) (h1:l.length≤1073741824) (hc:l.length≤c) :
 Does Tryz.prog 113 [.agg #[.bool neg,.slice a l.length c]] G [] (fun v G' Ho=>∃ r:IV,v=.agg #[.bool r.neg,.slice r.a r.n r.c]∧Num G r (z.natAbs:Int)∧G'=G∧Ho=[]):=by
 refine D0 Tryz.func113 Tryz.ntmps113 fun w=>?_
 refine aK 2 [] ?_
 refine cV 0 fun b1=>?_
 refine aQ 1 rfl T.zero93 fun b2=>?_
 refine aJ 6 [0] ?_
 refine bV 2 rfl (xE _ _ _ _ _ sW sV sW) fun v1 G1 Ho1 hle1 hp=>?_
 obtain ⟨tn1,rfl,htr1,rfl,rfl⟩:=hp
 refine aW 4 [1] ?_
 refine dL (.inr rfl) (Ho:=Hp.only _ []) rfl (.agg 1 rfl rfl T.agg93) (bK _ _) ?_
 refine ⟨⟨false && decide (0<tn1),subA a c 0 1,tn1,c⟩,rfl,?_,rfl,rfl⟩
 have e:=htr1.num h.digs ha hc false
 rw [aL (by decide),h.abs] at e
 exact e
theorem Ox {a b:Nat} (h:pw a<pw b):a<b:=by
 rcases aM a b with h1 | h1
 · exact h1
 have:=Tg h1;omega
theorem Zi {r:List U32} {u m:Int} (h:sZ r+pw r.length*u=m):sZ (r++[(⟨u % 65536⟩:U32)])+pw (r++[(⟨u % 65536⟩:U32)]).length*(u / 65536)=m:=by
 rw [yN,aI,kL,xB]
 have:=Zg (pw r.length) u
 show sZ r+pw r.length*(u % 65536)+65536*pw r.length*(u / 65536)=m
 omega
theorem HL {r:List U32} {u m:Int} (h:sZ r+pw r.length*u=m) (hd:Digs r) (hu:0<u) (hm:m≤9223372036854775808):r.length<4:=by
 have h1:=uJ hd
 have h2:=aY (show (1:Int)≤u by omega) (bM (wQ r.length))
 refine Ox ?_
 have h3:pw 4=18446744073709551616:=by unfold pw;decide
 omega
theorem QJ (G:Imm) (n:Int) (hn:-9223372036854775808≤n∧n≤9223372036854775807) :
 Does Tryz.prog 59 [.int .i64 n] G [] (fun v G' Ho=>∃ r:IV,v=.agg #[.bool r.neg,.slice r.a r.n r.c]∧Num G' r n∧Ho=[]):=by
 refine D0 Tryz.func59 Tryz.ntmps59 fun w=>?_
 refine fO 0 (tK 166 ([]:List U32) []) ?_
 by_cases hneg:n<0
 · refine aK 2 [] ?_
   refine aQ 1 rfl T.zero93 fun b1=>?_
   refine aJ 5 [] ?_
   refine aN (kP rfl T.u165 rfl) ?_
   refine aJ 13 [1] ?_
   refine aN (mV rfl) ?_
   refine bJ 10 [] ?_
   refine jE 3 rfl (show _=Value.int .u64 (-n) by rw [Tw ⟨hn.1,hneg⟩]) ?_
   refine qA (ι:=Int×List U32×(Option Addr×Nat×List Value)) (fun (u,r,(o,d,j))=>([(3,.int .u64 u),(4,.slice o r.length d),(2,.pointer (some ⟨b1,0,none⟩)),(0,.int .i64 n)],[(0,o.map (·.block),tK 166 r j),(1,some b1,.cells #[.bool Bool.false,.slice none 0 0] 93)])) (fun (u,r,(o,d,j))=>0≤u∧u≤9223372036854775808∧Digs r∧sZ r+pw r.length*u=n.natAbs∧r.length≤4∧OwnA o d r j) (fun (u,r,(o,d,j))=>u.toNat) ((-n,[],(none,0,[]))) (⟨by omega,by omega,qX,by rw [vD,cT,Eo];omega,by decide,eW⟩) ⟨rfl,rfl,rfl,rfl,trivial⟩ ⟨rfl,rfl,trivial⟩ fun ⟨u,r,(o,d,j)⟩=>fun hk=>?_
   obtain ⟨hu0,hu1,hdr,hv,hrl,hob⟩:=hk
   by_cases hu:0<u
   · have hl4:=HL hv hdr hu sV
     refine aK 15 [1] ?_
     refine aN (jO rfl rfl sV) ?_
     refine aN (gL rfl T.u166 rfl sV) ?_
     refine fF (α:=U32) 2 [⟨u % 65536⟩] rfl T.sl87 T.el166 rfl rfl rfl rfl rfl fun b2=>?_
     refine kO (α:=U32) 0 T.sl87 T.el166 (fZ 2 rfl) fun a1 c1 junk1 ho1=>?_
     refine aJ 5 [] ?_
     refine aN (oU rfl rfl sV) ?_
     refine aW 3 [] ?_
     refine cS ((u / 65536,_,(a1,c1,junk1))) ?_ ?_
     · exact ⟨by omega,by omega,yQ hdr _,Zi hv,by rw [aI];show r.length+1≤4;omega,ho1⟩
     show (u / 65536).toNat<u.toNat
     omega
   have hu:u=0:=sV
   subst hu
   rw [cI,dG] at hv
   refine aK 18 [0] ?_
   have hcap:=hob.le
   refine cR 0 rfl hob fun G1 hle1 hA=>?_
   refine bV 2 rfl (xE _ _ _ _ _ sW sV sW) fun v2 G2 Ho2 hle2 hp=>?_
   obtain ⟨tn2,rfl,htr2,rfl,rfl⟩:=hp
   refine aW 4 [1] ?_
   refine dL (.inr rfl) (Ho:=Hp.only _ []) rfl (.agg 1 rfl rfl T.agg93) (bK _ _) ?_
   refine ⟨⟨decide (n<0) && decide (0<tn2),subA o d 0 1,tn2,d⟩,rfl,?_,rfl⟩
   have e:=htr2.num hdr hA hcap (decide (n<0))
   have e2:(if decide (n<0)=true then -sZ r else sZ r)=n:=by
    rw [hv];by_cases h:n<0
    · rw [aR (by simpa using h)];omega
    rw [aL (by simpa using h)];omega
   rw [e2] at e;exact e
 refine aK 2 [] ?_
 refine aQ 1 rfl T.zero93 fun b1=>?_
 refine aJ 5 [] ?_
 refine aN (cD rfl T.u165 rfl sV) ?_
 refine bJ 20 [0] ?_
 refine qA (ι:=Int×List U32×(Option Addr×Nat×List Value)) (fun (u,r,(o,d,j))=>([(3,.int .u64 u),(4,.slice o r.length d),(2,.pointer (some ⟨b1,0,none⟩)),(0,.int .i64 n)],[(0,o.map (·.block),tK 166 r j),(1,some b1,.cells #[.bool Bool.false,.slice none 0 0] 93)])) (fun (u,r,(o,d,j))=>0≤u∧u≤9223372036854775808∧Digs r∧sZ r+pw r.length*u=n.natAbs∧r.length≤4∧OwnA o d r j) (fun (u,r,(o,d,j))=>u.toNat) ((n,[],(none,0,[]))) (⟨by omega,by omega,qX,by rw [vD,cT,Eo];omega,by decide,eW⟩) ⟨rfl,rfl,rfl,rfl,trivial⟩ ⟨rfl,rfl,trivial⟩ fun ⟨u,r,(o,d,j)⟩=>fun hk=>?_
 obtain ⟨hu0,hu1,hdr,hv,hrl,hob⟩:=hk
 by_cases hu:0<u
 · have hl4:=HL hv hdr hu sV
   refine aK 15 [1] ?_
   refine aN (jO rfl rfl sV) ?_
   refine aN (gL rfl T.u166 rfl sV) ?_
   refine fF (α:=U32) 2 [⟨u % 65536⟩] rfl T.sl87 T.el166 rfl rfl rfl rfl rfl fun b2=>?_
   refine kO (α:=U32) 0 T.sl87 T.el166 (fZ 2 rfl) fun a1 c1 junk1 ho1=>?_
   refine aJ 5 [] ?_
   refine aN (oU rfl rfl sV) ?_
   refine aW 3 [] ?_
   refine cS ((u / 65536,_,(a1,c1,junk1))) ?_ ?_
   · exact ⟨by omega,by omega,yQ hdr _,Zi hv,by rw [aI];show r.length+1≤4;omega,ho1⟩
   show (u / 65536).toNat<u.toNat
   omega
 have hu:u=0:=sV
 subst hu
 rw [cI,dG] at hv
 refine aK 18 [0] ?_
 have hcap:=hob.le
 refine cR 0 rfl hob fun G1 hle1 hA=>?_
 refine bV 2 rfl (xE _ _ _ _ _ sW sV sW) fun v2 G2 Ho2 hle2 hp=>?_
 obtain ⟨tn2,rfl,htr2,rfl,rfl⟩:=hp
 refine aW 4 [1] ?_
 refine dL (.inr rfl) (Ho:=Hp.only _ []) rfl (.agg 1 rfl rfl T.agg93) (bK _ _) ?_
 refine ⟨⟨decide (n<0) && decide (0<tn2),subA o d 0 1,tn2,d⟩,rfl,?_,rfl⟩
 have e:=htr2.num hdr hA hcap (decide (n<0))
 have e2:(if decide (n<0)=true then -sZ r else sZ r)=n:=by
  rw [hv];by_cases h:n<0
  · rw [aR (by simpa using h)];omega
  rw [aL (by simpa using h)];omega
 rw [e2] at e;exact e
theorem c74 (G:Imm) (n1 n2:Bool) (a b:Option Addr) (ca cb:Nat) (la lb:List U32) (x y:Int) (ha:Arr G a la) (hb:Arr G b lb) (hx:IsInt n1 la x) (hy:IsInt n2 lb y) (h1:la.length≤1073741824) (h2:lb.length≤1073741824) :
 Does Tryz.prog 74 [.agg #[.bool n1,.slice a la.length ca],.agg #[.bool n2,.slice b lb.length cb]] G [] (fun v G' Ho=>∃ r:IV,v=.agg #[.bool r.neg,.slice r.a r.n r.c]∧Num G' r (x+y)∧Ho=[]):=by
 have da:=hx.digs
 have db:=hy.digs
 have ta:=hx.top
 have tb:=hy.top
 refine D0 Tryz.func74 Tryz.ntmps74 fun w=>?_
 by_cases hs:n1=n2
 · refine aK 2 [] ?_
   refine cV 0 fun b1=>?_
   refine cV 1 fun b2=>?_
   refine aQ 2 rfl T.zero93 fun b3=>?_
   refine aJ 9 [0,1] ?_
   refine aN (rC T.u4 rfl rfl) ?_
   refine bJ 4 [1] ?_
   refine eB [0,1,2] [(2,8)] T.mixed [[0],[1,0],[2],[3,0],[4],[5,1]] ?_
   refine fE 6 ?_
   refine bV 3 rfl (YJ _ _ _ _ _ _ _ sW sW sW sW sW sW) fun v1 G1 Ho1 hle1 hp=>?_
   obtain ⟨po1,pc1,pr1,pj1,rfl,hpo1,rfl,rfl,hpd1,hpv1,hpl1⟩:=hp
   refine bT 7 ?_
   have hcap:=hpo1.le
   refine cR 3 rfl hpo1 fun G9 hle9 hA=>?_
   refine bV 4 rfl (xE _ _ _ _ _ sW sV sW) fun v2 G2 Ho2 hle2 hp=>?_
   obtain ⟨tn2,rfl,htr2,rfl,rfl⟩:=hp
   refine bT 8 ?_
   refine aA 1 [2] ?_
   refine fV ?_
   refine gZ 3 [] ?_
   refine dL (.inr rfl) (Ho:=Hp.only _ []) rfl (.agg 2 rfl rfl T.agg93) (bK _ _) ?_
   refine ⟨⟨n1 && decide (0<tn2),subA po1 pc1 0 1,tn2,pc1⟩,rfl,?_,rfl⟩
   have e:=htr2.num hpd1 hA hcap n1
   have e2:(if n1=true then -sZ pr1 else sZ pr1)=x+y:=by
    rw [hpv1,hx.val,hy.val]
    revert hs
    cases n1 <;> cases n2 <;> simp <;> omega
   rw [e2] at e;exact e
 by_cases hle:sZ lb≤sZ la
 · have hcmp:0≤tQ (sZ la) (sZ lb):=by
    rcases rP hle with h | h
    · rw [yL h];decide
    rw [Cj h.symm];decide
   have hll:lb.length≤la.length:=by
    rcases aM la.length lb.length with h | h
    · have:=yX da db tb h;omega
    exact h
   refine aK 2 [] ?_
   refine cV 0 fun b1=>?_
   refine cV 1 fun b2=>?_
   refine aQ 2 rfl T.zero93 fun b3=>?_
   refine aJ 9 [0,1] ?_
   refine aN (rC T.u4 rfl rfl) ?_
   refine aJ 12 [0,0,1] ?_
   refine bW rfl (HK _ _ _ _ _ _ _ sW sW sW sW sW sW sW sW) ?_
   refine bJ 5 [1] ?_
   refine eB [0,1,2] [(2,8)] T.mixed [[0],[1,0],[2],[3,0],[4],[5,1]] ?_
   refine fE 6 ?_
   refine bV 3 rfl (QG _ _ _ _ _ _ _ sW sW sW sW sW sW sW) fun v1 G1 Ho1 hle1 hp=>?_
   obtain ⟨po1,pc1,pr1,pj1,rfl,hpo1,rfl,rfl,hpd1,hpv1,hpl1⟩:=hp
   refine bT 7 ?_
   have hcap:=hpo1.le
   refine cR 3 rfl hpo1 fun G9 hle9 hA=>?_
   refine bV 4 rfl (xE _ _ _ _ _ sW sV sW) fun v2 G2 Ho2 hle2 hp=>?_
   obtain ⟨tn2,rfl,htr2,rfl,rfl⟩:=hp
   refine bT 8 ?_
   refine aA 1 [2] ?_
   refine fV ?_
   refine gZ 3 [] ?_
   refine dL (.inr rfl) (Ho:=Hp.only _ []) rfl (.agg 2 rfl rfl T.agg93) (bK _ _) ?_
   refine ⟨⟨n1 && decide (0<tn2),subA po1 pc1 0 1,tn2,pc1⟩,rfl,?_,rfl⟩
   have e:=htr2.num hpd1 hA hcap n1
   have e2:(if n1=true then -sZ pr1 else sZ pr1)=x+y:=by
    rw [hpv1,hx.val,hy.val]
    revert hs
    cases n1 <;> cases n2 <;> simp <;> omega
   rw [e2] at e;exact e
 have hcmp:¬0≤tQ (sZ la) (sZ lb):=by rw [xX sV];decide
 have hge9:sZ la≤sZ lb:=sV
 have hll:la.length≤lb.length:=by
  rcases aM lb.length la.length with h | h
  · have:=yX db da ta h;omega
  exact h
 refine aK 2 [] ?_
 refine cV 0 fun b1=>?_
 refine cV 1 fun b2=>?_
 refine aQ 2 rfl T.zero93 fun b3=>?_
 refine aJ 9 [0,1] ?_
 refine aN (rC T.u4 rfl rfl) ?_
 refine aJ 12 [0,0,1] ?_
 refine bW rfl (HK _ _ _ _ _ _ _ sW sW sW sW sW sW sW sW) ?_
 refine bJ 7 [0] ?_
 refine eB [0,1,2] [(2,8)] T.mixed [[0],[1,1],[2],[3,1],[4],[5,0]] ?_
 refine fE 6 ?_
 refine bV 3 rfl (QG _ _ _ _ _ _ _ sW sW sW sW sW sW sW) fun v1 G1 Ho1 hle1 hp=>?_
 obtain ⟨po1,pc1,pr1,pj1,rfl,hpo1,rfl,rfl,hpd1,hpv1,hpl1⟩:=hp
 refine bT 7 ?_
 have hcap:=hpo1.le
 refine cR 3 rfl hpo1 fun G9 hle9 hA=>?_
 refine bV 4 rfl (xE _ _ _ _ _ sW sV sW) fun v2 G2 Ho2 hle2 hp=>?_
 obtain ⟨tn2,rfl,htr2,rfl,rfl⟩:=hp
 refine bT 8 ?_
 refine aA 1 [2] ?_
 refine fV ?_
 refine gZ 2 [] ?_
 refine dL (.inr rfl) (Ho:=Hp.only _ []) rfl (.agg 2 rfl rfl T.agg93) (bK _ _) ?_
 refine ⟨⟨n2 && decide (0<tn2),subA po1 pc1 0 1,tn2,pc1⟩,rfl,?_,rfl⟩
 have e:=htr2.num hpd1 hA hcap n2
 have e2:(if n2=true then -sZ pr1 else sZ pr1)=x+y:=by
  rw [hpv1,hx.val,hy.val]
  revert hs
  cases n1 <;> cases n2 <;> simp <;> omega
 rw [e2] at e;exact e
theorem YN (G:Imm) (n1 n2:Bool) (a b:Option Addr) (ca cb:Nat) (la lb:List U32) (x y:Int) (ha:Arr G a la) (hb:Arr G b lb) (hx:IsInt n1 la x) (hy:IsInt n2 lb y) (h1:la.length≤1073741824) (h2:lb.length≤1073741824) (hcb:lb.length≤cb) :
 Does Tryz.prog 160 [.agg #[.bool n1,.slice a la.length ca],.agg #[.bool n2,.slice b lb.length cb]] G [] (fun v G' Ho=>∃ r:IV,v=.agg #[.bool r.neg,.slice r.a r.n r.c]∧Num G' r (x - y)∧Ho=[]):=by
 refine D0 Tryz.func160 Tryz.ntmps160 fun w=>?_
 refine aK 2 [] ?_
 refine cV 0 fun b1=>?_
 refine cV 1 fun b2=>?_
 refine aQ 2 rfl T.zero93 fun b3=>?_
 refine bJ 3 [] ?_
 refine eB [0,1,2] [(2,4)] T.mixed [[0,0],[1,1]] ?_
 refine fE 2 ?_
 refine bV 3 rfl (YL _ _ _ _ _ _ sW sW sW sW) fun v1 G1 Ho1 hle1 hp=>?_
 obtain ⟨nr1,rfl,hnr1,rfl,rfl⟩:=hp
 refine bT 3 ?_
 obtain ⟨rn,ra,rk,rc⟩:=nr1
 obtain ⟨l,hl,hlc,hA,hI⟩:=hnr1
 simp only at hl hlc hA hI
 subst hl
 have hll:l.length≤lb.length:=hI.len (by
  have:=wO hy.digs
  rw [hy.abs] at this
  omega)
 refine bV 20 rfl (c74 _ _ _ _ _ _ _ _ _ _ _ ha hA hx hI h1 sV) fun v2 G2 Ho2 hle2 hp=>?_
 obtain ⟨r2,rfl,hr2,rfl⟩:=hp
 refine bT 4 ?_
 refine aA 1 [2] ?_
 refine fV ?_
 refine gZ 2 [] ?_
 refine dL (.inr rfl) (Ho:=Hp.only _ []) rfl (.agg 2 rfl rfl T.agg93) (bK _ _) ?_
 refine ⟨r2,rfl,?_,rfl⟩
 rw [Int.sub_eq_add_neg];exact hr2
theorem Zj (G:Imm) (x y:IV) (zx zy:Int) (hx:Num G x zx) (hy:Num G y zy) (h1:x.n≤1073741824) (h2:y.n≤1073741824) :
 Does Tryz.prog 74 [.agg (Cells.enc x).toArray,.agg (Cells.enc y).toArray] G [] (fun v G' Ho=>∃ r:IV,v=.agg (Cells.enc r).toArray∧Num G' r (zx+zy)∧Ho=[]):=by
 obtain ⟨n1,a,k1,ca⟩:=x
 obtain ⟨n2,b,k2,cb⟩:=y
 obtain ⟨la,hl,hlc,hA,hI⟩:=hx
 obtain ⟨lb,hl',hlc',hA',hI'⟩:=hy
 simp only at hl hlc hA hI hl' hlc' hA' hI' h1 h2
 subst hl hl'
 exact c74 G n1 n2 a b ca cb la lb zx zy hA hA' hI hI' h1 h2
theorem Zk (G:Imm) (x y:IV) (zx zy:Int) (hx:Num G x zx) (hy:Num G y zy) (h1:x.n≤1073741824) (h2:y.n≤1073741824) :
 Does Tryz.prog 180 [.agg (Cells.enc x).toArray,.agg (Cells.enc y).toArray] G [] (fun v G' Ho=>v=.int .i64 (tQ zx zy)∧G'=G∧Ho=[]):=by
 obtain ⟨n1,a,k1,ca⟩:=x
 obtain ⟨n2,b,k2,cb⟩:=y
 obtain ⟨la,hl,hlc,hA,hI⟩:=hx
 obtain ⟨lb,hl',hlc',hA',hI'⟩:=hy
 simp only at hl hlc hA hI hl' hlc' hA' hI' h1 h2
 subst hl hl'
 exact YK G n1 n2 a b ca cb la lb zx zy hA hA' hI hI' h1 h2
end
theorem Ex:∀ (l:List U32) (k:Nat) (d:U32),k<l.length→sZ (l.set k d)=sZ l+pw k*(d.v - dg l k)
 | [],k,d,h=>by simp at h
 | x :: l,0,d,_=>by
   rw [rN,vM,vM,Eo]
   show _=_+1*(d.v - x.v)
   omega
 | x :: l,k+1,d,h=>by
   have ih:=Ex l k d (by simpa using h)
   have e:dg (x :: l) (k+1)=dg l k:=by unfold dg;rw [aF,aF,gO]
   rw [rO,vM,vM,ih,xB,e,bI,←bR]
   omega
theorem zX {l:List U32} (h:Digs l) (k:Nat) {s:Int} (hs:0≤s∧s<65536):Digs (l.set k ⟨s⟩):=fun d hd=>by
 rcases gX hd with h1 | h1
 · exact h d h1
 subst h1;exact hs
theorem Ty {r lb:List U32} {i j:Nat} {c s x A:Int} (hk:i+j<r.length) (hv:sZ r+pw (i+j)*c=A+pw i*(x*sZ (lb.take j))) (hs:s=c+dg r (i+j)+x*dg lb j) :
 sZ (r.set (i+j) ⟨s % 65536⟩)+pw (i+(j+1))*(s / 65536)=A+pw i*(x*sZ (lb.take (j+1))):=by
 rw [Ex r (i+j) ⟨s % 65536⟩ hk,vN,←kI,xB]
 have h1:=Zg (pw (i+j)) s
 have h2:pw (i+j)*s=pw (i+j)*c+pw (i+j)*dg r (i+j)+pw (i+j)*(x*dg lb j):=by rw [hs,bI,bI]
 have h3:pw i*(x*(sZ (lb.take j)+pw j*dg lb j))=pw i*(x*sZ (lb.take j))+pw (i+j)*(x*dg lb j):=by
  rw [bI,bI,Wv]
  congr 1
  rw [bR,←bR x,cN x (pw j),bR]
 have h4:pw (i+j)*(s % 65536 - dg r (i+j))=pw (i+j)*(s % 65536) - pw (i+j)*dg r (i+j):=iU _ _ _
 show sZ r+pw (i+j)*(s % 65536 - dg r (i+j))+65536*pw (i+j)*(s / 65536)=_
 rw [h3,h4]
 omega
theorem Zl {la lb:List U32} {i j:Nat} {v:Int} (hj:lb.length≤j) (h:v=sZ (la.take i)*sZ lb+pw i*(dg la i*sZ (lb.take j))):v=sZ (la.take (i+1))*sZ lb:=by
 rw [h,tH hj,vN,jL,bR]
theorem QK {a b c d:Int} (ha:0≤a) (hb:0≤b) (h1:a<c) (h2:b<d):a*b<c*d:=by
 have e1:a*b≤a*d:=aY (bM h2) ha
 have e2:a*d<c*d:=kR h1 sV
 omega
theorem CW {la lb r:List U32} {i j:Nat} {c:Int} (da:Digs la) (db:Digs lb) (hi:i<la.length) (hj:lb.length≤j) (hdr:Digs r) (hc:0<c) (hv:sZ r+pw (i+j)*c=sZ (la.take i)*sZ lb+pw i*(dg la i*sZ (lb.take j))):j≤lb.length:=by
 have h1:=Zl hj hv
 have h2:=wO (da.take (i+1))
 rw [bC,dC sV] at h2
 have h3:=QK (uJ (da.take (i+1))) (uJ db) h2 (wO db)
 rw [←Wv] at h3
 have h4:=uJ hdr
 have h5:=aY (show (1:Int)≤c by omega) (bM (wQ (i+j)))
 have h6:pw (i+j)<pw (i+1+lb.length):=sV
 have:=Ox h6
 omega
theorem Tz {x y:Int} (hx:0≤x∧x<65536) (hy:0≤y∧y<65536):0≤x*y∧x*y≤4294836225:=by
 refine ⟨jT hx.1 hy.1,?_⟩
 have h1:x*y≤65535*y:=cY sV hy.1
 omega
section
attribute [local irreducible] sZ pw tQ
theorem c52 (G:Imm) (n1 n2:Bool) (a b:Option Addr) (ca cb:Nat) (la lb:List U32) (x y:Int) (ha:Arr G a la) (hb:Arr G b lb) (hx:IsInt n1 la x) (hy:IsInt n2 lb y) (h1:la.length≤536870912) (h2:lb.length≤536870912) :
 Does Tryz.prog 52 [.agg #[.bool n1,.slice a la.length ca],.agg #[.bool n2,.slice b lb.length cb]] G [] (fun v G' Ho=>∃ r:IV,v=.agg #[.bool r.neg,.slice r.a r.n r.c]∧Num G' r (x*y)∧Ho=[]):=by
 have da:=hx.digs
 have db:=hy.digs
 refine D0 Tryz.func52 Tryz.ntmps52 fun w=>?_
 refine aK 2 [] ?_
 refine cV 0 fun b1=>?_
 refine cV 1 fun b2=>?_
 refine aQ 2 rfl T.zero93 fun b3=>?_
 refine aJ 12 [0,1] ?_
 refine iC (α:=U32) 3 rfl T.sl87 T.el166 rfl rfl sV sV fun b4=>?_
 refine bJ 10 [] ?_
 obtain ⟨N,hN⟩:∃ N,N=la.length+lb.length+1:=⟨_,rfl⟩
 have hM:((la.length:Int)+(lb.length:Int)+1).toNat=N:=sV
 rw [hM]
 have hown:∀ r:List U32,r.length=N→OwnA (some ⟨b4,0,none⟩) N r []:=fun r hr=>.inr ⟨b4,rfl,by rw [hr];rfl,by omega,by simp only [maxLen];omega⟩
 refine jE 5 rfl (show _=Value.slice (some ⟨b4,0,none⟩) (List.replicate N (default:U32)).length N by rw [aE]) ?_
 refine gC (ι:=Nat×List U32) (fun (i,r)=>([(6,.int .i64 (i:Int)),(5,.slice (some ⟨b4,0,none⟩) r.length N),(4,.pointer (some (Addr.mk b3 0 none))),(3,.pointer (some ⟨b2,0,none⟩)),(2,.pointer (some ⟨b1,0,none⟩))],[(3,some b4,tK 166 r []),(2,some b3,.cells #[.bool Bool.false,.slice none 0 0] 93),(1,some b2,.cells #[.bool n2,.slice b (List.length lb) cb] 93),(0,some b1,.cells #[.bool n1,.slice a (List.length la) ca] 93)])) (fun (i,r)=>i≤la.length∧r.length=N∧Digs r∧sZ r=sZ (la.take i)*sZ lb) (fun (i,r)=>la.length - i) ((0,List.replicate N (default:U32))) (⟨aU _,aE,rQ N,by rw [bN,vD,gK];exact yW N⟩) fun ⟨i,r⟩=>fun hk=>?_
 obtain ⟨hi,hrN,hdr,hv⟩:=hk
 rcases aM i la.length with hia | hia
 · have hxi:0≤(la[(i:Int).toNat]?.getD default).v∧(la[(i:Int).toNat]?.getD default).v<65536:=zO da hia
   refine cF 26 [0,1] ?_
   refine gC (ι:=Nat×Int×List U32) (fun (j,c,s)=>([(8,.int .i64 (j:Int)),(7,.int .u64 c),(5,.slice (some ⟨b4,0,none⟩) s.length N),(2,.pointer (some ⟨b1,0,none⟩)),(6,.int .i64 (↑i:Int)),(4,.pointer (some (Addr.mk b3 0 none))),(3,.pointer (some ⟨b2,0,none⟩))],[(3,some b4,tK 166 s []),(2,some b3,.cells #[.bool Bool.false,.slice none 0 0] 93),(1,some b2,.cells #[.bool n2,.slice b (List.length lb) cb] 93),(0,some b1,.cells #[.bool n1,.slice a (List.length la) ca] 93)])) (fun (j,c,s)=>0≤c∧c≤65535∧s.length=N∧Digs s∧sZ s+pw (i+j)*c=sZ (la.take i)*sZ lb+pw i*(dg la i*sZ (lb.take j))∧j≤lb.length+1) (fun (j,c,s)=>lb.length+1 - j) ((0,0,r)) (⟨by decide,by decide,hrN,hdr,by rw [cI,bN,vD,cI,cI,dG,dG];exact hv,aU _⟩) fun ⟨j,c,s⟩=>fun hk=>?_
   obtain ⟨hc0,hc1,hsN,hds,hvs,hjl⟩:=hk
   have hos:=hown s hsN
   have hbnd:lb.length≤j→0<c→j≤lb.length:=fun h1 h2=>CW da db hia h1 hds h2 hvs
   have ekk:((i:Int)+(j:Int)).toNat=i+j:=sV
   rcases aM j lb.length with hjb | hjb
   · have hyj:0≤(lb[(j:Int).toNat]?.getD default).v∧(lb[(j:Int).toNat]?.getD default).v<65536:=zO db hjb
     have hxy:=Tz hxi hyj
     have hsk:0≤(s[((i:Int)+(j:Int)).toNat]?.getD default).v∧(s[((i:Int)+(j:Int)).toNat]?.getD default).v<65536:=hds.at sV
     refine aK 9 [1] ?_
     refine Io 30 ?_
     refine aJ 17 [1] ?_
     refine fW (α:=U32) T.sl87 ?_
     refine nY 3 0 T.one166 ?_
     refine aN (cD rfl T.u165 rfl sV) ?_
     refine aN (gF rfl rfl sV) ?_
     refine bJ 14 [1,1] ?_
     refine eB [0,1,2,3] [] T.mixed [[0],[1],[2,0],[3]] ?_
     refine jC (α:=U32) 4 T.sl87 ?_
     refine pA 5 [0] 0 T.one166 ?_
     refine gD 6 [] rfl (cD rfl T.u165 rfl sV) ?_
     refine eJ [[7],[8,1],[9]] ?_
     refine jC (α:=U32) 10 T.sl87 ?_
     refine pA 11 [0] 0 T.one166 ?_
     refine gD 12 [] rfl (cD rfl T.u165 rfl sV) ?_
     refine gD 13 [] rfl (nO rfl rfl uU) ?_
     refine gD 14 [] rfl (gF rfl rfl sV) ?_
     refine eJ [[15]] ?_
     refine dV ?_
     refine pY 8 [] ?_
     refine aN (jO rfl rfl sV) ?_
     refine aN (gL rfl T.u166 rfl sV) ?_
     refine fW (α:=U32) T.sl87 ?_
     refine eX (z:=_) 3 T.size166 rfl rfl rfl sW sV rfl fun ho1=>?_
     refine aJ 4 [] ?_
     refine aN (oU rfl rfl sV) ?_
     refine aW 9 [] ?_
     rw [ekk] at ⊢ hsk
     refine cZ 5 rfl (show _=Value.slice (some ⟨b4,0,none⟩) (s.set (i+j) (⟨(c+(s[i+j]?.getD default).v+(la[(i:Int).toNat]?.getD default).v*(lb[(j:Int).toNat]?.getD default).v) % 65536⟩:U32)).length N by rw [aH]) ?_
     refine cS ((j+1,(c+(s[i+j]?.getD default).v+(la[(i:Int).toNat]?.getD default).v*(lb[(j:Int).toNat]?.getD default).v) / 65536,s.set (i+j) (⟨(c+(s[i+j]?.getD default).v+(la[(i:Int).toNat]?.getD default).v*(lb[(j:Int).toNat]?.getD default).v) % 65536⟩:U32))) ?_ ?_
     · exact ⟨by omega,by omega,by rw [aH];exact hsN,zX hds _ sV,Ty sV hvs (by simp only [dg,aF]),by omega⟩
     show lb.length+1 - (j+1)<lb.length+1 - j
     omega
   by_cases hcy:0<c
   · have hjle:=hbnd hjb hcy
     have hsk:0≤(s[((i:Int)+(j:Int)).toNat]?.getD default).v∧(s[((i:Int)+(j:Int)).toNat]?.getD default).v<65536:=hds.at sV
     refine aK 9 [1] ?_
     refine jV 30 ?_
     refine aJ 19 [1] ?_
     refine fW (α:=U32) T.sl87 ?_
     refine nY 3 0 T.one166 ?_
     refine aN (cD rfl T.u165 rfl sV) ?_
     refine aN (gF rfl rfl sV) ?_
     refine aJ 23 [1,0] ?_
     refine aN (jO rfl rfl sV) ?_
     refine aN (gL rfl T.u166 rfl sV) ?_
     refine fW (α:=U32) T.sl87 ?_
     refine eX (z:=_) 3 T.size166 rfl rfl rfl sW sV rfl fun ho1=>?_
     refine aJ 4 [] ?_
     refine aN (oU rfl rfl sV) ?_
     refine aW 9 [] ?_
     rw [ekk] at ⊢ hsk
     refine cZ 5 rfl (show _=Value.slice (some ⟨b4,0,none⟩) (s.set (i+j) (⟨(c+(s[i+j]?.getD default).v) % 65536⟩:U32)).length N by rw [aH]) ?_
     refine cS ((j+1,(c+(s[i+j]?.getD default).v) / 65536,s.set (i+j) (⟨(c+(s[i+j]?.getD default).v) % 65536⟩:U32))) ?_ ?_
     · exact ⟨by omega,by omega,by rw [aH];exact hsN,zX hds _ sV,Ty sV hvs (by rw [Hf hjb,cI,dG];simp only [dg,aF]),by omega⟩
     show lb.length+1 - (j+1)<lb.length+1 - j
     omega
   have hc:c=0:=sV
   subst hc
   rw [cI,dG] at hvs
   refine aK 9 [1] ?_
   refine jV 30 ?_
   refine aW 19 [0] ?_
   refine cS ((i+1,s)) ?_ ?_
   · exact ⟨by omega,hsN,hds,Zl hjb hvs⟩
   show la.length - (i+1)<la.length - i
   omega
 have hor:=hown r hrN
 rw [tH hia] at hv
 refine aK 22 [0,0,0,1] ?_
 refine aN (Eh T.u4 rfl rfl) ?_
 refine aA 1 [] ?_
 have hcap:=hor.le
 refine cR 3 rfl hor fun G9 hle9 hA=>?_
 refine bV 4 rfl (xE _ _ _ _ _ sW sV sW) fun v1 G1 Ho1 hle1 hp=>?_
 obtain ⟨tn1,rfl,htr1,rfl,rfl⟩:=hp
 refine aW 4 [2] ?_
 refine dL (.inr rfl) (Ho:=Hp.only _ []) rfl (.agg 2 rfl rfl T.agg93) (bK _ _) ?_
 refine ⟨⟨decide (n1≠n2) && decide (0<tn1),subA (some ⟨b4,0,none⟩) N 0 1,tn1,N⟩,rfl,?_,rfl⟩
 have e:=htr1.num hdr hA hcap (decide (n1≠n2))
 have e2:(if decide (n1≠n2)=true then -sZ r else sZ r)=x*y:=by
  rw [hv,hx.val,hy.val]
  cases n1 <;> cases n2 <;> simp [pL,Int.mul_neg]
 rw [e2] at e;exact e
theorem Zm (G:Imm) (x y:IV) (zx zy:Int) (hx:Num G x zx) (hy:Num G y zy) (h1:x.n≤536870912) (h2:y.n≤536870912) :
 Does Tryz.prog 52 [.agg (Cells.enc x).toArray,.agg (Cells.enc y).toArray] G [] (fun v G' Ho=>∃ r:IV,v=.agg (Cells.enc r).toArray∧Num G' r (zx*zy)∧Ho=[]):=by
 obtain ⟨n1,a,k1,ca⟩:=x
 obtain ⟨n2,b,k2,cb⟩:=y
 obtain ⟨la,hl,hlc,hA,hI⟩:=hx
 obtain ⟨lb,hl',hlc',hA',hI'⟩:=hy
 simp only at hl hlc hA hI hl' hlc' hA' hI' h1 h2
 subst hl hl'
 exact c52 G n1 n2 a b ca cb la lb zx zy hA hA' hI hI' h1 h2
end
theorem YO (G:Imm) (op:Int):Does Tryz.prog 214 [.int .i64 op] G [] (fun v G' Ho=>v=.bool (decide (op=3∨op=4))∧G'=G∧Ho=[]):=by
 refine D0 Tryz.func214 Tryz.ntmps214 fun w=>?_
 refine aK 10 [] ?_
 apply bZ 3 5 8 rfl
 intro hg1
 refine aA 5 [] ?_
 exact cU 3 0
 intro hg1
 refine aA 3 [] ?_
 exact cU 3 0
 refine aW 4 [] ?_
 refine bO ?_
 exact ⟨by simp,rfl,rfl⟩
def Ao (op c:Int):Bool:=
 if op=5∨op=6 then decide (c≠0∧-512≤c∧c≤512) else if op=7∨op=8 then decide (1≤c∧c≤64) else decide (c=0)
theorem YP (G:Imm) (i:Sl.Instr):Does Tryz.prog 215 [.agg (Cells.enc i).toArray] G [] (fun v G' Ho=>v=.bool (decide (Ao i.op i.c=true))∧G'=G∧Ho=[]):=by
 refine D0 Tryz.func215 Tryz.ntmps215 fun w=>?_
 refine aK 2 [] ?_
 refine cV 0 fun b1=>?_
 refine bJ 18 [0] ?_
 refine dN (fun hc1=>?_) fun hc1=>?_
 refine aK 9 [1,0] ?_
 apply cW 4 11 15 rfl
 intro hg1
 refine aA 7 [0] ?_
 exact cU 4 0
 intro hg1
 refine aA 4 [] ?_
 exact cU 4 0
 refine aA 1 [] ?_
 apply cW 4 16 20 rfl
 intro hg1
 refine aA 7 [0] ?_
 exact cU 4 0
 intro hg1
 refine aA 4 [] ?_
 exact cU 4 0
 refine aW 6 [] ?_
 refine bO ?_
 rotate_left
 refine cF 5 [] ?_
 refine dN (fun hc2=>?_) fun hc2=>?_
 refine aK 6 [0] ?_
 apply cW 4 11 15 rfl
 intro hg1
 refine aA 7 [0] ?_
 exact cU 4 0
 intro hg1
 refine aA 4 [] ?_
 exact cU 4 0
 refine aA 1 [] ?_
 apply cW 4 16 20 rfl
 intro hg1
 refine aA 7 [0] ?_
 exact cU 4 0
 intro hg1
 refine aA 4 [] ?_
 exact cU 4 0
 refine aW 6 [] ?_
 refine bO ?_
 rotate_left
 refine cF 7 [] ?_
 refine dN (fun hc3=>?_) fun hc3=>?_
 refine aK 9 [1,0] ?_
 apply cW 4 27 31 rfl
 intro hg1
 refine aA 7 [0] ?_
 exact cU 4 0
 intro hg1
 refine aA 4 [] ?_
 exact cU 4 0
 refine aW 6 [] ?_
 refine bO ?_
 rotate_left
 refine cF 5 [] ?_
 refine dN (fun hc4=>?_) fun hc4=>?_
 refine aK 6 [0] ?_
 apply cW 4 27 31 rfl
 intro hg1
 refine aA 7 [0] ?_
 exact cU 4 0
 intro hg1
 refine aA 4 [] ?_
 exact cU 4 0
 refine aW 6 [] ?_
 refine bO ?_
 rotate_left
 refine bE 12 [0] ?_
 refine bO ?_
 rotate_left
 all_goals refine ⟨?_,rfl,rfl⟩
 all_goals simp [Ao, *]
 all_goals first | (split <;> first | rfl | omega) | omega | (simp only [Bool.and_assoc];rfl) | (simp only [Bool.and_assoc]) | skip
def xJ (i:Sl.Instr):List Int:=if i.op=3∨i.op=4 then [i.a,i.b] else if 1≤i.op∧i.op≤8 then [i.a] else []
theorem YQ (G:Imm) (i:Sl.Instr):Does Tryz.prog 216 [.agg (Cells.enc i).toArray] G [] (fun v G' Ho=>∃ a c junk,v=.slice a (xJ i).length c∧OwnA a c (xJ i) junk∧Ho=[(1,a.map (·.block),tK 3 (xJ i) junk)]∧G'=G):=by
 refine D0 Tryz.func216 Tryz.ntmps216 fun w=>?_
 refine aK 2 [] ?_
 refine cV 0 fun b1=>?_
 refine bJ 18 [0] ?_
 refine dN (fun hc1=>?_) fun hc1=>?_
 refine aK 9 [1,0,0] ?_
 refine fF (α:=Int) 1 [(Go.Sl.Instr.a i),(Go.Sl.Instr.b i)] rfl T.sl24 T.el3 rfl rfl rfl rfl rfl fun b2=>?_
 refine aW 6 [] ?_
 rotate_left
 refine cF 5 [] ?_
 refine dN (fun hc2=>?_) fun hc2=>?_
 refine aK 6 [0,0] ?_
 refine fF (α:=Int) 1 [(Go.Sl.Instr.a i),(Go.Sl.Instr.b i)] rfl T.sl24 T.el3 rfl rfl rfl rfl rfl fun b2=>?_
 refine aW 6 [] ?_
 rotate_left
 refine cF 7 [] ?_
 refine dN (fun hc3=>?_) fun hc3=>?_
 refine aK 7 [1,0] ?_
 refine fF (α:=Int) 1 [(Go.Sl.Instr.a i)] rfl T.sl24 T.el3 rfl rfl rfl rfl rfl fun b2=>?_
 refine aW 6 [] ?_
 rotate_left
 refine cF 6 [] ?_
 refine dN (fun hc4=>?_) fun hc4=>?_
 refine aK 7 [1,0] ?_
 refine fF (α:=Int) 1 [(Go.Sl.Instr.a i)] rfl T.sl24 T.el3 rfl rfl rfl rfl rfl fun b2=>?_
 refine aW 6 [] ?_
 rotate_left
 refine cF 6 [] ?_
 refine dN (fun hc5=>?_) fun hc5=>?_
 refine aK 7 [1,0] ?_
 refine fF (α:=Int) 1 [(Go.Sl.Instr.a i)] rfl T.sl24 T.el3 rfl rfl rfl rfl rfl fun b2=>?_
 refine aW 6 [] ?_
 rotate_left
 refine cF 6 [] ?_
 refine dN (fun hc6=>?_) fun hc6=>?_
 refine aK 7 [1,0] ?_
 refine fF (α:=Int) 1 [(Go.Sl.Instr.a i)] rfl T.sl24 T.el3 rfl rfl rfl rfl rfl fun b2=>?_
 refine aW 6 [] ?_
 rotate_left
 refine cF 6 [] ?_
 refine dN (fun hc7=>?_) fun hc7=>?_
 refine aK 7 [1,0] ?_
 refine fF (α:=Int) 1 [(Go.Sl.Instr.a i)] rfl T.sl24 T.el3 rfl rfl rfl rfl rfl fun b2=>?_
 refine aW 6 [] ?_
 rotate_left
 refine cF 5 [] ?_
 refine dN (fun hc8=>?_) fun hc8=>?_
 refine aK 4 [0] ?_
 refine fF (α:=Int) 1 [(Go.Sl.Instr.a i)] rfl T.sl24 T.el3 rfl rfl rfl rfl rfl fun b2=>?_
 refine aW 6 [] ?_
 rotate_left
 refine bE 9 [] ?_
 rotate_left
 rotate_right
 · have h:xJ i=[]:=by unfold xJ;rw [aL (by omega),aL (by omega)]
   refine Gv 1 (tK 3 ([]:List Int) []) ?_
   refine qJ [1] ?_
   rw [h];exact ⟨_,_,_,rfl,eW,rfl,rfl⟩
 all_goals first | refine dL (.inr rfl) (Ho:=Hp.only _ [1]) rfl (.tmp rfl) (bK _ _) ?_
 all_goals first
  | (have h:xJ i=[i.a,i.b]:=by unfold xJ;rw [aR (by omega)]
     rw [h];exact ⟨_,_,_,rfl,iI Jz,rfl,rfl⟩)
  | (have h:xJ i=[i.a]:=by unfold xJ;rw [aL (by omega),aR (by omega)]
     rw [h];exact ⟨_,_,_,rfl,iI Jz,rfl,rfl⟩)
  | skip
def xF (i:Sl.Instr) (regs:Int):Bool:=
 decide (1≤i.op∧i.op≤8∧0≤i.to∧i.to<regs∧(i.op=3∨i.op=4∨i.b=0)) && Ao i.op i.c && (xJ i).all fun r=>decide (0≤r∧r<regs)
theorem Bt {α:Type} [Inhabited α] (p:α→Bool) {l:List α} {k:Nat} (h:k<l.length):(l.take (k+1)).all p=((l.take k).all p && p (l[((k:Nat):Int).toNat]?.getD default)):=by
 have:l.take (k+1)=l.take k++[l[(k:Int).toNat]?.getD default]:=by
  rw [dE,aF,aB h];rfl
 rw [this,List.all_append];simp
theorem YR (G:Imm) (i:Sl.Instr) (regs:Int):Does Tryz.prog 173 [.agg (Cells.enc i).toArray,.int .i64 regs] G [] (fun v G' Ho=>v=.bool (decide (xF i regs=true))∧G'=G∧Ho=[]):=by
 refine D0 Tryz.func173 Tryz.ntmps173 fun w=>?_
 refine aK 2 [] ?_
 refine cV 0 fun b1=>?_
 refine aJ 10 [0] ?_
 apply bZ 4 10 14 rfl
 intro hg1
 refine aA 7 [0] ?_
 exact cU 4 0
 intro hg1
 refine aA 4 [] ?_
 exact cU 4 0
 refine aA 1 [] ?_
 apply bZ 4 15 19 rfl
 intro hg1
 refine aA 7 [0] ?_
 exact cU 4 0
 intro hg1
 refine aA 4 [] ?_
 exact cU 4 0
 refine aA 1 [] ?_
 apply bZ 5 20 25 rfl
 intro hg1
 refine aA 9 [0] ?_
 exact cU 5 0
 intro hg1
 refine aA 5 [] ?_
 exact cU 5 0
 refine aA 1 [] ?_
 apply bZ 10 26 36 rfl
 intro hg1
 refine aA 5 [0] ?_
 refine bW rfl (YO _ _) ?_
 refine aA 1 [] ?_
 refine aN (dK rfl) ?_
 refine aA 2 [] ?_
 apply cW 4 31 35 rfl
 intro hg1
 refine aA 8 [0] ?_
 exact cU 4 0
 intro hg1
 refine aA 5 [] ?_
 exact cU 4 0
 refine aA 1 [] ?_
 exact cU 7 0
 intro hg1
 refine aA 5 [] ?_
 refine Ko rfl rfl rfl ?_
 refine Ko rfl rfl rfl ?_
 refine Ko rfl rfl rfl ?_
 refine aA 2 [] ?_
 exact cU 10 0
 refine aA 1 [] ?_
 apply bZ 4 37 41 rfl
 intro hg1
 refine aA 3 [0] ?_
 refine bW rfl (YP _ _) ?_
 refine aA 1 [] ?_
 refine aN (dK rfl) ?_
 refine aA 1 [] ?_
 exact cU 4 0
 intro hg1
 refine aA 4 [] ?_
 exact cU 4 0
 refine bJ 2 [] ?_
 refine dN (fun hc1=>?_) fun hc1=>?_
 refine bE 7 [] ?_
 refine bO ?_
 rotate_left
 refine aK 6 [0] ?_
 refine bV 1 rfl (YQ _ _) fun v1 G1 Ho1 hle1 hp=>?_
 obtain ⟨ad1,cd1,junk1,rfl,hoa1,rfl,rfl⟩:=hp
 refine bJ 5 [] ?_
 rotate_left
 · refine ⟨?_,rfl,rfl⟩
   have:xF i regs=false:=by
    unfold xF
    rcases hc1 with ((((h | h) | h) | h) | h) | h
    all_goals first | (rw [bF sV];rfl) | simp [h]
   simp [this]
 have hasks:(xJ i).length≤2:=by unfold xJ;split <;> (try split) <;> simp
 refine gC (ι:=Nat) (fun k=>([(45,.int .i64 (k:Int)),(44,.int .i64 (↑(List.length (xJ i)):Int)),(43,.slice ad1 (List.length (xJ i)) cd1),(1,.int .i64 regs)],[(2,Option.map (fun x=>Go.Addr.block x) ad1,tK (α:=Int) 3 (xJ i) (junk1)),(0,some b1,.cells (List.toArray (Cells.enc i)) 211)])) (fun k=>k≤(xJ i).length∧((xJ i).take k).all (fun r=>decide (0≤r∧r<regs))=true) (fun k=>(xJ i).length - k) (0) (⟨aU _,rfl⟩) fun k=>fun hk=>?_
 obtain ⟨hk1,hk2⟩:=hk
 refine cF 6 [] ?_
 refine dN (fun hc2=>?_) fun hc2=>?_
 refine aK 6 [] ?_
 refine fW (α:=Int) T.sl24 ?_
 refine nY 2 0 T.one3 ?_
 refine aJ 8 [] ?_
 apply bZ 4 51 55 rfl
 intro hg1
 refine aA 7 [] ?_
 exact cU 4 0
 intro hg1
 refine aA 4 [] ?_
 exact cU 4 0
 refine bJ 2 [] ?_
 refine dN (fun hc3=>?_) fun hc3=>?_
 refine bE 11 [] ?_
 refine bO ?_
 rotate_left
 refine bE 7 [] ?_
 rotate_left
 refine bE 11 [] ?_
 refine bO ?_
 rotate_left
 · refine ⟨?_,rfl,rfl⟩
   have hl:k<(xJ i).length:=sV
   have hx:(xJ i)[(k:Int).toNat]?.getD default∈xJ i:=by rw [aF,aB hl];simp
   have hf:((xJ i).all fun r=>decide (0≤r∧r<regs))=false:=by
    rw [sC]
    exact ⟨_,hx,by simp only [aT];omega⟩
   have:xF i regs=false:=by unfold xF;rw [hf];simp
   simp [this]
 · refine cS (k+1) ?_ ?_
   · refine ⟨by omega,?_⟩
     rw [Bt _ sV,hk2]
     simp only [kK,aT]
     omega
   omega
 refine ⟨?_,rfl,rfl⟩
 have hk:k=(xJ i).length:=sV
 subst hk
 rw [eQ] at hk2
 have:xF i regs=true:=by
  unfold xF
  rw [hk2]
  simp only [not_or] at hc1
  simp only [lT,aC,aT]
  refine ⟨by omega,?_⟩
  have:=hc1.2
  simpa using this
 simp [this]
structure PV where
 ins:Int
 regs:Int
 code:List Sl.Instr
 outs:List Int
def wL (p:PV):Bool:=decide (1≤p.ins∧p.ins≤p.regs∧p.regs≤128∧p.code.length≤16384∧1≤p.outs.length∧p.outs.length≤128) && p.outs.all fun r=>decide (0≤r∧r<p.regs)
def Ir (p:PV):Option Nat:=p.code.findIdx? fun i=>!xF i p.regs
def vH (p:PV):Int×Bool:=if wL p=false then (-1,true) else match Ir p with | some k=>(k,true) | none=>(0,false)
theorem Ua {α:Type} [Inhabited α] {p:α→Bool} {l:List α} {k:Nat} (h:k<l.length) (h1:(l.take k).all p=true) (h2:¬p (l[((k:Nat):Int).toNat]?.getD default)=true):l.findIdx? (fun i=>!p i)=some k:=by
 rw [rT]
 rw [aF,aB h,hJ] at h2
 refine ⟨h,by simpa using h2,fun j hj=>?_⟩
 have hm:l[j]'(by omega)∈l.take k:=by rw [List.mem_take_iff_getElem];exact ⟨j,by omega,rfl⟩
 have:=fC.1 h1 _ hm
 simpa using this
theorem Oy {α:Type} {p:α→Bool} {l:List α} (h1:l.all p=true):l.findIdx? (fun i=>!p i)=none:=by
 rw [pD]
 intro x hx
 simpa using fC.1 h1 x hx
theorem TI (G:Imm) (p:PV) (ac ao:Option Addr) (cc co:Nat) (hc:Arr G ac p.code) (ho:Arr G ao p.outs) (h1:p.code.length≤1099511627776) (h2:p.outs.length≤1099511627776) :
 Does Tryz.prog 124 [.agg #[.int .i64 p.ins,.int .i64 p.regs,.slice ac p.code.length cc,.slice ao p.outs.length co]] G [] (fun v G' Ho=>v=.tuple #[.int .i64 (vH p).1,.int .i64 (if (vH p).2 then 80 else 0)]∧G'=G∧Ho=[]):=by
 refine D0 Tryz.func124 Tryz.ntmps124 fun w=>?_
 refine aK 2 [] ?_
 refine cV 0 fun b1=>?_
 refine aJ 11 [0] ?_
 apply bZ 6 11 17 rfl
 intro hg1
 refine aA 11 [0,0] ?_
 exact cU 6 0
 intro hg1
 refine aA 6 [] ?_
 exact cU 6 0
 refine aA 1 [] ?_
 apply bZ 4 18 22 rfl
 intro hg1
 refine aA 7 [0] ?_
 exact cU 4 0
 intro hg1
 refine aA 4 [] ?_
 exact cU 4 0
 refine aA 1 [] ?_
 apply bZ 5 23 28 rfl
 intro hg1
 refine aA 9 [0] ?_
 exact cU 5 0
 intro hg1
 refine aA 5 [] ?_
 exact cU 5 0
 refine aA 1 [] ?_
 apply bZ 5 29 34 rfl
 intro hg1
 refine aA 9 [0] ?_
 exact cU 5 0
 intro hg1
 refine aA 5 [] ?_
 exact cU 5 0
 refine aA 1 [] ?_
 apply bZ 5 35 40 rfl
 intro hg1
 refine aA 9 [0] ?_
 exact cU 5 0
 intro hg1
 refine aA 5 [] ?_
 exact cU 5 0
 refine bJ 2 [] ?_
 refine dN (fun hc1=>?_) fun hc1=>?_
 refine bE 8 [] ?_
 refine eG ?_
 rotate_left
 refine cF 12 [0] ?_
 rotate_left
 · refine ⟨?_,rfl,rfl⟩
   have:wL p=false:=by unfold wL;rw [bF sV];rfl
   simp [vH,this]
 refine gC (ι:=Nat) (fun k=>([(44,.int .i64 (k:Int)),(43,.int .i64 (↑p.outs.length:Int)),(42,.slice ao p.outs.length co),(1,.pointer (some ⟨b1,0,none⟩))],[(0,some b1,.cells #[.int .i64 p.ins,.int .i64 p.regs,.slice ac p.code.length cc,.slice ao p.outs.length co] 26)])) (fun k=>k≤p.outs.length∧(p.outs.take k).all (fun r=>decide (0≤r∧r<p.regs))=true) (fun k=>p.outs.length - k) (0) (⟨aU _,rfl⟩) fun k=>fun hk=>?_
 obtain ⟨hk1,hk2⟩:=hk
 refine cF 6 [] ?_
 refine dN (fun hc2=>?_) fun hc2=>?_
 refine aK 6 [] ?_
 refine dP (α:=Int) T.sl24 ?_
 refine fQ 0 T.one3 ?_
 refine aJ 8 [] ?_
 apply bZ 5 50 55 rfl
 intro hg1
 refine aA 9 [0] ?_
 exact cU 5 0
 intro hg1
 refine aA 5 [] ?_
 exact cU 5 0
 refine bJ 2 [] ?_
 refine dN (fun hc3=>?_) fun hc3=>?_
 refine bE 12 [] ?_
 refine eG ?_
 rotate_left
 refine bE 7 [] ?_
 rotate_left
 refine cF 15 [0] ?_
 rotate_left
 · refine ⟨?_,rfl,rfl⟩
   have hl:k<p.outs.length:=sV
   have hx:p.outs[(k:Int).toNat]?.getD default∈p.outs:=by rw [aF,aB hl];simp
   have hf:(p.outs.all fun r=>decide (0≤r∧r<p.regs))=false:=by
    rw [sC]
    exact ⟨_,hx,by simp only [aT];omega⟩
   have:wL p=false:=by unfold wL;rw [hf,Bool.and_false]
   simp [vH,this]
 · refine cS (k+1) ?_ ?_
   · refine ⟨by omega,?_⟩
     rw [Bt _ sV,hk2]
     simp only [kK,aT]
     omega
   omega
 have hk:k=p.outs.length:=sV
 subst hk
 rw [eQ] at hk2
 have hh:wL p=true:=by
  unfold wL
  rw [hk2,lT,aT]
  omega
 clear hk1 hk2 hc2
 refine gC (ι:=Nat) (fun k=>([(60,.int .i64 (k:Int)),(59,.int .i64 (↑p.code.length:Int)),(58,.slice ac p.code.length cc),(1,.pointer (some ⟨b1,0,none⟩))],[(0,some b1,.cells #[.int .i64 p.ins,.int .i64 p.regs,.slice ac p.code.length cc,.slice ao p.outs.length co] 26)])) (fun k=>k≤p.code.length∧(p.code.take k).all (fun i=>xF i p.regs)=true) (fun k=>p.code.length - k) (0) (⟨aU _,rfl⟩) fun k=>fun hk=>?_
 obtain ⟨hk1,hk2⟩:=hk
 refine cF 6 [] ?_
 refine dN (fun hc2=>?_) fun hc2=>?_
 refine aK 7 [] ?_
 refine dP (α:=Instr) T.sl23 ?_
 refine mM T.agg211 ?_
 refine aQ 1 rfl T.zero211 fun b2=>?_
 refine aJ 9 [1,1,0] ?_
 refine bW rfl (YR _ _ _) ?_
 refine aN (dK rfl) ?_
 refine bJ 2 [] ?_
 refine dN (fun hc3=>?_) fun hc3=>?_
 refine bE 13 [] ?_
 refine eG ?_
 rotate_left
 refine bE 7 [] ?_
 rotate_left
 refine bE 12 [] ?_
 refine eG ?_
 rotate_left
 · refine ⟨?_,rfl,rfl⟩
   have hl:k<p.code.length:=sV
   have:Ir p=some k:=Ua hl hk2 hc3
   simp [vH,hh,this]
 · refine cS (k+1) ?_ ?_
   · refine ⟨by omega,?_⟩
     rw [Bt _ sV,hk2]
     simpa using hc3
   omega
 refine ⟨?_,rfl,rfl⟩
 have hk:k=p.code.length:=sV
 subst hk
 rw [eQ] at hk2
 have:Ir p=none:=Oy hk2
 simp [vH,hh,this]
def tG (p:PV):Bool:=!(vH p).2
theorem CX (i:Sl.Instr) (regs:Int):xF i regs=true↔(1≤i.op∧i.op≤8∧0≤i.to∧i.to<regs∧0≤i.a∧i.a<regs)∧
 (if i.op=3∨i.op=4 then 0≤i.b∧i.b<regs∧i.c=0 else i.b=0∧(if i.op=5∨i.op=6 then i.c≠0∧-512≤i.c∧i.c≤512 else if i.op=7∨i.op=8 then 1≤i.c∧i.c≤64 else i.c=0)):=by
 unfold xF Ao xJ
 by_cases h3:i.op=3∨i.op=4
 · have h5:¬(i.op=5∨i.op=6):=sV
   have h7:¬(i.op=7∨i.op=8):=sV
   simp only [aR h3,aL h5,aL h7,iT,List.all_nil,lT,aC,aT]
   omega
 by_cases h1:1≤i.op∧i.op≤8
 · simp only [aL h3,aR h1,iT,List.all_nil,lT,aC,aT]
   by_cases h5:i.op=5∨i.op=6
   · simp only [aR h5,aT];omega
   by_cases h7:i.op=7∨i.op=8
   · simp only [aL h5,aR h7,aT];omega
   simp only [aL h5,aL h7,aT];omega
 simp only [aL h3,aL h1,List.all_nil,lT,aC,aT]
 constructor <;> (intro h;omega)
theorem YS (G:Imm) (i:Sl.Instr) (regs:Int):Does Tryz.prog 177 [.agg (Cells.enc i).toArray,.int .i64 regs] G [] (fun v G' Ho=>v=.bool (decide (xF i regs=true))∧G'=G∧Ho=[]):=by
 refine D0 Tryz.func177 Tryz.ntmps177 fun w=>?_
 refine aK 2 [] ?_
 refine cV 0 fun b1=>?_
 refine aJ 10 [0] ?_
 apply bZ 4 8 12 rfl
 intro hg1
 refine aA 7 [0] ?_
 exact cU 4 0
 intro hg1
 refine aA 4 [] ?_
 exact cU 4 0
 refine aA 1 [] ?_
 apply bZ 4 13 17 rfl
 intro hg1
 refine aA 7 [0] ?_
 exact cU 4 0
 intro hg1
 refine aA 4 [] ?_
 exact cU 4 0
 refine aA 1 [] ?_
 apply bZ 5 18 23 rfl
 intro hg1
 refine aA 9 [0] ?_
 exact cU 5 0
 intro hg1
 refine aA 5 [] ?_
 exact cU 5 0
 refine aA 1 [] ?_
 apply bZ 4 24 28 rfl
 intro hg1
 refine aA 7 [0] ?_
 exact cU 4 0
 intro hg1
 refine aA 4 [] ?_
 exact cU 4 0
 refine aA 1 [] ?_
 apply bZ 5 29 34 rfl
 intro hg1
 refine aA 9 [0] ?_
 exact cU 5 0
 intro hg1
 refine aA 5 [] ?_
 exact cU 5 0
 refine bJ 2 [] ?_
 refine dN (fun hc1=>?_) fun hc1=>?_
 refine bE 7 [] ?_
 refine bO ?_
 rotate_left
 refine aK 9 [0] ?_
 apply bZ 4 38 42 rfl
 intro hg1
 refine aA 7 [0] ?_
 exact cU 4 0
 intro hg1
 refine aA 4 [] ?_
 exact cU 4 0
 refine bJ 2 [] ?_
 refine dN (fun hc2=>?_) fun hc2=>?_
 refine aK 6 [0] ?_
 apply cW 5 46 51 rfl
 intro hg1
 refine aA 9 [0] ?_
 exact cU 5 0
 intro hg1
 refine aA 5 [] ?_
 exact cU 5 0
 refine aA 1 [] ?_
 apply cW 4 52 56 rfl
 intro hg1
 refine aA 7 [0] ?_
 exact cU 4 0
 intro hg1
 refine aA 4 [] ?_
 exact cU 4 0
 refine aW 5 [] ?_
 refine bO ?_
 rotate_left
 refine cF 10 [0] ?_
 refine dN (fun hc3=>?_) fun hc3=>?_
 refine bE 7 [] ?_
 refine bO ?_
 rotate_left
 refine aK 9 [0] ?_
 apply bZ 4 63 67 rfl
 intro hg1
 refine aA 7 [0] ?_
 exact cU 4 0
 intro hg1
 refine aA 4 [] ?_
 exact cU 4 0
 refine bJ 2 [] ?_
 refine dN (fun hc4=>?_) fun hc4=>?_
 refine aK 6 [0] ?_
 apply cW 4 71 75 rfl
 intro hg1
 refine aA 7 [0] ?_
 exact cU 4 0
 intro hg1
 refine aA 4 [] ?_
 exact cU 4 0
 refine aA 1 [] ?_
 apply cW 4 76 80 rfl
 intro hg1
 refine aA 7 [0] ?_
 exact cU 4 0
 intro hg1
 refine aA 4 [] ?_
 exact cU 4 0
 refine aW 5 [] ?_
 refine bO ?_
 rotate_left
 refine aK 9 [0] ?_
 apply bZ 4 84 88 rfl
 intro hg1
 refine aA 7 [0] ?_
 exact cU 4 0
 intro hg1
 refine aA 4 [] ?_
 exact cU 4 0
 refine bJ 2 [] ?_
 refine dN (fun hc5=>?_) fun hc5=>?_
 refine aK 6 [0] ?_
 apply cW 4 92 96 rfl
 intro hg1
 refine aA 7 [0] ?_
 exact cU 4 0
 intro hg1
 refine aA 4 [] ?_
 exact cU 4 0
 refine aW 5 [] ?_
 refine bO ?_
 rotate_left
 refine bE 11 [0] ?_
 refine bO ?_
 rotate_left
 all_goals refine ⟨?_,rfl,rfl⟩
 all_goals simp only [CX,Value.bool.injEq]
 all_goals first | rw [fX] | (symm;rw [dM])
 all_goals try simp only [*,eR,eS,rV]
 all_goals first | omega | (rintro ⟨_,h,_⟩;first | exact h | exact hc3 h)
theorem Ub {p:PV} {k:Nat} (h:k≤p.outs.length) (h':(k:Int)<(p.outs.length:Int)) (hb:p.outs[((k:Nat):Int).toNat]?.getD default<0∨p.regs≤p.outs[((k:Nat):Int).toNat]?.getD default):wL p=false:=by
 have hl:k<p.outs.length:=sV
 have hx:p.outs[(k:Int).toNat]?.getD default∈p.outs:=by rw [aF,aB hl];simp
 have hf:(p.outs.all fun r=>decide (0≤r∧r<p.regs))=false:=by
  rw [sC]
  exact ⟨_,hx,by simp only [aT];omega⟩
 unfold wL;rw [hf,Bool.and_false]
theorem YT (G:Imm) (p:PV) (ac ao:Option Addr) (cc co:Nat) (hc:Arr G ac p.code) (ho:Arr G ao p.outs) (h1:p.code.length≤1099511627776) (h2:p.outs.length≤1099511627776) :
 Does Tryz.prog 132 [.agg #[.int .i64 p.ins,.int .i64 p.regs,.slice ac p.code.length cc,.slice ao p.outs.length co]] G [] (fun v G' Ho=>v=.tuple #[.int .i64 (vH p).1,.bool (decide ((vH p).2=true))]∧G'=G∧Ho=[]):=by
 refine D0 Tryz.func132 Tryz.ntmps132 fun w=>?_
 refine aK 2 [] ?_
 refine cV 0 fun b1=>?_
 refine aJ 11 [0] ?_
 apply bZ 6 9 15 rfl
 intro hg1
 refine aA 11 [0,0] ?_
 exact cU 6 0
 intro hg1
 refine aA 6 [] ?_
 exact cU 6 0
 refine aA 1 [] ?_
 apply bZ 4 16 20 rfl
 intro hg1
 refine aA 7 [0] ?_
 exact cU 4 0
 intro hg1
 refine aA 4 [] ?_
 exact cU 4 0
 refine aA 1 [] ?_
 apply bZ 5 21 26 rfl
 intro hg1
 refine aA 9 [0] ?_
 exact cU 5 0
 intro hg1
 refine aA 5 [] ?_
 exact cU 5 0
 refine aA 1 [] ?_
 apply bZ 5 27 32 rfl
 intro hg1
 refine aA 9 [0] ?_
 exact cU 5 0
 intro hg1
 refine aA 5 [] ?_
 exact cU 5 0
 refine aA 1 [] ?_
 apply bZ 5 33 38 rfl
 intro hg1
 refine aA 9 [0] ?_
 exact cU 5 0
 intro hg1
 refine aA 5 [] ?_
 exact cU 5 0
 refine bJ 2 [] ?_
 refine dN (fun hc1=>?_) fun hc1=>?_
 refine bE 8 [] ?_
 refine eG ?_
 rotate_left
 refine cF 9 [] ?_
 rotate_left
 · refine ⟨?_,rfl,rfl⟩
   have:wL p=false:=by unfold wL;rw [bF sV];rfl
   simp [vH,this]
 refine gC (ι:=Nat) (fun k=>([(4,.int .i64 (k:Int)),(1,.pointer (some ⟨b1,0,none⟩))],[(0,some b1,.cells #[.int .i64 p.ins,.int .i64 p.regs,.slice ac p.code.length cc,.slice ao p.outs.length co] 26)])) (fun k=>k≤p.outs.length∧(p.outs.take k).all (fun r=>decide (0≤r∧r<p.regs))=true) (fun k=>p.outs.length - k) (0) (⟨aU _,rfl⟩) fun k=>fun hk=>?_
 obtain ⟨hk1,hk2⟩:=hk
 refine cF 10 [0] ?_
 refine dN (fun hc2=>?_) fun hc2=>?_
 refine cF 5 [] ?_
 refine eB [0] [] T.mixed [[0],[1,0],[2]] ?_
 refine jC (α:=Int) 3 T.sl24 ?_
 refine pA 4 [0] 0 T.one3 ?_
 refine eJ [[5],[6]] ?_
 refine Gm.cases 52 rfl (fun hg1=>?_) fun hg1=>?_
 refine eJ [[7],[8],[9],[10],[11],[12],[13],[14],[15]] ?_
 refine dV ?_
 refine gZ 14 [1] ?_
 refine eG ?_
 rotate_left
 refine eJ [[7],[8,0],[9]] ?_
 refine qD 10 [] rfl (qN (α:=Int) T.sl24 rfl rfl sW sV) ?_
 refine qD 11 [0] rfl (dZ T.one3 rfl (kG sW sV 0 rfl rfl)) ?_
 refine eJ [[12],[13,0],[14],[15]] ?_
 refine dV ?_
 refine cE ?_
 refine dN (fun hc3=>?_) fun hc3=>?_
 refine bE 12 [] ?_
 refine eG ?_
 rotate_left
 refine bE 8 [] ?_
 rotate_left
 refine cF 12 [] ?_
 rotate_left
 · refine ⟨?_,rfl,rfl⟩
   simp [vH,Ub hk1 hc2 (.inl hg1)]
 · refine ⟨?_,rfl,rfl⟩
   simp [vH,Ub hk1 hc2 (.inr hc3)]
 · refine cS (k+1) ?_ ?_
   · refine ⟨by omega,?_⟩
     rw [Bt _ sV,hk2]
     simp only [kK,aT]
     omega
   omega
 have hk:k=p.outs.length:=sV
 subst hk
 rw [eQ] at hk2
 have hh:wL p=true:=by
  unfold wL
  rw [hk2,lT,aT]
  omega
 clear hk1 hk2 hc2
 refine gC (ι:=Nat) (fun k=>([(5,.int .i64 (k:Int)),(1,.pointer (some ⟨b1,0,none⟩))],[(0,some b1,.cells #[.int .i64 p.ins,.int .i64 p.regs,.slice ac p.code.length cc,.slice ao p.outs.length co] 26)])) (fun k=>k≤p.code.length∧(p.code.take k).all (fun i=>xF i p.regs)=true) (fun k=>p.code.length - k) (0) (⟨aU _,rfl⟩) fun k=>fun hk=>?_
 obtain ⟨hk1,hk2⟩:=hk
 refine cF 10 [0] ?_
 refine dN (fun hc2=>?_) fun hc2=>?_
 refine cF 5 [] ?_
 refine eB [0] [] T.mixed [[0],[1,0],[2]] ?_
 refine jC (α:=Instr) 3 T.sl23 ?_
 refine pN 4 T.agg211 ?_
 refine eJ [[5],[6,0]] ?_
 refine fE 7 ?_
 refine bW rfl (YS _ _ _) ?_
 refine dW ?_
 refine gD 8 [] rfl (dK rfl) ?_
 refine dV ?_
 refine cE ?_
 refine dN (fun hc3=>?_) fun hc3=>?_
 refine bE 13 [] ?_
 refine eG ?_
 rotate_left
 refine bE 8 [] ?_
 rotate_left
 refine bE 12 [] ?_
 refine eG ?_
 rotate_left
 · refine ⟨?_,rfl,rfl⟩
   have hl:k<p.code.length:=sV
   have:Ir p=some k:=Ua hl hk2 hc3
   simp [vH,hh,this]
 · refine cS (k+1) ?_ ?_
   · refine ⟨by omega,?_⟩
     rw [Bt _ sV,hk2]
     simpa using hc3
   omega
 refine ⟨?_,rfl,rfl⟩
 have hk:k=p.code.length:=sV
 subst hk
 rw [eQ] at hk2
 have:Ir p=none:=Oy hk2
 simp [vH,hh,this]
theorem XE (G:Imm) (p:PV) (ac ao:Option Addr) (cc co:Nat) (hc:Arr G ac p.code) (ho:Arr G ao p.outs) (h1:p.code.length≤1099511627776) (h2:p.outs.length≤1099511627776) :
 Does Tryz.prog 76 [.agg #[.int .i64 p.ins,.int .i64 p.regs,.slice ac p.code.length cc,.slice ao p.outs.length co]] G [] (fun v G' Ho=>v=.bool (decide (tG p=true))∧G'=G∧Ho=[]):=by
 refine D0 Tryz.func76 Tryz.ntmps76 fun w=>?_
 refine aK 2 [] ?_
 refine cV 0 fun b1=>?_
 refine aJ 6 [0] ?_
 refine bW rfl (YT _ _ _ _ _ _ sW sW sV sV) ?_
 refine aJ 10 [] ?_
 refine aN (dK rfl) ?_
 refine aW 4 [] ?_
 refine bO ?_
 refine ⟨?_,rfl,rfl⟩
 cases h:(vH p).2 <;> simp [tG,h]
instance:DecidableEq PV:=fun a b=>by
 cases a;cases b;simp only [PV.mk.injEq];infer_instance
theorem Rg {α:Type} [Inhabited α] {l m:List α} {k:Nat} (hl:k<l.length) (hm:k<m.length) (h:l.take k=m.take k)
 (he:l[((k:Nat):Int).toNat]?.getD default=m[((k:Nat):Int).toNat]?.getD default):l.take (k+1)=m.take (k+1):=by
 rw [aF,aB hl,aB hm] at he
 rw [dE,dE,h,aB hl,aB hm]
 simp only [hJ] at he
 rw [he]
structure Tab where
 held:List Int
 known:List (K4×Int)
 first:List (K4×Int)
 next:Int
def start (p:PV):List Int:=(List.range p.regs.toNat).map fun r=>if (p.ins:Int)<((r:Nat):Int) then p.ins else ((r:Nat):Int)
theorem wT {p:PV} (h:tG p=true):1≤p.ins∧p.ins≤p.regs∧p.regs≤128∧p.code.length≤16384∧1≤p.outs.length∧p.outs.length≤128∧(∀ r∈p.outs,0≤r∧r<p.regs)∧(∀ i∈p.code,xF i p.regs=true):=by
 unfold tG vH at h
 by_cases hh:wL p=false
 · rw [aR hh] at h;cases h
 rw [aL hh] at h
 have hb:Ir p=none:=by
  cases hb:Ir p with
  | none=>rfl
  | some k=>rw [hb] at h;cases h
 have hh':wL p=true:=by simpa using hh
 unfold wL at hh'
 rw [aC,aT,fC] at hh'
 unfold Ir at hb
 rw [pD] at hb
 obtain ⟨⟨g1,g2,g3,g4,g5,g6⟩,g7⟩:=hh'
 refine ⟨g1,g2,g3,g4,g5,g6,fun r hr=>?_,fun i hi=>?_⟩
 · have:=g7 r hr;rw [aT] at this;exact this
 simpa using hb i hi
section
variable {t:Tab} {out:List Sl.Instr} {n:Int} {i:Sl.Instr}
end
theorem get_mem {l:List Int} {r:Int} (h:0≤r∧r<l.length):l[r.toNat]?.getD default∈l:=by
 have hlt:r.toNat<l.length:=sV
 rw [aB hlt];exact dJ hlt
def p2 (n:Nat):Int:=((2 ^ n:Nat):Int)
theorem Ey:p2 0=1:=rfl
theorem Ap (n:Nat):p2 (n+1)=2*p2 n:=by unfold p2;rw [jY,iD,cJ];rfl
theorem xG (n:Nat):0<p2 n:=by unfold p2;exact Int.ofNat_lt.2 (oB tF)
theorem Bu (m n:Nat):p2 (m+n)=p2 m*p2 n:=by unfold p2;rw [mR,cJ]
theorem Zn {m n:Nat} (h:m≤n):p2 m≤p2 n:=by unfold p2;exact oS.2 (eT tF h)
theorem CY {a b:Nat} (h:p2 a<p2 b):a<b:=by
 rcases aM a b with h1 | h1
 · exact h1
 have:=Zn h1;omega
def cst (i:Sl.Instr):Int:=if i.op=5∨i.op=6 then i.c else p2 i.c.toNat
theorem Uc {i:Sl.Instr} (h:i.op=5∨i.op=6):cst i=i.c:=aR h
theorem HM {i:Sl.Instr} (h:¬(i.op=5∨i.op=6)):cst i=p2 i.c.toNat:=aL h
theorem Ud (n:Nat):pw n=p2 (16*n):=by unfold pw p2;rw [Nat.pow_mul]
theorem Ue:p2 16=65536:=by unfold p2;decide
def vC (y:Int) (xs:List Int):Prop:=∀ i:Nat,i<xs.length→xs[i]?.getD 0 % y=0
instance (y:Int) (xs:List Int):Decidable (vC y xs):=by unfold vC;infer_instance
def yF (i:Sl.Instr) (rs:List (List Int)):Option (List Int):=
 let a:=rs[i.a.toNat]?.getD []
 if i.op=2 then some (a.map (fun x=>-1*x))
 else if i.op=3 then some (List.zipWith (fun x y=>x+1*y) a (rs[i.b.toNat]?.getD []))
 else if i.op=4 then some (List.zipWith (fun x y=>x+(-1)*y) a (rs[i.b.toNat]?.getD []))
 else if i.op=5∨i.op=7 then some (a.map (fun x=>cst i*x))
 else if i.op=6∨i.op=8 then (if vC (cst i) a then some (a.map (· / cst i)) else none)
 else some a
def wU (p:PV) (gs:List (List Int)):List (List Int):=(List.range p.regs.toNat).map fun k=>if k<gs.length then gs[k]?.getD [] else List.replicate (gs[0]?.getD []).length 0
def yD (p:PV) (gs:List (List Int)):Nat→Option (List (List Int))
 | 0=>some (wU p gs)
 | k+1=>(yD p gs k).bind fun rs=>(yF (p.code[((k:Nat):Int).toNat]?.getD default) rs).map fun x=>rs.set (p.code[((k:Nat):Int).toNat]?.getD default).to.toNat x
def vO (p:PV) (rs:List (List Int)):List (List Int):=p.outs.map fun r=>rs[r.toNat]?.getD []
def tR (p:PV) (gs:List (List Int)):Option (List (List Int)):=(yD p gs p.code.length).map (vO p)
theorem Dl {p:PV} {gs:List (List Int)} {k:Nat} {rs x:List (List Int)} {y:List Int} (h:yD p gs k=some rs) (hd:yF (p.code[((k:Nat):Int).toNat]?.getD default) rs=some y) :
 yD p gs (k+1)=some (rs.set (p.code[((k:Nat):Int).toNat]?.getD default).to.toNat y):=by
 unfold yD;rw [h];simp only [iV,hd,eY]
theorem Xe {p:PV} {gs:List (List Int)} {k:Nat} (h:yD p gs k=none) (j:Nat):yD p gs (k+j)=none:=by
 induction j with
 | zero=>exact h
 | succ j ih=>rw [←kI];unfold yD;rw [ih];rfl
theorem Lg {p:PV} {gs:List (List Int)} {k:Nat} {rs:List (List Int)} (h:yD p gs k=some rs) (hd:yF (p.code[((k:Nat):Int).toNat]?.getD default) rs=none) (hk:k<p.code.length):tR p gs=none:=by
 have h1:yD p gs (k+1)=none:=by unfold yD;rw [h];simp only [iV,hd,kE]
 have h2:=Xe h1 (p.code.length - (k+1))
 rw [show k+1+(p.code.length - (k+1))=p.code.length by omega] at h2
 unfold tR;rw [h2];rfl
theorem HN:∀ c:Nat,c≤64→((p2 c).natAbs:Int)<pw 5:=fun c hc=>by
 have h1:=Zn hc
 have h2:=xG c
 have h3:p2 64<pw 5:=by unfold p2 pw;decide
 omega
theorem Hg {i:Sl.Instr} {regs:Int} (h:xF i regs=true):(1≤i.op∧i.op≤8)∧(0≤i.to∧i.to<regs)∧(0≤i.a∧i.a<regs)∧(i.op=3∨i.op=4→0≤i.b∧i.b<regs)∧Ao i.op i.c=true∧
 (i.op≠1→i.op≠2→i.op≠3→i.op≠4→cst i≠0∧((cst i).natAbs:Int)<pw 5)∧(i.op=5∨i.op=6→-9223372036854775808≤i.c∧i.c≤9223372036854775807)∧(¬(i.op=5∨i.op=6)→0≤i.c∧i.c≤64):=by
 unfold xF at h
 rw [aC,aC,aT,fC] at h
 obtain ⟨⟨⟨g1,g2,g3,g4,g5⟩,g6⟩,g7⟩:=h
 have hA:∀ r∈xJ i,0≤r∧r<regs:=fun r hr=>by have:=g7 r hr;rwa [aT] at this
 have ha:i.a∈xJ i:=by
  unfold xJ
  split
  · exact bP
  rw [aR ⟨g1,g2⟩];exact bP
 have hc:=g6
 unfold Ao at g6
 have k1:i.op=5∨i.op=6→i.c≠0∧-512≤i.c∧i.c≤512:=fun h=>by rw [aR h,aT] at g6;exact g6
 have k2:¬(i.op=5∨i.op=6)→(i.op=7∨i.op=8→1≤i.c∧i.c≤64)∧(¬(i.op=7∨i.op=8)→i.c=0):=fun h=>by
  rw [aL h] at g6
  refine ⟨fun h2=>?_,fun h2=>?_⟩
  · rw [aR h2,aT] at g6;exact g6
  rw [aL h2,aT] at g6;exact g6
 refine ⟨⟨g1,g2⟩,⟨g3,g4⟩,hA _ ha,fun h34=>hA _ (by unfold xJ;rw [aR h34];exact bB _ bP),hc,fun n1 n2 n3 n4=>?_,fun h56=>by have:=k1 h56;omega,fun h56=>?_⟩
 · by_cases h56:i.op=5∨i.op=6
   · rw [Uc h56]
     have:=k1 h56
     have h3:(65536:Int)<pw 5:=by unfold pw;decide
     exact ⟨this.1,by omega⟩
   rw [HM h56]
   have h2:=(k2 h56).1 sV
   have:=xG i.c.toNat
   exact ⟨by omega,HN _ sV⟩
 by_cases h78:i.op=7∨i.op=8
 · have:=(k2 h56).1 h78;omega
 have:=(k2 h56).2 h78;omega
theorem Cn (p:PV) (gs:List (List Int)):(wU p gs).length=p.regs.toNat:=by unfold wU;rw [bX,iJ]
theorem Fa {p:PV} {gs:List (List Int)} {k:Nat} (hk:k<p.regs.toNat):(wU p gs)[k]?.getD []=if k<gs.length then gs[k]?.getD [] else List.replicate (gs[0]?.getD []).length 0:=by
 unfold wU
 rw [cK,fK hk];rfl
theorem HO {l:List U32} {m:Nat} (h0:0<l.length) (hd:Digs l) (hm:dg l (l.length - 1)<p2 m):sZ l<p2 (16*(l.length - 1)+m):=by
 have e:=vN l (l.length - 1)
 rw [mF h0,tH (aG _)] at e
 have h1:=wO (hd.take (l.length - 1))
 rw [bC,dC sV] at h1
 have h2:=aY (show dg l (l.length - 1)+1≤p2 m by omega) (bM (wQ (l.length - 1)))
 rw [bI,fR] at h2
 rw [Bu,←Ud]
 omega
theorem NG (t:Int) (m:Nat):t / 2*p2 (m+1)≤t*p2 m:=by
 rw [Ap,←bR]
 exact cY sV (bM (xG m))
theorem NH (t:Int) (m:Nat):(t+1)*p2 m≤(t / 2+1)*p2 (m+1):=by
 rw [Ap,←bR]
 exact cY sV (bM (xG m))
section
attribute [local irreducible] sZ pw tQ p2
theorem YU (G:Imm) (a:Option Addr) (c:Nat) (l:List U32) (ha:Arr G a l) (hd:Digs l) (h1:l.length≤536870912) :
 Does Tryz.prog 153 [.slice a l.length c] G [] (fun v G' Ho=>∃ n:Nat,v=.int .i64 (n:Int)∧sZ l<p2 n∧n≤16*l.length∧G'=G∧Ho=[]):=by
 refine D0 Tryz.func153 Tryz.ntmps153 fun w=>?_
 by_cases h0:l.length=0
 · refine bE 21 [1] ?_
   refine bO ?_
   refine ⟨0,rfl,?_,aU _,rfl,rfl⟩
   rw [cB h0,vD,Ey];decide
 have hlast:(l[((l.length:Int) - 1).toNat]?.getD default).v=dg l (l.length - 1):=by
  unfold dg;rw [show ((l.length:Int) - 1).toNat=((l.length - 1:Nat):Int).toNat by omega]
 have hdl:=zO hd (i:=l.length - 1) sV
 refine aK 21 [0] ?_
 refine aN (mE rfl rfl sV) ?_
 refine aJ 9 [] ?_
 refine dP (α:=U32) T.sl87 ?_
 refine fQ 0 T.one166 ?_
 refine bJ 5 [] ?_
 refine jE 4 rfl (show _=Value.int .u32 (dg l (l.length - 1)) by rw [hlast]) (jE 3 rfl (show _=Value.int .i64 (16*((l.length:Int) - 1)+((0:Nat):Int)) by rw [Int.natCast_zero,dG]) ?_)
 refine gC (ι:=Nat×Int) (fun (m,t)=>([(3,.int .i64 (16*((l.length:Int) - 1)+(m:Int))),(4,.int .u32 t),(2,.int .i64 0)],[])) (fun (m,t)=>0≤t∧t≤65535∧t*p2 m≤dg l (l.length - 1)∧dg l (l.length - 1)<(t+1)*p2 m∧m≤16) (fun (m,t)=>t.toNat) ((0,dg l (l.length - 1))) (⟨hdl.1,by omega,by rw [Ey];omega,by rw [Ey];omega,by decide⟩) fun ⟨m,t⟩=>fun hk=>?_
 obtain ⟨ht0,ht1,hlo,hhi,hm⟩:=hk
 by_cases ht:0<t
 · have hm15:m<16:=by
    refine CY ?_
    have h2:=cY (show (1:Int)≤t by omega) (bM (xG m))
    rw [Ue];omega
   refine aK 20 [1] ?_
   refine aN (pS rfl rfl sV) ?_
   refine aW 3 [] ?_
   refine cZ 3 rfl (show _=Value.int .i64 (16*((l.length:Int) - 1)+((m+1:Nat):Int)) by congr 1;omega) ?_
   refine cS ((m+1,t / 2)) ?_ ?_
   · exact ⟨by omega,by omega,Int.le_trans (NG t m) hlo,jB hhi (NH t m),by omega⟩
   show (t / 2).toNat<t.toNat
   omega
 have htz:t=0:=sV
 subst htz
 rw [jI,fH] at hhi
 refine bE 20 [0] ?_
 refine bO ?_
 refine ⟨16*(l.length - 1)+m,?_,HO sV hd hhi,by omega,rfl,rfl⟩
 congr 1;omega
theorem NI {l:List U32} (hd:Digs l) {k:Nat} (hk:k<16*l.length):sZ l / p2 k % 2=dg l (k / 16) / p2 (k % 16) % 2:=by
 have hq:k / 16<l.length:=sV
 have e:=Cm l (m:=k / 16+1) sV
 rw [vN] at e
 have h1:=wO (hd.take (k / 16))
 have h0:=uJ (hd.take (k / 16))
 rw [bC,dC sV] at h1
 have ek:p2 k=pw (k / 16)*p2 (k % 16):=by rw [Ud,←Bu,gU]
 have e2:sZ l=sZ (l.take (k / 16))+(dg l (k / 16)+65536*sZ (l.drop (k / 16+1)))*pw (k / 16):=by
  rw [e,xB,jL,cN (dg l (k / 16)),bR 65536 (pw (k / 16)),bR 65536 (sZ _),cN (sZ (l.drop _)) (pw _)]
  omega
 have e3:sZ l / pw (k / 16)=dg l (k / 16)+65536*sZ (l.drop (k / 16+1)):=by
  rw [e2,Int.add_mul_ediv_right _ _ (jK (wQ _)),iQ h0 h1,jI]
 rw [ek,←Int.ediv_ediv_of_nonneg (bM (wQ _)),e3]
 obtain ⟨r,hr⟩:∃ r,16=k % 16+(r+1):=⟨15 - k % 16,by omega⟩
 have e4:p2 16=p2 (k % 16)*(2*p2 r):=(congrArg p2 hr).trans (by rw [Bu,Ap])
 rw [Ue] at e4
 have e5:65536*sZ (l.drop (k / 16+1))=p2 (k % 16)*(2*(p2 r*sZ (l.drop (k / 16+1)))):=by rw [e4,bR,bR]
 rw [e5,nK _ _ (jK (xG _))]
 omega
theorem HP {x y:Int} (hy:0≤y):x.fdiv y=x / y:=oZ x hy
theorem YV (G:Imm) (a:Option Addr) (c:Nat) (l:List U32) (k:Nat) (ha:Arr G a l) (hd:Digs l) (h1:l.length≤536870912) (hk:k<16*l.length) :
 Does Tryz.prog 156 [.slice a l.length c,.int .i64 (k:Int)] G [] (fun v G' Ho=>v=.int .u32 (sZ l / p2 k % 2)∧G'=G∧Ho=[]):=by
 have hq:k / 16<l.length:=sV
 have hdg:=zO hd hq
 refine D0 Tryz.func156 Tryz.ntmps156 fun w=>?_
 refine aK 9 [] ?_
 refine aN (lX rfl rfl sV) ?_
 refine dP (α:=U32) T.sl87 ?_
 refine fQ 0 T.one166 ?_
 refine aA 1 [] ?_
 refine aN (jO rfl rfl sV) ?_
 refine aN (oF rfl rfl sV) ?_
 refine aN (lY rfl rfl) ?_
 refine aW 4 [] ?_
 refine bO ?_
 refine ⟨?_,rfl,rfl⟩
 have e1:(l[((k:Int) / 16).toNat]?.getD default).v=dg l (k / 16):=by
  unfold dg;rw [show ((k:Int) / 16).toNat=((k / 16:Nat):Int).toNat by omega]
 have e2:(2:Int) ^ min ((k:Int) % 16).toNat IntKind.u32.bits=p2 (k % 16):=by
  have e:min ((k:Int) % 16).toNat IntKind.u32.bits=k % 16:=by
   rw [show IntKind.u32.bits=32 from rfl];omega
  rw [e,show p2 (k % 16)=((2 ^ (k % 16):Nat):Int) from by unfold p2;rfl,qI];rfl
 have h2:=Qx (n:=p2 (k % 16)) hdg.1 (xG _)
 rw [e1,e2,HP (bM (xG _)),Tf _ sV,NI hd hk]
end
end Go.Proofs.YtngphgeghfdjbaaGreatDoor
namespace Go.Proofs.YtngphgeghfdjbaaGreatDoor.T
open Go Go.Sl
end Go.Proofs.YtngphgeghfdjbaaGreatDoor.T
namespace Go.Proofs.YtngphgeghfdjbaaGreatDoor
open Go Go.Sl
theorem Oz {l:List U32} {i:Nat} (h:i<l.length):sZ (l.drop i)=dg l i+65536*sZ (l.drop (i+1)):=by
 rw [gY h,vM]
 unfold dg
 rw [aF,aB h];rfl
theorem QL {l:List U32} {i:Nat} (h:i<l.length) (d:Int):dg (l.set i ⟨d⟩) i=d:=by
 unfold dg
 rw [aF,aB (by rw [aH];exact h),List.getElem_set_self];rfl
theorem Xf {la q:List U32} {i:Nat} {r B:Int} (hi:i<la.length) (hq:i<q.length) (hv:sZ (la.drop (i+1))=sZ (q.drop (i+1))*B+r) :
 sZ (la.drop i)=sZ ((q.set i ⟨(r*65536+dg la i) / B⟩).drop i)*B+(r*65536+dg la i) % B:=by
 rw [Oz hi,Oz (l:=q.set i _) (by rw [aH];exact hq),QL hq,oI sV,hv]
 have h:=gG (r*65536+dg la i) B
 rw [jL,cN ((r*65536+dg la i) / B) B,bR 65536,bI]
 omega
theorem HQ {r a B:Int} (hr:0≤r∧r<B) (ha:0≤a∧a<65536):0≤(r*65536+a) / B∧(r*65536+a) / B<65536:=by
 refine ⟨mA sV sV,kM sV ?_⟩
 have h1:=cY (show r+1≤B by omega) (show (0:Int)≤65536 by decide)
 rw [cN 65536 B]
 omega
theorem Rh {lb:List U32} (h:lb.length=1):sZ lb=dg lb 0:=by
 match lb,h with
 | [d],_=>rw [Ep];rfl
def HR (G:Imm) (la lb:List U32) (v:Value):Prop:=∃ (qa ra:Option Addr) (qc rc:Nat) (lq lr:List U32),v=.tuple #[.slice qa lq.length qc,.slice ra lr.length rc]∧Arr G qa lq∧Arr G ra lr∧Digs lq∧Top lq∧Digs lr∧Top lr∧
 sZ la=sZ lq*sZ lb+sZ lr∧sZ lr<sZ lb∧lq.length≤qc∧lr.length≤rc∧lq.length≤la.length
section
attribute [local irreducible] sZ pw tQ p2
theorem TJ (G:Imm) (a b:Option Addr) (ca cb:Nat) (la lb:List U32) (ha:Arr G a la) (hb:Arr G b lb) (da:Digs la) (db:Digs lb) (tb:Top lb) (h1:la.length≤536870912) (hl1:lb.length=1) :
 Does Tryz.prog 105 [.slice a la.length ca,.slice b lb.length cb] G [] (fun v G' Ho=>HR G' la lb v∧Ho=[]):=by
 have hB:0<dg lb 0:=by
  rw [←Rh hl1];exact Yy db tb (fun e=>by rw [e] at hl1;simp at hl1)
 have hB2:=zO db (show 0<lb.length by omega)
 have hb0:(lb[((0:Nat):Int).toNat]?.getD default).v=dg lb 0:=rfl
 refine D0 Tryz.func105 Tryz.ntmps105 fun w=>?_
 refine aK 19 [1] ?_
 refine iC (α:=U32) 0 rfl T.sl87 T.el166 rfl rfl sV sV fun b1=>?_
 refine bJ 18 [] ?_
 obtain ⟨N,hN⟩:∃ N,N=la.length:=⟨_,rfl⟩
 have hM:(la.length:Int).toNat=N:=sV
 rw [hM]
 have hown:∀ r:List U32,r.length=N→OwnA (some ⟨b1,0,none⟩) N r []:=fun r hr=>.inr ⟨b1,rfl,by rw [hr];rfl,by omega,by simp only [maxLen];omega⟩
 refine jE 6 rfl (show _=Value.slice (some ⟨b1,0,none⟩) (List.replicate N (default:U32)).length N by rw [aE]) ?_
 refine gC (ι:=Nat×Int×List U32) (fun (k,r,q)=>([(8,.int .i64 ((k:Int) - 1)),(7,.int .u64 r),(6,.slice (some ⟨b1,0,none⟩) q.length N),(5,.slice none 0 0),(4,.slice none 0 0),(0,.slice a (List.length la) ca),(1,.slice b (List.length lb) cb)],[(0,some b1,tK 166 q [])])) (fun (k,r,q)=>k≤la.length∧q.length=N∧Digs q∧0≤r∧r<dg lb 0∧sZ (la.drop k)=sZ (q.drop k)*dg lb 0+r) (fun (k,r,q)=>k) ((la.length,0,List.replicate N (default:U32))) (⟨aG _,aE,rQ N,by decide,hB,by rw [eI (aG _),eI Az,vD,gK];rfl⟩) fun ⟨k,r,q⟩=>fun hk=>?_
 obtain ⟨hk1,hqN,hdq,hr0,hr1,hv⟩:=hk
 have hoq:=hown q hqN
 rcases eU k with rfl | hpos
 · rw [iZ,iZ] at hv
   have hcap:=hoq.le
   refine aK 16 [0] ?_
   refine cR 0 rfl hoq fun G8 hle8 hA=>?_
   refine bV 1 rfl (xE _ _ _ _ _ sW Jy FB) fun v1 G1 Ho1 hle1 hp=>?_
   obtain ⟨tn1,rfl,htr1,rfl,rfl⟩:=hp
   refine aN (sP T.fld93_1 rfl rfl) ?_
   refine aA 1 [] ?_
   refine aN (gL rfl T.u166 rfl sV) ?_
   refine fF (α:=U32) 1 [⟨r⟩] rfl T.sl87 T.el166 rfl rfl rfl rfl rfl fun b2=>?_
   have hdr:Digs [(⟨r⟩:U32)]:=pW sV
   refine cR 1 rfl (iI (xs:=[(⟨r⟩:U32)]) Jz) fun G9 hle9 hA2=>?_
   replace hA:=hA.up hle9
   refine bV 2 rfl (xE _ _ _ _ _ sW Jy FB) fun v2 G2 Ho2 hle2 hp=>?_
   obtain ⟨tn2,rfl,htr2,rfl,rfl⟩:=hp
   refine aN (sP T.fld93_1 rfl rfl) ?_
   refine aW 6 [] ?_
   refine eG ?_
   refine ⟨⟨subA (some ⟨b1,0,none⟩) N 0 1,subA (some ⟨b2,0,none⟩) 1 0 1,N,1,q.take tn1,[(⟨r⟩:U32)].take tn2,?_,Rf hA _,Rf hA2 _,hdq.take _,htr1.top,hdr.take _,htr2.top,?_,?_,?_,?_,?_⟩,rfl⟩
   · rw [htr1.len,htr2.len];rfl
   · rw [htr1.val,htr2.val,Ep,Rh hl1];exact hv
   · rw [htr2.val,Ep,Rh hl1];exact hr1
   · rw [htr1.len];exact aO htr1.1 hcap
   · rw [htr2.len];exact htr2.1
   rw [htr1.len,←hN,←hqN];exact htr1.1
 obtain ⟨i,rfl⟩:∃ i,k=i+1:=⟨k - 1,by omega⟩
 have hai:=zO da (show i<la.length by omega)
 have ei:(((i+1:Nat):Int) - 1).toNat=i:=sV
 have eA:(la[(((i+1:Nat):Int) - 1).toNat]?.getD default).v=dg la i:=by unfold dg;rw [ei,aF]
 have hsl:=HQ ⟨hr0,hr1⟩ hai
 have hb1:0<(lb[(0:Int).toNat]?.getD default).v:=hB
 have hb2:(lb[(0:Int).toNat]?.getD default).v<65536:=hB2.2
 have hsl':0≤(r*65536+(la[(((i+1:Nat):Int) - 1).toNat]?.getD default).v) / (lb[(0:Int).toNat]?.getD default).v∧(r*65536+(la[(((i+1:Nat):Int) - 1).toNat]?.getD default).v) / (lb[(0:Int).toNat]?.getD default).v≤65535:=by
  rw [eA]
  exact ⟨hsl.1,by have:=hsl.2;show _ / dg lb 0≤_;omega⟩
 have hrm:0≤(r*65536+dg la i) % dg lb 0∧(r*65536+dg la i) % dg lb 0<dg lb 0:=⟨iM _ sV,eF _ hB⟩
 refine aK 15 [1] ?_
 refine aN (nO rfl rfl uU) ?_
 refine aA 2 [] ?_
 refine dP (α:=U32) T.sl87 ?_
 refine fQ 0 T.one166 ?_
 refine aN (cD rfl T.u165 rfl sV) ?_
 refine aN (gF rfl rfl sV) ?_
 refine aJ 9 [] ?_
 refine dP (α:=U32) T.sl87 ?_
 refine eK rfl (dZ T.one166 rfl (kG sW sV 0 rfl rfl)) ?_
 refine aN (cD rfl T.u165 rfl sV) ?_
 refine aN (oU rfl rfl sV) ?_
 refine aN (gL rfl T.u166 rfl sV) ?_
 refine fW (α:=U32) T.sl87 ?_
 refine eX (z:=_) 0 T.size166 rfl rfl rfl sW sV rfl fun ho1=>?_
 refine aJ 5 [] ?_
 refine dP (α:=U32) T.sl87 ?_
 refine eK rfl (dZ T.one166 rfl (kG sW sV 0 rfl rfl)) ?_
 refine aN (cD rfl T.u165 rfl sV) ?_
 refine aN (jO rfl rfl sV) ?_
 refine aW 9 [] ?_
 rw [eA]
 refine cZ 8 rfl (show _=Value.int .i64 ((i:Int) - 1) by congr 1;omega) ?_
 refine iB 0 (tK 166 (q.set i ⟨(r*65536+dg la i) / dg lb 0⟩) []) rfl (by rw [ei];rfl) ?_
 refine cZ 6 rfl (show _=Value.slice (some ⟨b1,0,none⟩) (q.set i ⟨(r*65536+dg la i) / dg lb 0⟩).length N by rw [aH]) ?_
 refine cS ((i,(r*65536+dg la i) % dg lb 0,q.set i ⟨(r*65536+dg la i) / dg lb 0⟩)) ?_ ?_
 · exact ⟨by omega,by rw [aH];exact hqN,zX hdq _ hsl,hrm.1,hrm.2,Xf sV sV hv⟩
 show i<i+1
 omega
end
theorem HS {α:Type} [Cells α] (E:TypeId) (xs:List α) (j:List Value) (n:Nat):tK E xs j=tK E (xs.take n) (tM (xs.drop n)++j):=by
 unfold tK
 rw [←dQ,←vP,dA]
theorem HT {α:Type} [Cells α] {a:Option Addr} {c:Nat} {xs:List α} {j:List Value} (h:OwnA a c xs j) (n:Nat):OwnA a c (xs.take n) (tM (xs.drop n)++j):=by
 rcases h with ⟨h1,rfl,rfl,h4⟩ | ⟨b,h1,h2,h3,h4⟩
 · exact .inl ⟨h1,by simp,by simp [tM],h4⟩
 refine .inr ⟨b,h1,?_,?_,h4⟩
 · rw [aI,tI,←kI,←eN,←aI,dA];exact h2
 rw [bC];omega
theorem CZ {l:List U32} (hd:Digs l) (h0:l≠[]) (h:pw (l.length - 1)≤sZ l):Top l:=by
 refine .inr fun hz=>?_
 have hl:0<l.length:=oH.2 h0
 have e:=vN l (l.length - 1)
 have hz':dg l (l.length - 1)=0:=by unfold dg;rw [aF];exact hz
 rw [mF hl,tH (aG _),hz',cI,dG] at e
 have h1:=wO (hd.take (l.length - 1))
 rw [bC,dC sV] at h1
 omega
theorem xY {l m:List U32} (hl:Digs l) (hm:Digs m) (tm:Top m) (h:sZ m≤sZ l):m.length≤l.length:=by
 rcases aM l.length m.length with h1 | h1
 · have:=yX hl hm tm h1;omega
 exact h1
theorem HU {l:List U32} {i:Nat} (h:i<l.length) (d:U32):(l.set i d).take (i+1)=l.take i++[d]:=by
 rw [dE,jP (aG _),List.getElem?_set_self h];rfl
theorem NJ {r s:List U32} {i:Nat} (h:s.drop i=r.drop i):dg s i=dg r i:=by
 have e:s[i]?=r[i]?:=by
  have:=congrArg (·[0]?) h
  simpa [eV] using this
 unfold dg;rw [aF,e]
theorem Nu {r s:List U32} {i:Nat} (h:s.drop i=r.drop i) (d:U32):(s.set i d).drop (i+1)=r.drop (i+1):=by
 rw [oI sV,←lE,←lE,h]
theorem Xg {r s:List U32} {i:Nat} {c c0:Int} (hi:i<s.length) (hd:s.drop i=r.drop i) (hv:sZ (s.take i)+pw i*c=2*sZ (r.take i)+c0) :
 sZ ((s.set i ⟨(c+2*dg s i) % 65536⟩).take (i+1))+pw (i+1)*((c+2*dg s i) / 65536)=2*sZ (r.take (i+1))+c0:=by
 rw [HU hi,yN,bC,dC (Nat.le_of_lt hi),vN,xB,←NJ hd]
 have h:=Zg (pw i) (c+2*dg s i)
 rw [bI,dS] at h
 show sZ (s.take i)+pw i*((c+2*dg s i) % 65536)+65536*pw i*((c+2*dg s i) / 65536)=_
 omega
theorem HV (x:Int) (e:Nat):x / p2 e=2*(x / p2 (e+1))+x / p2 e % 2:=by
 rw [Ap,cN 2 (p2 e),←Int.ediv_ediv_of_nonneg (bM (xG e))]
 omega
theorem HW {q:List U32} (hd:Digs q) {e:Nat} {Q:Int} (he:e / 16<q.length) (h:sZ q=p2 (e+1)*Q):dg q (e / 16) % p2 (e % 16+1)=0:=by
 have e0:=Cm q (m:=e / 16+1) sV
 rw [vN,xB] at e0
 have h1:=wO (hd.take (e / 16))
 have h0:=uJ (hd.take (e / 16))
 rw [bC,dC sV] at h1
 have ek:p2 (e+1)=pw (e / 16)*p2 (e % 16+1):=by rw [Ud,←Bu,←kI,gU]
 obtain ⟨r,hr⟩:∃ r,16=e % 16+1+r:=⟨15 - e % 16,by omega⟩
 have e4:p2 16=p2 (e % 16+1)*p2 r:=(congrArg p2 hr).trans (by rw [Bu])
 rw [Ue] at e4
 have e2:sZ (q.take (e / 16))+pw (e / 16)*(dg q (e / 16)+p2 (e % 16+1)*(p2 r*sZ (q.drop (e / 16+1))))=pw (e / 16)*(p2 (e % 16+1)*Q):=by
  rw [←bR (pw (e / 16)) (p2 (e % 16+1)) Q,←ek,←h,e0,bI,←bR (p2 (e % 16+1)) (p2 r),←e4,←bR (pw (e / 16)) 65536,cN (pw (e / 16)) 65536]
  omega
 have e3:dg q (e / 16)+p2 (e % 16+1)*(p2 r*sZ (q.drop (e / 16+1)))=p2 (e % 16+1)*Q:=by
  have h2:=congrArg (fun z=>z / pw (e / 16)) e2
  rw [nK _ _ (jK (wQ _)),iQ h0 h1,jI,Int.mul_ediv_cancel_left _ (jK (wQ _))] at h2
  exact h2
 have e5:dg q (e / 16)=p2 (e % 16+1)*(Q - p2 r*sZ (q.drop (e / 16+1))):=by rw [iU];omega
 rw [e5];exact Int.mul_emod_right _ _
theorem HX {q:List U32} {e:Nat} {Q:Int} (he:e / 16<q.length) (h:sZ q=p2 (e+1)*Q):sZ (q.set (e / 16) ⟨dg q (e / 16)+p2 (e % 16)⟩)=p2 e*(2*Q+1):=by
 have ek:p2 e=pw (e / 16)*p2 (e % 16):=by rw [Ud,←Bu,gU]
 rw [Ex q (e / 16) _ he,h,Ap,bI,fR]
 show 2*p2 e*Q+pw (e / 16)*(dg q (e / 16)+p2 (e % 16) - dg q (e / 16))=_
 rw [show dg q (e / 16)+p2 (e % 16) - dg q (e / 16)=p2 (e % 16) by omega,←ek,dS (p2 e) 2 Q,bR 2 (p2 e) Q]
theorem HY {q:List U32} (hd:Digs q) {e:Nat} (he:e / 16<q.length) (hz:dg q (e / 16) % p2 (e % 16+1)=0):0≤dg q (e / 16)+p2 (e % 16)∧dg q (e / 16)+p2 (e % 16)<65536:=by
 have h1:=zO hd he
 have h2:=xG (e % 16)
 obtain ⟨r,hr⟩:∃ r,16=e % 16+1+r:=⟨15 - e % 16,by omega⟩
 have e4:p2 16=p2 (e % 16+1)*p2 r:=(congrArg p2 hr).trans (by rw [Bu])
 rw [Ue] at e4
 obtain ⟨y,hy⟩:∃ y,dg q (e / 16)=p2 (e % 16+1)*y:=⟨_,(Int.mul_ediv_cancel' (Int.dvd_of_emod_eq_zero hz)).symm⟩
 have hlt:y<p2 r:=by
  rw [hy,e4] at h1
  exact pE h1.2 (bM (xG _))
 have h3:=aY (show y+1≤p2 r by omega) (bM (xG (e % 16+1)))
 rw [bI,fR,←e4,←hy,Ap] at h3
 omega
theorem Zo (n:Nat):p2 n=((2 ^ n:Nat):Int):=rfl
theorem Zp {e:Nat}:IntKind.u32.wrap (1*2 ^ min ((e:Int) % 16).toNat IntKind.u32.bits)=p2 (e % 16):=by
 have e1:min ((e:Int) % 16).toNat IntKind.u32.bits=e % 16:=by
  rw [show IntKind.u32.bits=32 from rfl];omega
 have e2:(2:Int) ^ (e % 16)=p2 (e % 16):=by rw [Zo,qI];rfl
 have h1:p2 (e % 16)≤p2 16:=Zn sV
 rw [Ue] at h1
 have h2:=xG (e % 16)
 rw [e1,e2,fH,nA _ sV]
theorem QM {q:List U32} {e:Nat} (h:0≤dg q (e / 16)∧dg q (e / 16)<65536) (hz:dg q (e / 16) % p2 (e % 16+1)=0) :
 bits BinOp.or IntKind.u32 (q[((e:Int) / 16).toNat]?.getD default).v (IntKind.u32.wrap (1*2 ^ min ((e:Int) % 16).toNat IntKind.u32.bits))=dg q (e / 16)+p2 (e % 16):=by
 have e1:(q[((e:Int) / 16).toNat]?.getD default).v=dg q (e / 16):=by
  unfold dg;rw [show ((e:Int) / 16).toNat=((e / 16:Nat):Int).toNat by omega]
 rw [Zp,e1,Zo (e % 16)]
 exact Wu _ _ h sV hz
section
attribute [local irreducible] sZ pw tQ p2
theorem TK (G:Imm) (a b:Option Addr) (ca cb:Nat) (la lb:List U32) (ha:Arr G a la) (hb:Arr G b lb) (da:Digs la) (db:Digs lb) (tb:Top lb) (h1:la.length≤536870912) (h2:lb.length≤536870912) (hl1:lb.length≠1) (hB:0<sZ lb) :
 Does Tryz.prog 105 [.slice a la.length ca,.slice b lb.length cb] G [] (fun v G' Ho=>HR G' la lb v∧Ho=[]):=by
 refine D0 Tryz.func105 Tryz.ntmps105 fun w=>?_
 refine fO 50 (tK 166 ([]:List U32) []) ?_
 refine aK 21 [0] ?_
 refine iC (α:=U32) 51 rfl T.sl87 T.el166 rfl rfl sV sV fun b1=>?_
 refine aJ 12 [] ?_
 refine bV 52 rfl (YU _ _ _ _ sW sW sW) fun v1 G1 Ho1 hle1 hp=>?_
 obtain ⟨nb1,rfl,hnv1,hnl1,rfl,rfl⟩:=hp
 refine bJ 5 [] ?_
 obtain ⟨N,hN⟩:∃ N,N=la.length:=⟨_,rfl⟩
 have hM:(la.length:Int).toNat=N:=sV
 rw [hM]
 have hown:∀ r:List U32,r.length=N→OwnA (some ⟨b1,0,none⟩) N r []:=fun r hr=>.inr ⟨b1,rfl,by rw [hr];rfl,by omega,by simp only [maxLen];omega⟩
 refine jE 9 rfl (show _=Value.slice (some ⟨b1,0,none⟩) (List.replicate N (default:U32)).length N by rw [aE]) ?_
 have hstart:sZ la / p2 nb1=0:=iQ (uJ da) hnv1
 refine qA (ι:=Nat×Int×List U32×List U32×(Option Addr×Nat×List Value)) (fun (k,Q,q,r,(o,d,j))=>([(11,.int .i64 ((k:Int) - 1)),(9,.slice (some ⟨b1,0,none⟩) q.length N),(10,.slice o r.length d),(5,.slice none 0 0),(4,.slice none 0 0),(0,.slice a (List.length la) ca),(1,.slice b (List.length lb) cb)],[(51,some b1,tK 166 q []),(50,o.map (·.block),tK 166 r j)])) (fun (k,Q,q,r,(o,d,j))=>k≤nb1∧q.length=N∧Digs q∧Digs r∧Top r∧sZ q=p2 k*Q∧sZ la / p2 k=Q*sZ lb+sZ r∧sZ r<sZ lb∧r.length≤lb.length∧OwnA o d r j) (fun (k,Q,q,r,(o,d,j))=>k) ((nb1,0,List.replicate N (default:U32),[],(none,0,[]))) (⟨aG _,aE,rQ N,qX,Top.nil,by rw [cI];exact yW N,by rw [hstart,gK,vD];rfl,by rw [vD];exact hB,aU _,eW⟩) ⟨rfl,rfl,rfl,rfl,rfl,rfl,rfl,trivial⟩ ⟨rfl,rfl,trivial⟩ fun ⟨k,Q,q,r,(o,d,j)⟩=>fun hk=>?_
 obtain ⟨hk1,hqN,hdq,hdr,htr,hvq,hva,hrB,hrl,hob⟩:=hk
 have hoq:=hown q hqN
 rcases eU k with rfl | hpos
 · rw [Ey,Int.ediv_one] at hva
   rw [Ey,fH] at hvq
   have hcap:=hoq.le
   have hcap2:=hob.le
   refine aK 16 [0] ?_
   refine cR 51 rfl hoq (fun G8 hle8 hA=>cR 50 rfl hob (fun G9 hle9 hA2=>?_))
   replace hA:=hA.up hle9
   refine bV 52 rfl (xE _ _ _ _ _ sW Jy FB) fun v2 G2 Ho2 hle2 hp=>?_
   obtain ⟨tn2,rfl,htr2,rfl,rfl⟩:=hp
   refine aN (sP T.fld93_1 rfl rfl) ?_
   refine aW 6 [] ?_
   refine eG ?_
   refine ⟨⟨subA (some ⟨b1,0,none⟩) N 0 1,o,N,d,q.take tn2,r,?_,Rf hA _,hA2,hdq.take _,htr2.top,hdr,htr,?_,hrB,?_,hcap2,?_⟩,rfl⟩
   · rw [htr2.len];rfl
   · rw [htr2.val,hvq];exact hva
   · rw [htr2.len];exact aO htr2.1 hcap
   rw [htr2.len,←hN,←hqN];exact htr2.1
 obtain ⟨e,rfl⟩:∃ e,k=e+1:=⟨k - 1,by omega⟩
 have he16:e<16*la.length:=sV
 refine jE 11 rfl (show _=Value.int .i64 (e:Int) by congr 1;omega) ?_
 have hbit:0≤sZ la / p2 e % 2∧sZ la / p2 e % 2≤1:=sV
 have hhb:=HV (sZ la) e
 generalize hc:sZ la / p2 e % 2=c0 at *
 refine aK 16 [1] ?_
 refine bW rfl (YV _ _ _ _ _ sW sW sW sW) ?_
 refine bJ 10 [] ?_
 refine jE 12 rfl (show _=Value.int .u32 c0 by rw [hc]) ?_
 refine gC (ι:=Nat×Int×List U32) (fun (i,c,s)=>([(13,.int .i64 (i:Int)),(12,.int .u32 c),(10,.slice o s.length d),(0,.slice a la.length ca),(1,.slice b lb.length cb),(11,.int .i64 (↑e:Int)),(9,.slice (some (Addr.mk b1 0 none)) (List.length q) N),(5,.slice none 0 0),(4,.slice none 0 0)],[(50,o.map (·.block),tK 166 s j),(51,some b1,tK (α:=Go.Sl.U32) 166 (q) ([]))])) (fun (i,c,s)=>i≤r.length∧s.length=r.length∧Digs s∧0≤c∧c≤1∧sZ (s.take i)+pw i*c=2*sZ (r.take i)+c0∧s.drop i=r.drop i∧OwnA o d s j) (fun (i,c,s)=>r.length - i) ((0,c0,r)) (⟨aU _,rfl,hdr,hbit.1,hbit.2,by rw [bN,vD,Eo,fH];omega,rfl,hob⟩) fun ⟨i,c,s⟩=>fun hk=>?_
 obtain ⟨hi1,hsl,hds,hcc0,hcc1,hvs,hdrop,hos⟩:=hk
 rcases aM i r.length with hil | hil
 · have hsi:0≤(s[(i:Int).toNat]?.getD default).v∧(s[(i:Int).toNat]?.getD default).v<65536:=zO hds sV
   refine aK 19 [1] ?_
   refine fW (α:=U32) T.sl87 ?_
   refine nY 50 0 T.one166 ?_
   refine aN (BX rfl rfl uU) ?_
   refine aN (mP rfl rfl sV) ?_
   refine aJ 8 [] ?_
   refine aN (jO rfl rfl sV) ?_
   refine fW (α:=U32) T.sl87 ?_
   refine eX (z:=_) 50 T.size166 rfl rfl rfl sW sV rfl fun ho1=>?_
   refine aJ 4 [] ?_
   refine aN (pS rfl rfl sV) ?_
   refine aW 9 [] ?_
   refine iB 50 (tK 166 (s.set i ⟨(c+2*(s[(i:Int).toNat]?.getD default).v) % 65536⟩) j) rfl Oi ?_
   refine cZ 10 rfl (show _=Value.slice o (s.set i ⟨(c+2*(s[(i:Int).toNat]?.getD default).v) % 65536⟩).length d by rw [aH]) ?_
   refine cS ((i+1,(c+2*(s[(i:Int).toNat]?.getD default).v) / 65536,s.set i ⟨(c+2*(s[(i:Int).toNat]?.getD default).v) % 65536⟩)) ?_ ?_
   · refine ⟨by omega,by rw [aH];exact hsl,zX hds _ sV,by omega,by omega,Xg sV hdrop hvs,Nu hdrop _,?_⟩
     rw [aF] at ho1;exact ho1
   show r.length - (i+1)<r.length - i
   omega
 have hii:i=r.length:=sV
 subst hii
 rw [tH sV,tH (aG _)] at hvs
 refine cF 15 [0] ?_
 refine rB (ι:=List U32×(Option Addr×Nat×List Value)) (fun (s1,(o1,d1,j1))=>([(10,.slice o1 s1.length d1),(0,.slice a la.length ca),(1,.slice b lb.length cb),(11,.int .i64 (↑e:Int)),(9,.slice (some (Addr.mk b1 0 none)) (List.length q) N),(5,.slice none 0 0),(4,.slice none 0 0)],[(50,o1.map (·.block),tK 166 s1 j1),(51,some b1,tK (α:=Go.Sl.U32) 166 (q) ([]))])) (fun (s1,(o1,d1,j1))=>Digs s1∧Top s1∧sZ s1=2*sZ r+c0∧s1.length≤r.length+1∧OwnA o1 d1 s1 j1) ?_ fun ⟨s1,(o1,d1,j1)⟩=>fun (hk:Digs s1∧Top s1∧sZ s1=2*sZ r+c0∧s1.length≤r.length+1∧OwnA o1 d1 s1 j1)=>?_
 · by_cases hcy:0<c
   · have hcE:c=1:=sV
     subst hcE
     rw [fR,←hsl] at hvs
     refine aK 10 [1] ?_
     refine fF (α:=U32) 52 [⟨1⟩] rfl T.sl87 T.el166 rfl rfl rfl rfl rfl fun b2=>?_
     refine kO (α:=U32) 50 T.sl87 T.el166 (fZ 52 rfl) fun a1 c1 junk1 ho1=>?_
     refine aW 2 [] ?_
     refine sJ ((s++[⟨1⟩],(a1,c1,junk1))) ?_
     refine ⟨hds.append (pW tF),?_,by rw [yN,fR];exact hvs,by rw [aI,hsl];exact aG _,ho1⟩
     refine .inr ?_
     rw [aI,kL,Nat.add_sub_cancel,cM (aG _),jX]
     decide
   have hcE:c=0:=sV
   subst hcE
   rw [cI,dG] at hvs
   refine bE 8 [0] ?_
   refine sJ ((s,(o,d,j))) ?_
   refine ⟨hds,?_,hvs,by omega,hos⟩
   by_cases hr0:r=[]
   · left
     rw [hr0] at hsl
     exact cB hsl
   refine CZ hds (fun e0=>hr0 (cB (by rw [←hsl,e0];rfl))) ?_
   have:=Wx hdr htr hr0
   have h0:=uJ hdr
   rw [hsl,hvs];omega
 clear hvs hos hds hsl hdrop hcc0 hcc1
 obtain ⟨hd1,ht1,hv1,hsl1,ho1⟩:=hk
 have heq:e / 16<q.length:=sV
 have hdz:=HW hdq heq hvq
 have hroom:=HY hdq heq hdz
 have hdgq:=zO hdq heq
 refine aK 4 [] ?_
 refine oW 60 rfl T.fn127 rfl (fun Gx hGx hgx=>HK Gx _ _ _ _ s1 lb (nI hgx 50 rfl ho1) (hb.up hGx) hd1 db ht1 tb sV sV) fun v5 Gx5 G5 Ho5 hlx5 hp=>?_
 obtain ⟨rfl,rfl,rfl⟩:=hp
 by_cases hge:sZ lb≤sZ s1
 · have hcmp:0≤tQ (sZ s1) (sZ lb):=by
    rcases rP hge with h | h
    · rw [yL h];decide
    rw [Cj h.symm];decide
   have hll:=xY hd1 db tb hge
   refine aJ 8 [1] ?_
   refine oW 50 rfl T.fn128 rfl (fun Gx hGx hgx=>QG Gx _ _ _ _ s1 lb (nI hgx 50 rfl ho1) (hb.up hGx) hd1 db sV hll hge) fun v7 Gx7 G7 Ho7 hlx7 hp=>?_
   obtain ⟨mo,mc,mr,mj,rfl,hmo,rfl,rfl,hmd,hmv,hml⟩:=hp
   have hmc:=hmo.le
   skip
   refine oW 70 rfl T.fn106 rfl (fun Gx hGx hgx=>xE Gx _ _ _ mr (nI hgx 50 rfl hmo) sV hmc) fun v8 Gx8 G8 Ho8 hlx8 hp=>?_
   obtain ⟨tn,rfl,htm,rfl,rfl⟩:=hp
   refine aN (sP T.fld93_1 rfl rfl) ?_
   refine bJ 3 [] ?_
   refine eB [51,50] [(50,13),(51,13)] T.mixed [[0],[1]] ?_
   refine gD 2 [] rfl (lX rfl rfl sV) ?_
   refine eJ [[3],[4]] ?_
   refine gD 5 [] rfl (lX rfl rfl sV) ?_
   refine kS (α:=U32) 6 T.sl87 ?_
   refine mS 7 51 0 T.one166 ?_
   refine eJ [[8]] ?_
   refine gD 9 [] rfl (jO rfl rfl sV) ?_
   refine gD 10 [] rfl (Qy.shl rfl rfl sV) ?_
   refine gD 11 [] rfl (Gq rfl rfl) ?_
   refine kS (α:=U32) 12 T.sl87 ?_
   refine fE 13 ?_
   refine eX (z:=_) 51 T.size166 rfl rfl rfl sW sV rfl fun ho2=>?_
   refine fV ?_
   refine gZ 7 [] ?_
   refine iB 51 (tK 166 (q.set (e / 16) ⟨dg q (e / 16)+p2 (e % 16)⟩) []) rfl ?_ ?_
   · show tK 166 (q.set ((e:Int) / 16).toNat ⟨bits BinOp.or IntKind.u32 (q[((e:Int) / 16).toNat]?.getD default).v (IntKind.u32.wrap (1*2 ^ min ((e:Int) % 16).toNat IntKind.u32.bits))⟩) []=_
     rw [QM hdgq hdz,show ((e:Int) / 16).toNat=e / 16 by omega]
   refine iB 50 (tK 166 (mr.take tn) (tM (mr.drop tn)++mj)) rfl (HS 166 mr mj tn) ?_
   refine cZ 10 rfl (show _=Value.slice mo (mr.take tn).length mc by rw [Np hmo,htm.len];rfl) ?_
   refine cZ 9 rfl (show _=Value.slice (some ⟨b1,0,none⟩) (q.set (e / 16) ⟨dg q (e / 16)+p2 (e % 16)⟩).length N by rw [aH]) ?_
   refine cS ((e,2*Q+1,q.set (e / 16) ⟨dg q (e / 16)+p2 (e % 16)⟩,mr.take tn,(mo,mc,tM (mr.drop tn)++mj))) ?_ ?_
   · have hvm:=htm.val
     have hlt:sZ (mr.take tn)<sZ lb:=by rw [hvm,hmv];omega
     refine ⟨by omega,by rw [aH];exact hqN,zX hdq _ hroom,hmd.take _,htm.top,HX heq hvq,?_,hlt,xY db (hmd.take _) htm.top (bM hlt),HT hmo tn⟩
     rw [hhb,hva,hvm,hmv,hv1,jL,fH,bI,←bR];omega
   show e<e+1
   omega
 have hcmp:¬0≤tQ (sZ s1) (sZ lb):=by rw [xX sV];decide
 have hll:s1.length≤lb.length:=xY db hd1 ht1 sV
 refine aW 12 [0] ?_
 refine cS ((e,2*Q,q,s1,(o1,d1,j1))) ?_ ?_
 · refine ⟨by omega,hqN,hdq,hd1,ht1,?_,?_,by omega,hll,ho1⟩
   · rw [hvq,Ap,dS (p2 e) 2 Q,bR]
   rw [hhb,hva,bI,←bR,hv1];omega
 show e<e+1
 omega
end
end Go.Proofs.YtngphgeghfdjbaaGreatDoor
