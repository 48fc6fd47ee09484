/- wG of the proof (part 5): what the rows' text needs of the texts that lead to it. -/
import Derived.Test.YtngphgeghfdjbaaGreatDoorMDd
set_option linter.unusedVariables false
set_option linter.unusedSimpArgs false
set_option linter.unusedSectionVars false
set_option maxHeartbeats 4000000
noncomputable section
set_option maxRecDepth 100000
namespace Go.Proofs.YtngphgeghfdjbaaGreatDoor
open Go Go.Sl
section
attribute [local irreducible] uM pb vJ uZ p2 yO yP
def C8 (G:A3) (s:SV) (zs:List Int):Prop:=∃ l:List IV,l.length=s.n∧s.n≤s.c∧Arr G s.a l∧A8 G l zs
theorem C8.up {G G':A3} {s:SV} {zs:List Int} (h:C8 G s zs) (hl:G.le G'):C8 G' s zs:=by
 obtain ⟨l,h1,h2,h3,h4⟩:=h;exact ⟨l,h1,h2,h3.up hl,h4.up hl⟩
def B5 (G:A3) (l:List SV) (rs:List (List Int)):Prop:=l.length=rs.length∧∀ i:Nat,i<l.length→C8 G (l[i]?.getD default) (rs[i]?.getD [])
theorem B5.up {G G':A3} {l:List SV} {rs:List (List Int)} (h:B5 G l rs) (hl:G.le G'):B5 G' l rs:=⟨h.1,fun i hi=>(h.2 i hi).up hl⟩
theorem B5.nil (G:A3):B5 G [] []:=⟨U,fun i hi=>by simp at hi⟩
theorem B5.snoc {G:A3} {l:List SV} {rs:List (List Int)} (h:B5 G l rs) {s:SV} {zs:List Int} (hs:C8 G s zs):B5 G (l++[s]) (rs++[zs]):=by
 refine ⟨by rw [aI,aI,h.1];rfl,fun i hi=>?_⟩;rw [aI,gJ] at hi;rcases aK i l.length with h1 | h1
 · rw [bC h1,bC (by rw [←h.1];exact h1)];exact h.2 i h1
 have:i=l.length:=uJ;subst this;rw [cD (aG _),cD (by rw [h.1];exact aG _),iW,h.1,iW];exact hs
theorem jb (G:A3) (a:Option Addr) (c:Nat) (l:List R2) (ha:Arr G a l) (h1:l.length≤1048576) (hc:l.length≤c) (hR:yO l):Does Tryz.prog 226 [.slice a l.length c] G [] (fun v G' Ho=>v=.bool true∧G'=G∧Ho=[]):=
 (qw G a c l ha h1 hc).mono fun v G' Ho _ ⟨b,e1,e2,e3,e4⟩=>⟨by rw [e1,e2.2 hR],e3,e4⟩
def yD (l:List R2):List (List Int):=l.map fun p=>yP p.a p.b l.length
theorem QS (G:A3) (a:Option Addr) (c:Nat) (l:List R2) (ha:Arr G a l) (h1:l.length≤1048576) (hc:l.length≤c) (hR:yO l) (hr1:l.length≤15) (hr2:∀ i,i<l.length→ZJ (l[i]?.getD default)) :
 Does Tryz.prog 211 [.slice a l.length c] G [] (fun v G' Ho=>∃ (s:Option Addr) (r:List SV) (c':Nat),v=.tuple #[.slice s r.length c',.int .i64 0]∧Arr G' s r∧B5 G' r (yD l)∧r.length≤c'∧Ho=[]):=by
 refine D0 Tryz.func211 Tryz.ntmps211 fun w=>?_;refine gA 9 (Row 39 ([]:List SV) []) ?_;refine aL 10 [] ?_;refine dC U (jb _ _ _ l uK uJ hc hR) ?_;refine bY 20 [0] ?_;refine fX (ι:=Nat×A3×List SV×(Option Addr×Nat×List Value)) (fun (i,Gx,r,(o,d,j))=>([(14,.int .i64 (i:Int)),(4,.slice o r.length d),(13,.int .i64 (l.length:Int)),(12,.slice a (List.length l) c),(3,.int .i64 0),(2,.slice none 0 0),(0,.slice a (List.length l) c)],[(9,o.map (·.block),Row 39 r j)])) (fun (i,Gx,r,(o,d,j))=>Gx) (fun (i,Gx,r,(o,d,j))=>i≤l.length∧G.le Gx∧r.length=i∧B5 Gx r ((yD l).take i)∧A5 o d r j) (fun (i,Gx,r,(o,d,j))=>l.length - i) ((0,G,[],(none,0,[]))) (⟨aS _,cC _,U,by rw [bX];exact B5.nil _,fN⟩) U ⟨U,U,U,U,U,U,U,I8⟩ ⟨U,I8⟩ fun ⟨i,Gx,r,(o,d,j)⟩=>fun hk=>?_;obtain ⟨hi1,hi2,hi3,hi4,hi5⟩:=hk;replace ha:=ha.up hi2;rcases aK i l.length with hil | hil
 · have hnear:yN (l[(i:Int).toNat]?.getD default).a (l[(i:Int).toNat]?.getD default).b:=(hr2 i hil).1;refine aL 13 [1] ?_;refine fF (α:=R2) T.sl22 ?_;refine qF T.agg51 ?_;refine bB 10 U T.zero51 fun b1=>?_;refine aN 8 [10,10] ?_;refine cQ 11 U (ja _ _ _ l.length hnear uJ) fun v1 G1 Ho1 hle1 hp=>?_;obtain ⟨ps1,pr1,pc1,rfl,hpA1,hpB1,hpL1,rfl⟩:=hp;replace ha:=ha.up hle1;refine aN 10 [] ?_;refine eV (α:=SV) 11 [⟨_,_,_⟩] U T.sl86 T.el39 U U U U U fun b2=>?_;refine qG (α:=SV) 9 T.sl86 T.el39 (fP 11 U) fun a1 c1 junk1 ho1=>?_;refine bA 8 [] ?_;refine dH 14 U (show _=Value.int .i64 ((i+1:Nat):Int) from U) ?_;refine eH ((i+1,_,r++[⟨ps1,pr1.length,pc1⟩],(a1,c1,junk1))) ?_ ?_
   · refine ⟨by omega,bH hi2 uK,by rw [aI,hi3];rfl,?_,ho1⟩;have e:(yD l).take (i+1)=(yD l).take i++[yP (l[(i:Int).toNat]?.getD default).a (l[(i:Int).toNat]?.getD default).b l.length]:=by
      rw [fW];congr 1;unfold yD;rw [bJ,aH,aA hil];rfl
     rw [e];exact (hi4.up uK).snoc ⟨pr1,U,hpL1,hpA1,hpB1⟩
   show l.length - (i+1)<l.length - i;omega
 have hie:i=l.length:=uJ;subst hie;have e:(yD l).take l.length=yD l:=eQ (by unfold yD;rw [aW];exact aG _);rw [e] at hi4;refine cJ 20 [0] ?_;refine dX 9 U hi5 fun G8 hle8 hA8=>?_;refine fU ?_;exact ⟨_,_,_,U,hA8,hi4.up hle8,hi5.le,U⟩
end
section
attribute [local irreducible] uM uS pb pw vJ uZ p2 yO yP
def small (z:Int):Prop:=z.natAbs<18446744073709551616
end
section
attribute [local irreducible] uM uS pb pw vJ uZ p2 yO yP
end
theorem Po {p:PV} {gs os:List (List Int)} (h:vH p gs=some os):os.length=p.outs.length:=by
 unfold vH at h;obtain ⟨rs,h1,h2⟩:=gG.1 h;subst h2;unfold xE;rw [aW]
theorem EP (l:List R2):(yD l).length=l.length:=by unfold yD;rw [aW]
theorem Uq {a b:Int} {n:Nat} (h:yN a b) (hn:n≤15):(yP a b n).length=n∧Go.Sl.Below 4 (yP a b n):=by
 refine ⟨by unfold yP;rw [aW,dO],fun z hz=>?_⟩;unfold yP at hz;obtain ⟨k,hk,rfl⟩:=cV.1 hz;have hk:=oM.1 hk;have e4:pw 4=18446744073709551616:=by unfold pw;decide
 have e:(a ^ k*b ^ (n - 1 - k)).natAbs≤16 ^ 15:=by
  rw [qL,sL,sL];refine aP (gQ (lA (show a.natAbs≤16 by unfold yN at h;omega) k) (lA (show b.natAbs≤16 by unfold yN at h;omega) _)) ?_;rw [←kX];exact eR uJ uJ
 have e3:(16:Nat) ^ 15=1152921504606846976:=uR;omega
theorem EQ {l:List R2} (h1:l.length≤15) (hr:∀ i,i<l.length→yN (l[i]?.getD default).a (l[i]?.getD default).b):bd 4 l.length (yD l):=fun zs hz=>by
 unfold yD at hz;obtain ⟨p,hp,rfl⟩:=cV.1 hz;obtain ⟨i,hi,rfl⟩:=mT.1 hp;have:=hr i hi;rw [aA hi] at this;have this:yN l[i].a l[i].b:=this;exact Uq this h1
def wX (n j:Nat):List Int:=(List.replicate n 0).set j 1
theorem Pp (n j m:Nat) (hm:1≤m):Go.Sl.Below m (wX n j):=by
 have h1:pw 1=65536:=by unfold pw;decide
 refine Go.Sl.Below.mono (m:=1) (fun z hz=>?_) hm;unfold wX at hz;rcases kU hz with h | h
 · rw [iH h,h1];decide
 rw [h,h1];decide
def wF (p:PV) (l:List R2):Prop:=uY p=true∧p.ins=l.length∧p.outs.length=l.length∧vH p (yD l)=some ((List.range l.length).map (wX l.length))
instance (p:PV) (l:List R2):Decidable (wF p l):=inferInstanceAs (Decidable (_∧_))
section
attribute [local irreducible] uM uS pb pw vJ uZ p2 yP yD vH uY
end
theorem jc (G:A3) (k:Int):Does Tryz.prog 163 [.int .i64 k] G [] (fun v G' Ho=>v=.bool (decide (1≤k∧k≤8))∧G'=G∧Ho=[]):=by
 refine D0 Tryz.func163 Tryz.ntmps163 fun w=>?_;refine bP ?_;refine aZ U ?_;refine aF 1 [] ?_;refine bT ?_;refine bE ?_;refine bP ?_;refine aZ U ?_;refine aF 3 [] ?_;apply gE 3 5 8 U;intro hg1;refine aF 5 [] ?_;exact gO 3 0;intro hg1;refine aF 3 [] ?_;exact gO 3 0;refine aF 1 [] ?_;refine bT ?_;refine bE ?_;refine kK ?_;refine cZ ?_;exact ⟨U,U,U⟩
theorem qz (G:A3) (a:Option Addr) (c:Nat) (l:List R2) (ha:Arr G a l) (h1:l.length≤1048576):Does Tryz.prog 206 [.slice a l.length c,.func (.func 166) #[] #[]] G [] (fun v G' Ho=>∃ z:Int,v=.int .i64 z∧(0≤z↔∃ i,i<l.length∧((l[i]?.getD default).a=0∧(l[i]?.getD default).b=0))∧G'=G∧Ho=[]):=by
 refine D0 Tryz.func206 Tryz.ntmps206 fun w=>?_;refine bP ?_;refine aZ U ?_;refine aF 1 [] ?_;refine bT ?_;refine bE ?_;refine bP ?_;refine bP ?_;refine aZ U ?_;refine aF 3 [] ?_;refine bT ?_;refine bE ?_;refine lD ?_;refine kL (ι:=Nat) (fun j=>([(8,.int .i64 (j:Int)),(0,.slice a l.length c),(1,.func (.func 166) #[] #[]),(7,.int .i64 (l.length:Int))],[])) (fun j=>j≤l.length∧∀ i,i<j→¬((l[i]?.getD default).a=0∧(l[i]?.getD default).b=0)) (fun j=>l.length - j) (0) (⟨aS _,fun j' h=>absurd h uJ⟩) fun j=>fun hk=>?_;obtain ⟨hj,hno⟩:=hk;refine bP ?_;refine aZ U ?_;refine aF 1 [] ?_;refine bT ?_;refine bE ?_;refine bP ?_;refine hZ (fun hc1=>?_) fun hc1=>?_;refine iU ?_;refine bE ?_;refine bP ?_;refine lD ?_;refine bP ?_;refine aZ U ?_;refine aF 2 [] ?_;refine bT ?_;refine bE ?_;refine bP ?_;refine aZ U ?_;refine aF 3 [] ?_;refine fF (α:=R2) T.sl22 ?_;refine qF T.agg51 ?_;rotate_left;refine Wc.exit ?_;refine pN ?_;refine pN ?_;refine Ww ?_;refine bE ?_;refine bP ?_;refine aZ U ?_;refine aF 1 [] ?_;refine bT ?_;refine bE ?_;refine kK ?_;refine cZ ?_;rotate_left
 · refine fM (fst:=[]) (cap:=[]) 2 U T.fn166 U U (ix _ (l[(j:Int).toNat]?.getD default).a (l[(j:Int).toNat]?.getD default).b) (vA I8) fun v1 G1 Ho1 hle1 hp=>?_;obtain ⟨rfl,rfl,rfl⟩:=hp;refine bT ?_;refine bE ?_;refine hZ (fun hc2=>?_) fun hc2=>?_;refine bP ?_;refine aZ U ?_;refine aF 2 [] ?_;refine bT ?_;refine bE ?_;refine kK ?_;refine pE ?_;refine kQ ?_;refine kQ ?_;refine pE ?_;refine kQ ?_;refine cZ ?_;rotate_left;refine iU ?_;refine lW ?_;refine bE ?_;refine aZ U ?_;refine aF 2 [] ?_;refine bT ?_;rotate_left
   · exact ⟨(j:Int),U,⟨fun _=>⟨j,by omega,hc2⟩,fun _=>by omega⟩,U,U⟩
   refine dH 8 U (show _=Value.int .i64 ((j+1:Nat):Int) from U) ?_;refine eH (j+1) ?_ ?_
   · refine ⟨by omega,fun i' h2=>?_⟩;rcases aK i' j with h | h
     · exact hno i' h
     have e:i'=j:=uJ;subst e;exact hc2
   omega
 exact ⟨-1,U,⟨fun h=>absurd h uJ,fun ⟨i,hi,h⟩=>absurd h (hno i uJ)⟩,U,U⟩
theorem rb (G:A3) (a:Option Addr) (c:Nat) (l:List R2) (ha:Arr G a l) (h1:l.length≤1048576):Does Tryz.prog 165 [.slice a l.length c,.func (.func 166) #[] #[]] G [] (fun v G' Ho=>∃ b:Bool,v=.bool b∧(b=true↔∃ i,i<l.length∧((l[i]?.getD default).a=0∧(l[i]?.getD default).b=0))∧G'=G∧Ho=[]):=by
 refine D0 Tryz.func165 Tryz.ntmps165 fun w=>?_;refine bP ?_;refine aZ U ?_;refine aF 1 [] ?_;refine bT ?_;refine bE ?_;refine bP ?_;refine aZ U ?_;refine aF 2 [] ?_;refine cQ 0 U (qz _ _ _ _ uK uJ) fun v1 G1 Ho1 hle1 hp=>?_;obtain ⟨tz1,rfl,htz1,rfl,rfl⟩:=hp;refine aF 2 [] ?_;refine bT ?_;refine bE ?_;refine kK ?_;refine cZ ?_;exact ⟨decide (0≤tz1),U,by rw [aY];exact htz1,U,U⟩
theorem c25 (G:A3) (a:Option Addr) (c:Nat) (l:List R2) (ha:Arr G a l) (hl:l.length≤1048576) :
 Does Tryz.prog 25 [.slice a l.length c] G [] (fun v G' Ho=>∃ s d j,v=.slice s l.length d∧A5 s d l j∧G'=G∧Ho=[(0,s.map (·.block),Row 51 l j)]):=by
 refine D0 Tryz.func25 Tryz.ntmps25 fun w=>?_;by_cases hne:a=none
 · subst hne;have hl0:l=[]:=by
    rcases ha.2 with h0 | ⟨_,_,h,_⟩
    · exact List.length_eq_zero_iff.mp h0
    cases h
   subst hl0;refine gA 0 (Row 51 ([]:List R2) []) ?_;refine aL 9 [] ?_;refine aT (iG T.sl22 U U) ?_;refine bY 2 [] ?_;refine hZ (fun hc1=>?_) fun hc1=>?_;refine cJ 7 [] ?_;rotate_left;refine aL 4 [] ?_;refine sS 1 U T.sl22 fun b1=>?_;refine aF 1 [] ?_;rotate_left;refine cP (.inr U) (Ho:=[(0,none,Row 51 ([]:List R2) [])]) U (.tmp U) ⟨U,I8⟩ ?_
   · exact ⟨none,0,[],U,fN,U,U⟩
   exact absurd U hc1
 refine aL 9 [] ?_;refine aT (iG T.sl22 U U) ?_;refine aN 7 [0] ?_;refine sS 0 U T.sl22 fun b1=>?_;refine aF 1 [] ?_;refine oF 0 (Row 51 ([]:List R2) []) U U ?_;refine fZ (α:=R2) (xs:=[]) (ys:=l) (junk:=[]) 0 U T.sl22 T.el51 U U U (.inr ⟨b1,U,U,aG _,aS _⟩) (mX ha) (by rw [cR];omega) OE fun a1 c1 junk1 ho1=>?_;rw [gI] at ho1 ⊢;refine bA 4 [] ?_;refine cP (.inr U) (Ho:=[(0,a1.map (·.block),Row 51 l junk1)]) U (.tmp U) ⟨U,I8⟩ ?_;exact ⟨a1,c1,junk1,U,ho1,U,U⟩
structure PH where
 ins:Int
 regs:Int
 ac:Option Addr
 cn:Nat
 cc:Nat
 ao:Option Addr
 on:Nat
 oc:Nat
instance:Inhabited PH:=⟨⟨0,0,none,0,0,none,0,0⟩⟩
instance:A2 PH:=⟨4,fun x=>[.int .i64 x.ins,.int .i64 x.regs,.slice x.ac x.cn x.cc,.slice x.ao x.on x.oc],fun _=>rfl,fun _=>rfl⟩
def Ms (pn:Nat) (l:List PH):Bool:=l.any (fun p=>decide (80<p.regs)) || decide (600<(l.map (·.cn)).sum) || decide (15<pn)
theorem QT {pn:Nat} {l:List PH} {k:Nat} (hk:k<l.length) (h:80<(l[k]?.getD default).regs):Ms pn l=true:=by
 have h2:l.any (fun p=>decide (80<p.regs))=true:=by
  rw [List.any_eq_true];rw [aA hk,kF] at h;exact ⟨l[k],dY hk,cX h⟩
 unfold Ms;rw [h2];rfl
theorem WS {pn:Nat} {l:List PH} (h:∀ p∈l,¬80<p.regs):Ms pn l=decide (600<(((l.map (·.cn)).sum:Nat):Int)∨15<(pn:Int)):=by
 have h2:l.any (fun p=>decide (80<p.regs))=false:=by
  rw [List.any_eq_false];intro p hp;simpa using h p hp
 unfold Ms;rw [h2,Bool.false_or,Bool.eq_iff_iff];simp only [nS,aY];omega
theorem QU (x y z:PH) {C:Nat} (hx:x.cn≤C) (hy:y.cn≤C) (hz:z.cn≤C) (k:Nat):(([x,y,z]:List PH)[k]?.getD default).cn≤C:=by
 match k with
 | 0=>exact hx
 | 1=>exact hy
 | 2=>exact hz
 | k+3=>exact aS _
theorem LJ (x y z:PH) {C:Nat} (hx:x.cn≤C) (hy:y.cn≤C) (hz:z.cn≤C) (k:Nat) (hk:k≤3):((([x,y,z]:List PH).take k).map (·.cn)).sum≤3*C:=by
 match k,hk with
 | 0,_=>exact aS _
 | 1,_=>show x.cn+0≤3*C;omega
 | 2,_=>show x.cn+(y.cn+0)≤3*C;omega
 | 3,_=>show x.cn+(y.cn+(z.cn+0))≤3*C;omega
theorem ER (x y z:PH) (k:Nat) (hk:k<3):((([x,y,z]:List PH).take (k+1)).map (·.cn)).sum=((([x,y,z]:List PH).take k).map (·.cn)).sum+(([x,y,z]:List PH)[k]?.getD default).cn:=by
 match k,hk with
 | 0,_=>show x.cn+0=0+x.cn;omega
 | 1,_=>show x.cn+(y.cn+0)=x.cn+0+y.cn;omega
 | 2,_=>show x.cn+(y.cn+(z.cn+0))=x.cn+(y.cn+0)+z.cn;omega
theorem LK (x y z:PH) {q:PH→Prop} (k:Nat) (hk:k<3) (h:∀ p∈([x,y,z]:List PH).take k,q p) (h1:q (([x,y,z]:List PH)[k]?.getD default)):∀ p∈([x,y,z]:List PH).take (k+1),q p:=by
 intro p hp;rw [fW,eL] at hp;rcases hp with hp | hp
 · exact h p hp
 have hk':k<([x,y,z]:List PH).length:=hk;rw [aA hk'] at hp h1;have e:p=([x,y,z]:List PH)[k]:=by simpa using hp
 rw [e];exact h1
theorem c17 (G:A3) (k1 k2:Int) (pa:Option Addr) (pn pc:Nat) (x y z:PH) (hx:x.cn≤1099511627776) (hy:y.cn≤1099511627776) (hz:z.cn≤1099511627776) :
 Does Tryz.prog 17 [.agg #[.int .i64 k1,.int .i64 k2,.slice pa pn pc,.int .i64 x.ins,.int .i64 x.regs,.slice x.ac x.cn x.cc,.slice x.ao x.on x.oc,.int .i64 y.ins,.int .i64 y.regs,.slice y.ac y.cn y.cc,.slice y.ao y.on y.oc,.int .i64 z.ins,.int .i64 z.regs,.slice z.ac z.cn z.cc,.slice z.ao z.on z.oc]] G [] (fun v G' Ho=>v=.bool (Ms pn [x,y,z])∧G'=G∧Ho=[]):=by
 refine D0 Tryz.func17 Tryz.ntmps17 fun w=>?_;refine aL 2 [] ?_;refine fK 0 fun b1=>?_;refine aN 12 [] ?_;refine aT (iF 0 T.agg26 U U U U) ?_;refine aF 1 [] ?_;refine aT (iF 0 T.agg26 U U U U) ?_;refine aF 1 [] ?_;refine aT (iF 0 T.agg26 U U U U) ?_;refine eV (α:=PH) 1 [⟨_,_,_,_,_,_,_,_⟩,⟨_,_,_,_,_,_,_,_⟩,⟨_,_,_,_,_,_,_,_⟩] U T.sl122 T.el26 U U U U U fun b2=>?_;refine bY 5 [] ?_;refine kL (ι:=Nat×Nat) (fun (k,n)=>([(14,.int .i64 (k:Int)),(3,.int .i64 (n:Int)),(13,.int .i64 (↑(List.length [PH.mk (PH.ins x) (PH.regs x) (PH.ac x) (PH.cn x) (PH.cc x) (PH.ao x) (PH.on x) (PH.oc x),PH.mk (PH.ins y) (PH.regs y) (PH.ac y) (PH.cn y) (PH.cc y) (PH.ao y) (PH.on y) (PH.oc y),PH.mk (PH.ins z) (PH.regs z) (PH.ac z) (PH.cn z) (PH.cc z) (PH.ao z) (PH.on z) (PH.oc z)]):Int)),(12,.slice (some (Addr.mk b2 0 none)) (List.length [PH.mk (PH.ins x) (PH.regs x) (PH.ac x) (PH.cn x) (PH.cc x) (PH.ao x) (PH.on x) (PH.oc x),PH.mk (PH.ins y) (PH.regs y) (PH.ac y) (PH.cn y) (PH.cc y) (PH.ao y) (PH.on y) (PH.oc y),PH.mk (PH.ins z) (PH.regs z) (PH.ac z) (PH.cn z) (PH.cc z) (PH.ao z) (PH.on z) (PH.oc z)]) 3),(1,.pointer (some ⟨b1,0,none⟩))],[(1,some b2,Row (α:=PH) 26 ([PH.mk (PH.ins x) (PH.regs x) (PH.ac x) (PH.cn x) (PH.cc x) (PH.ao x) (PH.on x) (PH.oc x),PH.mk (PH.ins y) (PH.regs y) (PH.ac y) (PH.cn y) (PH.cc y) (PH.ao y) (PH.on y) (PH.oc y),PH.mk (PH.ins z) (PH.regs z) (PH.ac z) (PH.cn z) (PH.cc z) (PH.ao z) (PH.on z) (PH.oc z)]) ([])),(0,some b1,.cells #[.int .i64 k1,.int .i64 k2,.slice pa pn pc,.int .i64 (PH.ins x),.int .i64 (PH.regs x),.slice (PH.ac x) (PH.cn x) (PH.cc x),.slice (PH.ao x) (PH.on x) (PH.oc x),.int .i64 (PH.ins y),.int .i64 (PH.regs y),.slice (PH.ac y) (PH.cn y) (PH.cc y),.slice (PH.ao y) (PH.on y) (PH.oc y),.int .i64 (PH.ins z),.int .i64 (PH.regs z),.slice (PH.ac z) (PH.cn z) (PH.cc z),.slice (PH.ao z) (PH.on z) (PH.oc z)] 28)])) (fun (k,n)=>k≤3∧n=((([x,y,z]:List PH).take k).map (·.cn)).sum∧∀ p∈([x,y,z]:List PH).take k,¬80<p.regs) (fun (k,n)=>3 - k) ((0,0)) (⟨aS _,U,fun p h=>absurd h vL⟩) fun ⟨k,n⟩=>fun hk=>?_;obtain ⟨hk3,hn,hno⟩:=hk;refine dN 6 [] ?_;refine hZ (fun hc1=>?_) fun hc1=>?_;refine aL 6 [] ?_;refine aT (dV T.sl122 U U uJ) ?_;rotate_left;refine aL 10 [] ?_;apply fG 5 29 34 U;intro hg1;refine aF 9 [0] ?_;exact gO 5 0;intro hg1;refine aF 5 [] ?_;exact gO 5 0;refine bA 4 [] ?_;refine cZ ?_;rotate_left
 · have hk2:k<3:=by
    have h:(k:Int)<3:=hc1;omega
   have hcn:=QU x y z hx hy hz (k:Int).toNat;have hs3:n≤3*1099511627776:=by rw [hn];exact LJ x y z hx hy hz k hk3
   refine aT (Ud (α:=PH) (xs:=[x,y,z]) (junk:=[]) 1 T.agg26 U U (show 0≤(k:Int)∧(k:Int)<(([x,y,z]:List PH).length:Int) from ⟨by omega,hc1⟩)) ?_;refine bB 2 U T.zero26 fun b3=>?_;refine bY 20 [2,2,2] ?_;refine hZ (fun hc2=>?_) fun hc2=>?_;refine cJ 11 [] ?_;refine cZ ?_;rotate_left;refine cJ 7 [] ?_;rotate_left
   · exact ⟨congrArg Value.bool (QT (l:=[x,y,z]) (k:=k) hk2 hc2).symm,U,U⟩
   refine dH 14 U (show _=Value.int .i64 ((k+1:Nat):Int) from U) ?_;refine dH 3 U (show _=Value.int .i64 ((n+([x,y,z][(k:Int).toNat]?.getD default).cn:Nat):Int) from U) ?_;refine eH ((k+1,n+([x,y,z][(k:Int).toNat]?.getD default).cn)) ?_ ?_
   · exact ⟨hk2,by rw [hn];exact (ER x y z k hk2).symm,LK x y z (q:=fun p=>¬80<p.regs) k hk2 hno hc2⟩
   show 3 - (k+1)<3 - k;omega
 have hk2:k=3:=by
  have h:¬(k:Int)<3:=hc1;omega
 subst hk2;rw [show Ms pn [x,y,z]=_ from WS (pn:=pn) (l:=[x,y,z]) hno,hn];exact ⟨U,U,U⟩
def xW (k:Nat):List (List Int):=(List.range k).map (wX k)
theorem Hf (k:Nat):(xW k).length=k:=by unfold xW;rw [aW,dO]
theorem Ur (k j:Nat):(wX k j).length=k:=by unfold wX;rw [aJ,aC]
theorem AP (k:Nat):bd 4 k (xW k):=fun zs hz=>by
 unfold xW at hz;obtain ⟨j,hj,rfl⟩:=cV.1 hz;exact ⟨Ur k j,Pp k j 4 uJ⟩
def AQ (p:PV):Prop:=∀ i∈p.code,¬(i.op=6∨i.op=8)
instance (p:PV):Decidable (AQ p):=inferInstanceAs (Decidable (∀ i∈p.code,_))
theorem QV {i:Sl.Instr} (rs:List (List Int)) (h:¬(i.op=6∨i.op=8)):∃ x,zP i rs=some x:=by
 unfold zP;by_cases h1:i.op=2
 · exact ⟨_,aM h1⟩
 by_cases h2:i.op=3
 · exact ⟨_,by simp only [h1,fJ];rw [aM h2]⟩
 by_cases h3:i.op=4
 · exact ⟨_,by simp only [h1,h2,fJ];rw [aM h3]⟩
 by_cases h4:i.op=5∨i.op=7
 · exact ⟨_,by simp only [h1,h2,h3,fJ];rw [aM h4]⟩
 exact ⟨_,by simp only [h1,h2,h3,h4,h,fJ];rfl⟩
theorem Pq {p:PV} (h:AQ p) (gs:List (List Int)):∀ k:Nat,k≤p.code.length→∃ rs,zG p gs k=some rs
 | 0,_=>⟨_,U⟩
 | k+1,hk=>by
   obtain ⟨rs,h1⟩:=Pq h gs k uJ;have hm:p.code[(k:Int).toNat]?.getD default∈p.code:=by
    rw [aH,aA uJ];exact dY _
   obtain ⟨x,h2⟩:=QV rs (h _ hm);exact ⟨_,Hc (x:=rs) h1 h2⟩
theorem Xw {p:PV} (h:AQ p) (gs:List (List Int)):∃ os,vH p gs=some os:=by
 obtain ⟨rs,h1⟩:=Pq h gs _ (aG _);exact ⟨_,by unfold vH;rw [h1];rfl⟩
def xH (p:PV) (k:Int) (l:List R2):Prop:=p.ins=k∧p.outs.length=l.length∧AQ p∧vH p (xW k.toNat)=some (l.map fun q=>yP q.a q.b k.toNat)
instance (p:PV) (k:Int) (l:List R2):Decidable (xH p k l):=inferInstanceAs (Decidable (_∧_))
theorem QW {os:List (List Int)} {l:List R2} {k:Nat} (hl:os.length=l.length):(os=l.map fun q=>yP q.a q.b k)↔∀ t:Nat,t<l.length→os[t]?.getD []=yP (l[t]?.getD default).a (l[t]?.getD default).b k:=by
 constructor
 · intro h t ht;rw [h,bJ,aA ht];rfl
 intro h;refine dW fun i=>?_;rcases aK i l.length with h1 | h1
 · have:=h i h1;rw [aA uJ,kF] at this;rw [aA uJ,bJ,this,aA h1];rfl
 rw [bF uJ,bF (by rw [aW];omega)]
theorem WT {xs ys:List Int} {k:Nat} (h1:xs.length=k) (h2:ys.length=k):xs=ys↔∀ t:Nat,t<k→xs[t]?.getD 0=ys[t]?.getD 0:=by
 constructor
 · intro h t _;rw [h]
 intro h;refine dW fun i=>?_;rcases aK i k with h3 | h3
 · have:=h i h3;rw [aA uJ,aA uJ] at this ⊢;exact congrArg some this
 rw [bF uJ,bF uJ]
theorem Pr (a b:Int) (k:Nat):(yP a b k).length=k:=by unfold yP;rw [aW,dO]
def wG (k:Int):Prop:=1≤k∧k≤8
instance (k:Int):Decidable (wG k):=inferInstanceAs (Decidable (_∧_))
def Jh (l:List R2):Prop:=∀ i:Nat,i<l.length→yN (l[i]?.getD default).a (l[i]?.getD default).b
def Bq (l:List R2):Prop:=∃ i:Nat,i<l.length∧((l[i]?.getD default).a=0∧(l[i]?.getD default).b=0)
open Classical in
def vR (k1 k2:Int) (l:List R2):Int:=
 if ¬(wG k1∧wG k2) then 70 else if ¬Jh l then 70 else if ¬((l.length:Int)=k1+k2 - 1) then 71 else if Bq l∨Twin l then 71 else 0
theorem Ji {k1 k2:Int} {l:List R2} (h:¬(wG k1∧wG k2)):vR k1 k2 l=70:=by unfold vR;rw [aM h]
theorem AR {k1 k2:Int} {l:List R2} (h:¬Jh l):vR k1 k2 l=70:=by
 unfold vR;by_cases h1:¬(wG k1∧wG k2)
 · rw [aM h1]
 rw [aE h1,aM h]
theorem Us {k1 k2:Int} {l:List R2} (h1:wG k1∧wG k2) (h2:Jh l) (h:¬((l.length:Int)=k1+k2 - 1)):vR k1 k2 l=71:=by
 unfold vR;rw [aE (fun h=>h h1),aE (fun h=>h h2),aM h]
theorem Le {k1 k2:Int} {l:List R2} (h1:wG k1∧wG k2) (h2:Jh l) (h:Bq l∨Twin l):vR k1 k2 l=71:=by
 unfold vR;rw [aE (fun h=>h h1),aE (fun h=>h h2)];by_cases h3:¬((l.length:Int)=k1+k2 - 1)
 · rw [aM h3]
 rw [aE h3,aM h]
theorem QX {k1 k2:Int} {l:List R2} (h1:wG k1∧wG k2) (h2:Jh l) (h3:(l.length:Int)=k1+k2 - 1) (h:¬(Bq l∨Twin l)):vR k1 k2 l=0:=by
 unfold vR;rw [aE (fun h=>h h1),aE (fun h=>h h2),aE (fun h=>h h3),aE h]
theorem Al {k1 k2:Int} {l:List R2} (h:vR k1 k2 l=0):wG k1∧wG k2∧(l.length:Int)=k1+k2 - 1∧yO l:=by
 by_cases h1:wG k1∧wG k2
 · by_cases h2:Jh l
   · by_cases h3:(l.length:Int)=k1+k2 - 1
     · by_cases h4:Bq l∨Twin l
       · rw [Le h1 h2 h4] at h;omega
       refine ⟨h1.1,h1.2,h3,?_,?_,fun i hi=>⟨h2 i hi,fun h5=>h4 (.inl ⟨i,hi,h5⟩)⟩,fun h5=>h4 (.inr h5)⟩
       · have:=h1.1.1;have:=h1.2.1;omega
       have:=h1.1.2;have:=h1.2.2;omega
     rw [Us h1 h2 h3] at h;omega
   rw [AR h2] at h;omega
 rw [Ji h1] at h;omega
open Classical in
def vN (k1 k2:Int) (l:List R2) (x y z:PV):Int×Int:=
 if ¬vR k1 k2 l=0 then (0,vR k1 k2 l)
 else if ¬uY x=true then (1,80) else if ¬xH x k1 l then (1,180)
 else if ¬uY y=true then (2,80) else if ¬xH y k2 l then (2,180)
 else if ¬uY z=true then (3,80) else if ¬wF z l then (3,180) else (0,0)
end Go.Proofs.YtngphgeghfdjbaaGreatDoor
namespace Go.Proofs.YtngphgeghfdjbaaGreatDoor
open Go Go.Sl Go.ChangeShapes Go.WideShapes Go.RowKit Go.Joins
theorem QY {H:Type} (d:DataW H):1≤Rows.uptoBulk d:=by
 cases d with
 | lit l=>cases l <;> simp [Rows.uptoBulk]
 | nil=>simp [Rows.uptoBulk]
 | ptr d=>simp [Rows.uptoBulk]
 | slice elems spare=>simp [Rows.uptoBulk]
 | agg parts=>simp [Rows.uptoBulk]
 | iface t d=>simp [Rows.uptoBulk]
 | map vI=>simp [Rows.uptoBulk]
 | held h=>simp [Rows.uptoBulk]
theorem QZ {H:Type} (l:List (DataW H)):l.length≤Rows.uptoBulkAll l:=by
 induction l with
 | nil=>simp [Rows.uptoBulkAll]
 | cons x r ih=>have:=QY x;simp only [Rows.uptoBulkAll,bN];omega
theorem Dx {H:Type} (l r:List (DataW H)):l.length≤Rows.uptoBulk (.slice l r):=by
 have:=QZ l;simp only [Rows.uptoBulk];omega
theorem AS:Tryz.prog.underlying 3=some (.int .i64):=uO
theorem Hg:Tryz.prog.cellsOf 3=1:=uO
theorem WU:Tryz.prog.cellsOf 22=1:=uO
theorem WV:Tryz.prog.cellsOf 23=1:=uO
theorem WW:Tryz.prog.cellsOf 24=1:=uO
theorem Xx:Tryz.prog.cellsOf 26=4:=uO
theorem WX:Tryz.prog.cellsOf 28=15:=uO
theorem HV:Tryz.prog.cellsOf 51=2:=uO
theorem HW:Tryz.prog.cellsOf 211=5:=uO
section
variable {H:Type} {enc:TypeId×Value→H}
theorem bi {P:Program} {W:World} {E Ti:TypeId} {f0 f1:Field} (hi:P.underlying Ti=some (.int .i64)) (hs:P.underlying E=some (.struct #[f0,f1]))
 (h0:f0.type=Ti∧f0.offset=0) (h1:f1.type=Ti∧f1.offset=1) (hc:P.cellsOf Ti=1) (hcE:P.cellsOf E=2) :
 om (α:=R2) enc P W E (fun _ _=>True):=fun n cs x h=>by
 obtain ⟨xs,m,_,_,hl,hxl,hf⟩:=qU hs h;rw [hcE] at hl
 match cs,hl with
 | [v0,v1],_ =>
   have hxl':xs.length=2:=hxl
   match xs,hxl' with
   | [y0,y1],_ =>
     have k0:=hf 0 f0 U;have k1:=hf 1 f1 U;rw [h0.1,h0.2,hc] at k0;rw [h1.1,h1.2,hc] at k1;obtain ⟨a0,e0,_,_⟩:=iI hi k0;obtain ⟨a1,e1,_,_⟩:=iI hi k1;simp at e0 e1;exact ⟨⟨a0,a1⟩,by rw [e0,e1];rfl,I8⟩
theorem LL {W:World} {n:Nat} {v:Value} {d:DataW H×List MemPlace} (h:DataW.trod enc Tryz.prog W 0 (fun _=>true) true n 22 [v]=some d) :
 ∃ (a:Option Addr) (c:Nat) (l:List R2),v=.slice a l.length c∧Arr (yX W) a l∧l.length≤c∧l.length≤Rows.uptoBulk d.1:=by
 obtain ⟨a,c,xs,e,hA,hl,hd⟩:=Ir (α:=R2) Tryz.underlying22 HV uR (bi AS Tryz.underlying51 ⟨U,U⟩ ⟨U,U⟩ Hg HV) h;simp only [jD,and_true] at e;refine ⟨a,c,xs,e,hA,hl,?_⟩;rcases hd with ⟨_,rfl⟩ | ⟨l,r,e,hl,_⟩
 · exact aS _
 rw [e,←hl];exact Dx l r
theorem Hh {W:World} {n:Nat} {v0 v1 v2 v3:Value} {y:DataW H×List MemPlace} (h:DataW.trod enc Tryz.prog W 0 (fun _=>true) true n 26 [v0,v1,v2,v3]=some y) :
 ∃ (p:PV) (ac ao:Option Addr) (cc co:Nat),[v0,v1,v2,v3]=[.int .i64 p.ins,.int .i64 p.regs,.slice ac p.code.length cc,.slice ao p.outs.length co]∧Arr (yX W) ac p.code∧Arr (yX W) ao p.outs∧
  p.code.length≤Rows.uptoBulk y.1∧p.outs.length≤Rows.uptoBulk y.1:=by
 obtain ⟨xs,m,_,e,hl,hxl,hf⟩:=qU Tryz.underlying26 h;have hxl':xs.length=4:=hxl
 match xs,hxl' with
 | [y0,y1,y2,y3],_ =>
   have h0:DataW.trod enc Tryz.prog W 0 (fun _=>true) true m 3 (List.take (Tryz.prog.cellsOf 3) (List.drop 0 [v0,v1,v2,v3]))=some y0:=hf 0 _ U;have h1:DataW.trod enc Tryz.prog W 0 (fun _=>true) true m 3 (List.take (Tryz.prog.cellsOf 3) (List.drop 1 [v0,v1,v2,v3]))=some y1:=hf 1 _ U;have h2:DataW.trod enc Tryz.prog W 0 (fun _=>true) true m 23 (List.take (Tryz.prog.cellsOf 23) (List.drop 2 [v0,v1,v2,v3]))=some y2:=hf 2 _ U;have h3:DataW.trod enc Tryz.prog W 0 (fun _=>true) true m 24 (List.take (Tryz.prog.cellsOf 24) (List.drop 3 [v0,v1,v2,v3]))=some y3:=hf 3 _ U;rw [Hg] at h0;rw [Hg] at h1;rw [WV] at h2;rw [WW] at h3;obtain ⟨k0,e0,_,_⟩:=iI AS h0;obtain ⟨k1,e1,_,_⟩:=iI AS h1;obtain ⟨a2,c2,xs,e2,ha2,hl2,hd2⟩:=Ir (α:=Sl.Instr) Tryz.underlying23 HW uR (KT AS Tryz.underlying211 ⟨U,U⟩ ⟨U,U⟩ ⟨U,U⟩ ⟨U,U⟩ ⟨U,U⟩ Hg HW) h2;obtain ⟨a3,c3,ys,e3,ha3,hl3,hd3⟩:=Ir (α:=Int) Tryz.underlying24 Hg uR (HM AS) h3;replace e0:[v0]=[.int .i64 k0]:=e0;replace e1:[v1]=[.int .i64 k1]:=e1;replace e2:[v2]=[.slice a2 xs.length c2]:=e2;replace e3:[v3]=[.slice a3 ys.length c3]:=e3;simp only [jD,and_true] at e0 e1 e2 e3;subst e0 e1 e2 e3;have b2:xs.length≤Rows.uptoBulk y2.1:=by
    rcases hd2 with ⟨_,rfl⟩ | ⟨l,r,e,hl,_⟩
    · exact aS _
    rw [e,←hl];exact Dx l r
   have b3:ys.length≤Rows.uptoBulk y3.1:=by
    rcases hd3 with ⟨_,rfl⟩ | ⟨l,r,e,hl,_⟩
    · exact aS _
    rw [e,←hl];exact Dx l r
   refine ⟨⟨k0,k1,xs,ys⟩,a2,a3,c2,c3,U,ha2,ha3,?_,?_⟩
   · rw [e];simp only [Rows.uptoBulk,Rows.uptoBulkAll,cA,jO];omega
   rw [e];simp only [Rows.uptoBulk,Rows.uptoBulkAll,cA,jO];omega
theorem LN {W:World} {r:Reach} {b0:Nat} {v:Value} {d:DataW H} {ps:List MemPlace} (hv:Value.okWide Tryz.prog W r b0 28 v) (h:DataW.Trod enc Tryz.prog W 0 (fun _=>true) true 28 v d ps) :
 ∃ (k1 k2:Int) (pl:List R2) (pa:Option Addr) (pc:Nat) (xp yp zp:PV) (xac xao yac yao zac zao:Option Addr) (xcc xoc ycc yoc zcc zoc:Nat),
  v=.agg #[.int .i64 k1,.int .i64 k2,.slice pa pl.length pc,.int .i64 xp.ins,.int .i64 xp.regs,.slice xac xp.code.length xcc,.slice xao xp.outs.length xoc,.int .i64 yp.ins,.int .i64 yp.regs,.slice yac yp.code.length ycc,.slice yao yp.outs.length yoc,.int .i64 zp.ins,.int .i64 zp.regs,.slice zac zp.code.length zcc,.slice zao zp.outs.length zoc]∧Arr (yX W) pa pl∧pl.length≤pc∧pl.length≤Rows.uptoBulk d∧
  Arr (yX W) xac xp.code∧Arr (yX W) xao xp.outs∧xp.code.length≤Rows.uptoBulk d∧xp.outs.length≤Rows.uptoBulk d∧Arr (yX W) yac yp.code∧Arr (yX W) yao yp.outs∧yp.code.length≤Rows.uptoBulk d∧yp.outs.length≤Rows.uptoBulk d∧Arr (yX W) zac zp.code∧Arr (yX W) zao zp.outs∧zp.code.length≤Rows.uptoBulk d∧zp.outs.length≤Rows.uptoBulk d:=by
 obtain ⟨cs,rfl,hsz⟩:=okWide_struct Tryz.underlying28 hv;obtain ⟨n,h⟩:=h;rw [WX] at hsz;obtain ⟨a0,a1,a2,a3,a4,a5,a6,a7,a8,a9,a10,a11,a12,a13,a14,rfl⟩:∃ a0 a1 a2 a3 a4 a5 a6 a7 a8 a9 a10 a11 a12 a13 a14:Value,cs=#[a0,a1,a2,a3,a4,a5,a6,a7,a8,a9,a10,a11,a12,a13,a14]:=by
  match cs,hsz with
  | ⟨[a0,a1,a2,a3,a4,a5,a6,a7,a8,a9,a10,a11,a12,a13,a14]⟩,_=>exact ⟨a0,a1,a2,a3,a4,a5,a6,a7,a8,a9,a10,a11,a12,a13,a14,U⟩
 obtain ⟨xs,m,_,e,hl,hxl,hf⟩:=qU Tryz.underlying28 h;have hxl':xs.length=6:=hxl
 match xs,hxl' with
 | [y0,y1,y2,y3,y4,y5],_ =>
   have h0:DataW.trod enc Tryz.prog W 0 (fun _=>true) true m 3 (List.take (Tryz.prog.cellsOf 3) (List.drop 0 [a0,a1,a2,a3,a4,a5,a6,a7,a8,a9,a10,a11,a12,a13,a14]))=some y0:=hf 0 _ U;have h1:DataW.trod enc Tryz.prog W 0 (fun _=>true) true m 3 (List.take (Tryz.prog.cellsOf 3) (List.drop 1 [a0,a1,a2,a3,a4,a5,a6,a7,a8,a9,a10,a11,a12,a13,a14]))=some y1:=hf 1 _ U;have h2:DataW.trod enc Tryz.prog W 0 (fun _=>true) true m 22 (List.take (Tryz.prog.cellsOf 22) (List.drop 2 [a0,a1,a2,a3,a4,a5,a6,a7,a8,a9,a10,a11,a12,a13,a14]))=some y2:=hf 2 _ U;have h3:DataW.trod enc Tryz.prog W 0 (fun _=>true) true m 26 (List.take (Tryz.prog.cellsOf 26) (List.drop 3 [a0,a1,a2,a3,a4,a5,a6,a7,a8,a9,a10,a11,a12,a13,a14]))=some y3:=hf 3 _ U;have h4:DataW.trod enc Tryz.prog W 0 (fun _=>true) true m 26 (List.take (Tryz.prog.cellsOf 26) (List.drop 7 [a0,a1,a2,a3,a4,a5,a6,a7,a8,a9,a10,a11,a12,a13,a14]))=some y4:=hf 4 _ U;have h5:DataW.trod enc Tryz.prog W 0 (fun _=>true) true m 26 (List.take (Tryz.prog.cellsOf 26) (List.drop 11 [a0,a1,a2,a3,a4,a5,a6,a7,a8,a9,a10,a11,a12,a13,a14]))=some y5:=hf 5 _ U;rw [Hg] at h0;rw [Hg] at h1;rw [WU] at h2;rw [Xx] at h3;rw [Xx] at h4;rw [Xx] at h5;obtain ⟨k1,e0,_,_⟩:=iI AS h0;obtain ⟨k2,e1,_,_⟩:=iI AS h1;obtain ⟨pa,pc,pl,e2,hpa,hpc,hpb⟩:=LL (v:=a2) h2;obtain ⟨xp,xac,xao,xcc,xoc,e3,hxc,hxo,hx1,hx2⟩:=Hh (v0:=a3) (v1:=a4) (v2:=a5) (v3:=a6) h3;obtain ⟨yp,yac,yao,ycc,yoc,e4,hyc,hyo,hy1,hy2⟩:=Hh (v0:=a7) (v1:=a8) (v2:=a9) (v3:=a10) h4;obtain ⟨zp,zac,zao,zcc,zoc,e5,hzc,hzo,hz1,hz2⟩:=Hh (v0:=a11) (v1:=a12) (v2:=a13) (v3:=a14) h5;replace e0:[a0]=[.int .i64 k1]:=e0;replace e1:[a1]=[.int .i64 k2]:=e1;simp only [jD,and_true] at e0 e1 e3 e4 e5;obtain ⟨e30,e31,e32,e33⟩:=e3;obtain ⟨e40,e41,e42,e43⟩:=e4;obtain ⟨e50,e51,e52,e53⟩:=e5;subst e0 e1 e2 e30 e31 e32 e33 e40 e41 e42 e43 e50 e51 e52 e53;have ed:d=.agg [y0.1,y1.1,y2.1,y3.1,y4.1,y5.1]:=(Prod.mk.inj e).1;have hb:Rows.uptoBulk y2.1≤Rows.uptoBulk d∧Rows.uptoBulk y3.1≤Rows.uptoBulk d∧Rows.uptoBulk y4.1≤Rows.uptoBulk d∧Rows.uptoBulk y5.1≤Rows.uptoBulk d:=by
    rw [ed];simp only [Rows.uptoBulk,Rows.uptoBulkAll];omega
   exact ⟨k1,k2,pl,pa,pc,xp,yp,zp,xac,xao,yac,yao,zac,zao,xcc,xoc,ycc,yoc,zcc,zoc,U,hpa,hpc,by omega,hxc,hxo,by omega,by omega,hyc,hyo,by omega,by omega,hzc,hzo,by omega,by omega⟩
end
end Go.Proofs.YtngphgeghfdjbaaGreatDoor
namespace Go.Proofs.YtngphgeghfdjbaaGreatDoor
open Go Go.Sl
theorem WY {k m n:Nat} (hx:2 ^ k*(2*m+1)<2 ^ n):(2 ^ k*(2*m+1)) &&& (2 ^ n - 2 ^ k*(2*m+1))=2 ^ k:=by
 have hp:0<2 ^ k:=iP uR;have hpos:=pL hp (show 0<2*m+1 by omega);obtain ⟨x,hxe⟩:∃ x,x+1=2 ^ k*(2*m+1):=⟨2 ^ k*(2*m+1) - 1,by omega⟩
 have hxe2:x=2 ^ k*(2*m)+(2 ^ k - 1):=by rw [pM,jT] at hxe;omega
 refine Nat.eq_of_testBit_eq fun i=>?_;rw [Nat.testBit_and];have h1:(2 ^ n - 2 ^ k*(2*m+1)).testBit i=(decide (i<n) && !x.testBit i):=by
  rw [←hxe];exact Nat.testBit_two_pow_sub_succ uJ i
 have h2:(2 ^ k*(2*m+1)).testBit i=(if i<k then Nat.testBit 0 i else (2*m+1).testBit (i - k)):=by
  have:=Nat.testBit_two_pow_mul_add (2*m+1) (show 0<2 ^ k from hp) i;rw [fQ] at this;exact this
 have h3:x.testBit i=(if i<k then (2 ^ k - 1).testBit i else (2*m).testBit (i - k)):=by
  rw [hxe2];exact Nat.testBit_two_pow_mul_add (2*m) uJ i
 rw [h1,h2,h3,Nat.testBit_two_pow];by_cases hik:i<k
 · rw [aM hik,uD,Bool.false_and,cM uJ]
 rw [aE hik,aE hik];have hn:k<n:=(nJ uR).1 (kM (jX _ uJ) hx);by_cases he:i=k
 · subst he;rw [iW,Nat.testBit_zero,Nat.testBit_zero,cX hn,cX (show (2*m+1) % 2=1 by omega),cM (show ¬(2*m) % 2=1 by omega),cX rfl];rfl
 obtain ⟨d,hd⟩:∃ d,i - k=d+1:=⟨i - k - 1,by omega⟩
 rw [hd,Nat.testBit_succ,Nat.testBit_succ,show (2*m+1) / 2=m by omega,show 2*m / 2=m by omega,cM (show ¬k=i by omega)];cases m.testBit d <;> simp
def ES:List Int:=[0,1,28,2,29,14,24,3,30,22,20,15,25,17,4,8,31,27,13,23,21,19,16,7,26,12,18,6,11,5,10,9]
def AT:List Value:=ES.map fun n=>.int .u8 n
def C6 (G:A3):Prop:=∀ k v,AT[k]?=some v→G.cell 0 k=some v
theorem C6.up {G G':A3} (h:C6 G) (hl:G.le G'):C6 G':=fun k v hv=>Mh hl (h k v hv)
theorem LO:∀ k:Fin 32,ES[2 ^ k.val*125613361 % 4294967296 / 134217728]?=some (k.val:Int):=Ej
theorem RA (k:Fin 32):AT[2 ^ k.val*125613361 % 4294967296 / 134217728]?=some (.int .u8 (k.val:Int)):=by
 unfold AT;rw [bJ,LO];rfl
theorem rf (G:A3) (hT:C6 G) (k m:Nat) (hb:2 ^ k*(2*m+1)<2 ^ 32):Does Tryz.prog 268 [.int .u32 ((2 ^ k*(2*m+1):Nat):Int)] G [] (fun v G' Ho=>v=.int .i64 (k:Int)∧G'=G∧Ho=[]):=by
 have hp:0<2 ^ k:=iP uR;have hpos:=pL hp (show 0<2*m+1 by omega);have hk:k<32:=(nJ uR).1 (kM (jX _ uJ) hb);have hl:=WY hb;obtain ⟨x,hx⟩:∃ x,x=2 ^ k*(2*m+1):=⟨_,U⟩
 rw [←hx] at hb hl hpos ⊢;have ht:=RA ⟨k,hk⟩;have hcell:=hT _ _ ht;have hp2:2 ^ k<4294967296:=bW (Nat.pow_lt_pow_right uR hk) uR;have ha:bits .and .u32 (x:Int) (IntKind.u32.wrap (0 - (x:Int)))=((2 ^ k:Nat):Int):=by
  have e:IntKind.u32.wrap (0 - (x:Int))=((2 ^ 32 - x:Nat):Int):=by
   show (0 - (x:Int)) % 4294967296=_;omega
  rw [e,Kz _ _ uJ uJ,hl]
 have hm:IntKind.u32.wrap (((2 ^ k:Nat):Int)*125613361)=((2 ^ k*125613361 % 4294967296:Nat):Int):=by
  show (((2 ^ k:Nat):Int)*125613361) % 4294967296=_;omega
 have hd:Int.fdiv ((2 ^ k*125613361 % 4294967296:Nat):Int) (2 ^ 27)=((2 ^ k*125613361 % 4294967296 / 134217728:Nat):Int):=by
  rw [qM _ uR];show ((2 ^ k*125613361 % 4294967296:Nat):Int) / 134217728=_;omega
 have hr:2 ^ k*125613361 % 4294967296 / 134217728<32:=uJ;generalize 2 ^ k*125613361 % 4294967296 / 134217728=j at *;refine bU Tryz.func268 U Tryz.ntmps268 U fun w=>?_;refine bP ?_;refine aZ U ?_;refine aU U (cG U) ?_;refine bT ?_;refine bE ?_;refine bP ?_;refine bP ?_;refine aZ U ?_;refine aU U (cT U) ?_;refine aU U (uB U U) ?_;refine bT ?_;refine bE ?_;refine iE U vG ?_;refine iU ?_;refine bE ?_;refine bP ?_;refine aZ U ?_;refine aU U (cT U) ?_;refine aU U (cT U) ?_;refine aU U (nN U) ?_;refine aU U (nO U U) ?_;refine aU U (nC U U) ?_;refine aU U (pO U U uJ) ?_;refine jB 10 U (show _=Value.int .u32 (j:Int) by
  show Value.int .u32 (Int.fdiv (IntKind.u32.wrap (bits .and .u32 (x:Int) (IntKind.u32.wrap (0 - (x:Int)))*125613361)) (2 ^ 27))=_;rw [ha,hm,hd]) ?_
 refine aU U (fV j T.ar394 U U (cX uJ) (by show Nat.beq (Int.toNat (j:Int)*1) j=true;rw [aH,jT];exact Nat.beq_refl j)) ?_;refine aU U (cS T.one5 U (by rw [cF];exact hcell)) ?_;refine aU U (PB U T.u3 U uJ) ?_;refine aU U (cG U) ?_;refine bT ?_;refine bE ?_;refine kK ?_;refine cP (.inr U) (Ho:=Hp.only _ []) U (.tmp U) (aV _ _) ?_;exact ⟨U,U,U⟩
theorem bj {x:Int} (h:0<x∧x<4294967296):∃ k m:Nat,x=((2 ^ k*(2*m+1):Nat):Int)∧k<32∧2 ^ k*(2*m+1)<2 ^ 32:=by
 have key:∀ n:Nat,0<n→∃ k m:Nat,n=2 ^ k*(2*m+1):=by
  intro n;induction n using Nat.strongRecOn with
  | ind n ih =>
    intro hn;rcases Nat.mod_two_eq_zero_or_one n with h0 | h1
    · obtain ⟨k,m,e⟩:=ih (n / 2) uJ uJ;refine ⟨k+1,m,?_⟩;rw [dM,Nat.mul_right_comm,←e];omega
    exact ⟨0,n / 2,by omega⟩
 obtain ⟨k,m,e⟩:=key x.toNat uJ;have hb:2 ^ k*(2*m+1)<2 ^ 32:=by rw [←e];omega
 refine ⟨k,m,by rw [←e];omega,(nJ uR).1 (kM (jX _ uJ) hb),hb⟩
theorem WZ {la:List A4} {i k m:Nat} (hd:A6 la) (h0:uM (la.take i)=0) (hi:i<la.length) (hx:lg la i=((2 ^ k*(2*m+1):Nat):Int)) (hk:k<32) :
 ∃ q:Nat,uM la=((2 ^ (32*i+k)*(2*q+1):Nat):Int):=by
 have h1:=yT la (show i+1≤la.length by omega);rw [vM,h0,hx,iM,yI] at h1;have hr:=vD (show A6 (la.drop (i+1)) from fun x hx=>hd x (sG hx));obtain ⟨R,hR⟩:=Int.eq_ofNat_of_zero_le hr;rw [hR] at h1;have hp:=QI i 0;rw [iK,Int.natCast_one,gR,fQ] at hp;have h32:2 ^ k*2 ^ (31 - k)*2=4294967296:=by rw [←kX,show k+(31 - k)=31 by omega]
 refine ⟨m+2 ^ (31 - k)*R,?_⟩;rw [h1,hp,kX];have e:2 ^ (32*i)*2 ^ k*(2*(m+2 ^ (31 - k)*R)+1)=2 ^ (32*i)*(2 ^ k*(2*m+1))+4294967296*2 ^ (32*i)*R:=by
  rw [←h32,show 2*(m+2 ^ (31 - k)*R)+1=(2*m+1)+2*(2 ^ (31 - k)*R) by omega,pM,pG (2 ^ (32*i)),pM,pG (2 ^ (32*i))];congr 1;generalize 2 ^ (32*i)=A;generalize 2 ^ k=B;generalize 2 ^ (31 - k)=C;rw [pG B C 2,eG C 2];simp only [pG,Nat.mul_left_comm]
 rw [e];simp only [pQ,dS];rfl
section
attribute [local irreducible] uM pb vJ
theorem rg (G:A3) (hT:C6 G) (a:Option Addr) (ca:Nat) (la:List A4) (ha:Arr G a la) (da:A6 la) (h1:la.length≤1073741824) (h0:uM la≠0) :
 Does Tryz.prog 320 [.slice a la.length ca] G [] (fun v G' Ho=>∃ t m:Nat,v=.int .i64 (t:Int)∧uM la=((2 ^ t*(2*m+1):Nat):Int)∧t≤34359738368∧G'=G∧Ho=[]):=by
 refine bU Tryz.func320 U Tryz.ntmps320 U fun w=>?_;refine bP ?_;refine aZ U ?_;refine aU U (cG U) ?_;refine bT ?_;refine bE ?_;refine bP ?_;refine bP ?_;refine aZ U ?_;refine aU U (cT U) ?_;refine aU U (pP T.sl87 U) ?_;refine aU U (cT U) ?_;refine bT ?_;refine bE ?_;refine lD ?_;refine mW (ι:=Nat) (fun i=>([(7,.int .i64 (i:Int)),(6,Go.Value.int Go.IntKind.i64 (↑(List.length la):Int)),(5,Go.Value.slice a (List.length la) ca)],[])) (fun i=>i≤la.length∧uM (la.take i)=0) (fun i=>la.length - i) (0) (⟨aS _,by rw [bX,vF]⟩) ⟨U,U,U,I8⟩ I8 fun i=>fun hk=>?_;obtain ⟨hi,hz⟩:=hk;have hia:i<la.length:=by
  rcases aK i la.length with h | h
  · exact h
  exact absurd (by rw [vB h] at hz;exact hz) h0
 have ex:(la[(i:Int).toNat]?.getD default).v=lg la i:=rfl;have hx:=Aw da hia;by_cases hp:0<lg la i
 · obtain ⟨k,m,he,hk,hb⟩:=bj ⟨hp,hx.2⟩;obtain ⟨q,hq⟩:=WZ da hz hia he hk;refine bP ?_;refine aZ U ?_;refine aU U (oX U U) ?_;refine bT ?_;refine bE ?_;refine bP ?_;refine pK U vG ?_;refine iU ?_;refine bE ?_;refine bP ?_;refine lD ?_;refine bP ?_;refine aZ U ?_;refine aU U (cT U) ?_;refine aU U (jH (α:=A4) T.sl87 U U uK uJ) ?_;refine aU U (cS T.one166 U (gZ uK uJ 0 U U)) ?_;refine aU U (cG U) ?_;refine aU U (cG U) ?_;refine bT ?_;refine bE ?_;refine bP ?_;refine aZ U ?_;refine aU U (cT U) ?_;refine aU U (Qy.gtr U U) ?_;refine bT ?_;refine bE ?_;refine pK U vG ?_;refine bP ?_;refine aZ U ?_;refine aU U (cT U) ?_;refine aU U (qZ U U uJ) ?_;refine aU U (cT U) ?_;refine jB 16 U (show _=Value.int .u32 ((2 ^ k*(2*m+1):Nat):Int) by rw [ex,he]) ?_;refine pF 17 U T.fn268 U (rf _ hT k m hb) (vA I8) fun v1 G1 Ho1 hle1 hp=>?_;obtain ⟨rfl,rfl,rfl⟩:=hp;refine aU U (tC U U uJ) ?_;refine aU U (cG U) ?_;refine bT ?_;refine bE ?_;refine kK ?_;refine pE ?_;refine kQ ?_;refine kQ ?_;refine pE ?_;refine kQ ?_;refine cP (.inr U) (Ho:=Hp.only _ []) U (.tmp U) (aV _ _) ?_;exact ⟨32*i+k,q,by congr 1,hq,by omega,U,U⟩
 have hz2:lg la i=0:=uJ;refine bP ?_;refine aZ U ?_;refine aU U (oX U U) ?_;refine bT ?_;refine bE ?_;refine bP ?_;refine pK U vG ?_;refine iU ?_;refine bE ?_;refine bP ?_;refine lD ?_;refine bP ?_;refine aZ U ?_;refine aU U (cT U) ?_;refine aU U (jH (α:=A4) T.sl87 U U uK uJ) ?_;refine aU U (cS T.one166 U (gZ uK uJ 0 U U)) ?_;refine aU U (cG U) ?_;refine aU U (cG U) ?_;refine bT ?_;refine bE ?_;refine bP ?_;refine aZ U ?_;refine aU U (cT U) ?_;refine aU U (Qy.gtr U U) ?_;refine bT ?_;refine bE ?_;refine iE U vG ?_;refine iU ?_;refine lW ?_;refine bE ?_;refine aZ U ?_;refine aU U (tC U U uJ) ?_;refine aU U (cT U) ?_;refine bT ?_;refine eK ((i+1)) ?_ ?_ U ⟨U,U,U,I8⟩ I8
 · refine ⟨by omega,?_⟩;rw [vM,hz,hz2,bV,cH]
 show la.length - (i+1)<la.length - i;omega
theorem jd (G:A3) (hT:C6 G) (x:IV) (z:Int) (hx:B9 G x z) (h1:x.n≤268435456) (h0:z≠0) :
 Does Tryz.prog 301 [.agg (A2.enc x).toArray] G [] (fun v G' Ho=>∃ t m:Nat,v=.int .i64 (t:Int)∧z.natAbs=2 ^ t*(2*m+1)∧t≤34359738368∧G'=G∧Ho=[]):=by
 obtain ⟨n1,a,k1,ca⟩:=x;obtain ⟨la,hl,hlc,hA,hI⟩:=hx;simp only at hl hlc hA hI h1;subst hl;have da:=hI.digs;have va:=hI.abs;have hs:Jd z≠0:=by unfold Jd;split <;> (try split) <;> omega
 show Does Tryz.prog 301 [.agg #[.bool n1,.slice a la.length ca]] G [] _;refine bU Tryz.func301 U Tryz.ntmps301 U fun w=>?_;refine bP ?_;refine aZ U ?_;refine gU 0 U U U fun b1=>?_;refine aU U (cG U) ?_;refine bT ?_;refine bE ?_;refine bP ?_;refine bP ?_;refine aZ U ?_;refine aU U (rK 0 T.agg89 U U U) ?_;refine rY U T.fn48 U (fy _ _ _ _ _ _ hI uJ) ?_;refine aU U (uB U U) ?_;refine bT ?_;refine bE ?_;refine iE U vG ?_;refine iU ?_;refine bE ?_;refine bP ?_;refine aZ U ?_;refine aU U (iV T.fa89_1 U) ?_;refine aU U (oH 0 T.one87 U U U) ?_;refine pF 8 U T.fn320 U (rg _ hT _ _ _ hA da uJ uJ) (vA I8) fun v1 G1 Ho1 hle1 hp=>?_;obtain ⟨t,m,rfl,ht,ht2,rfl,rfl⟩:=hp;refine aU U (cG U) ?_;refine bT ?_;refine bE ?_;refine kK ?_;refine cP (.inr U) (Ho:=Hp.only _ []) U (.tmp U) (aV _ _) ?_;exact ⟨t,m,U,by omega,ht2,U,U⟩
theorem Xy {α:Type} [A2 α] {G:A3} {a:Option Addr} {c:Nat} {l:List α} (h:Arr G a l) (n:Nat) (hn:n≤l.length) (hc:l.length≤c):Arr G (C4 a c n (A2.sz α)) (l.drop n):=by
 have h1:=I2.sub h hn hc;unfold Arr;have e:uT l=uT (l.take n)++uT (l.drop n):=by rw [←wB,dF]
 have e2:(uT l).drop (n*A2.sz α)=uT (l.drop n):=by
  rw [e,List.drop_left' (by rw [uV,bI,dE hn])]
 rw [←e2,cE];exact h1
theorem je (G:A3) (a:Option Addr) (ca:Nat) (la:List A4) (d s:Nat) (ha:Arr G a la) (da:A6 la) (h1:la.length≤1073741824) (hca:la.length≤ca) (hs:s<32) (hd:d≤1000000000) :
 Does Tryz.prog 204 [.slice a la.length ca,.int .i64 ((32*d+s:Nat):Int)] G [] (fun v G' Ho=>∃ r,v=.tuple #[r,.int .i64 0]∧D4 G' r (uM la / (pb d*((2 ^ s:Nat):Int))) la.length∧Ho=[]):=by
 refine bU Tryz.func204 U Tryz.ntmps204 U fun w=>?_;have ed:((32*d+s:Nat):Int) / 32=(d:Int):=uJ;have es:((32*d+s:Nat):Int) % 32=(s:Int):=uJ;have hP:0<((2 ^ s:Nat):Int):=(yY uJ).choose_spec.2.2;refine bP ?_;refine aZ U ?_;refine aU U (cG U) ?_;refine aU U (cG U) ?_;refine bT ?_;refine bE ?_;refine bP ?_;refine bP ?_;refine aZ U ?_;refine aU U (cT U) ?_;refine aU U (oX U U) ?_;refine bT ?_;refine bE ?_;refine iE U vG ?_;refine iU ?_;refine bE ?_;refine bP ?_;refine aZ U ?_;refine aU U (cT U) ?_;refine pF 0 U T.fn150 U (Iz _ _ _ _ uK uJ vG) (vA I8) fun v1 G1 Ho1 hle1 hp=>?_;obtain ⟨ta1,tm1,rfl,hta1,hte1,htr1,htl1,rfl,rfl⟩:=hp;refine aU U (cG U) ?_;refine bT ?_;refine bE ?_;refine bP ?_;refine bP ?_;refine aZ U ?_;refine aU U (cT U) ?_;refine aU U (nB U U uJ) ?_;refine aU U (cT U) ?_;refine aU U (pP T.sl87 U) ?_;refine aU U (Qy.geq U U) ?_;refine bT ?_;refine bE ?_;refine jF U (fun hc1=>?_) fun hc1=>?_;refine bP ?_;refine aZ U ?_;refine aU U (cG U) ?_;refine aU U (cG U) ?_;refine bT ?_;refine bE ?_;refine kK ?_;refine kQ ?_;refine jZ (.inr U) (Ho:=Hp.only _ []) U (.tmp U) (.tmp U) (aV _ _) ?_;rotate_left;refine iU ?_;refine bE ?_;refine bP ?_;refine aZ U ?_;refine aU U (cT U) ?_;refine aU U (cT U) ?_;refine aU U (nB U U uJ) ?_;refine aU U (Qy.cutL T.sl87 U U uJ uJ) ?_;refine aU U (cG U) ?_;refine bT ?_;refine bE ?_;refine bP ?_;refine aZ U ?_;refine aU U (cT U) ?_;refine aU U (mG U U uJ) ?_;refine aU U (cG U) ?_;refine bT ?_;refine bE ?_;refine bP ?_;refine aZ U ?_;refine aU U (cT U) ?_;refine aU U (pP T.sl87 U) ?_;refine jL (α:=A4) 0 U T.sl87 T.el166 U U uJ uJ fun b1=>?_;refine aU U (cG U) ?_;refine bT ?_;refine bE ?_;refine bP ?_;refine bP ?_;refine aZ U ?_;refine aU U (cT U) ?_;refine aU U (pP T.sl87 U) ?_;refine aU U (cT U) ?_;refine bT ?_;refine bE ?_;refine lD ?_;rotate_left
 · have hle:tm1.length≤d:=uJ;have dm:=xA hte1 da;have hv0:uM la<pb d:=by
    rw [←xK hte1 htr1];exact jJ (wL dm) (Pc hle)
   have hv1:0≤uM la:=vD da;refine ⟨_,U,⟨none,[],U,oT _,A6.nil,E8.nil,?_,aS _⟩,U⟩;rw [vF,lS hv1 (by
    have:=bG (show 1≤((2 ^ s:Nat):Int) by omega) (cN (xV d));omega)]
 have dm0:=xA hte1 da;obtain ⟨tb,htb⟩:∃ tb,tb=C4 ta1 tm1.length d 1:=⟨_,U⟩
 obtain ⟨tq,htqe⟩:∃ tq,tq=tm1.drop d:=⟨_,U⟩
 have htq:Arr G1 tb tq:=by
  rw [htb,htqe];exact Xy (α:=A4) hta1 d uJ (aG _)
 have dm:A6 tq:=by rw [htqe];exact fun x hx=>dm0 x (sG hx)
 have htn:tq.length=tm1.length - d:=by rw [htqe,cE]
 have hval2:uM la / (pb d*((2 ^ s:Nat):Int))=uM tq / ((2 ^ s:Nat):Int):=by
  rw [←xK hte1 htr1,yT tm1 (show d≤tm1.length by omega),←htqe,←Int.ediv_ediv_of_nonneg (cN (xV d)),rU _ _ (oO (xV d)),lS (vD (dm0.take d)) (by
   have:=wL (dm0.take d);rw [bI,dE uJ] at this;exact this),iM]
 obtain ⟨N,hN⟩:∃ N,N=tq.length:=⟨_,U⟩
 have hM:(((tm1.length - (((32*d+s:Nat):Int) / 32).toNat:Nat):Int)).toNat=N:=uJ;rw [hM];have hown:∀ r:List A4,r.length=N→A5 (some ⟨b1,0,none⟩) N r []:=fun r hr=>.inr ⟨b1,U,by rw [hr];rfl,by omega,by simp only [maxLen];omega⟩;refine iD 7 U (show _=Value.slice (some ⟨b1,0,none⟩) (List.replicate N (default:A4)).length N by rw [aC]) ?_;refine iD 6 U (show _=Value.int .i64 (s:Int) by rw [es]) ?_;refine iD 0 U (show _=Value.slice tb tq.length tq.length by rw [ed,htb,htn,aH]) ?_;refine iD 29 U (show _=Value.slice tb tq.length tq.length by rw [ed,htb,htn,aH]) ?_;refine iD 30 U (show _=Value.int .i64 (tq.length:Int) by rw [ed,htn,aH]) ?_;refine mW (ι:=Nat×List A4) (fun (i,r)=>([(31,.int .i64 (i:Int)),(7,.slice (some ⟨b1,0,none⟩) r.length N),(30,Go.Value.int Go.IntKind.i64 (↑(List.length tq):Int)),(29,Go.Value.slice tb (List.length tq) (List.length tq)),(0,Go.Value.slice tb (List.length tq) (List.length tq)),(6,Go.Value.int Go.IntKind.i64 (↑s:Int)),(5,Go.Value.int Go.IntKind.i64 0),(4,Go.Value.slice Option.none 0 0)],[(0,some b1,Row 166 r [])])) (fun (i,r)=>i≤tq.length∧r.length=N∧A6 r∧((2 ^ s:Nat):Int)*uM (r.take i)+lg tq 0 % ((2 ^ s:Nat):Int)=uM (tq.take i)+pb i*(lg tq i % ((2 ^ s:Nat):Int))) (fun (i,r)=>tq.length - i) ((0,List.replicate N (default:A4))) (⟨aS _,aC,nV N,by rw [bX,bX,vF,bV,Is,eO]⟩) ⟨U,U,U,U,U,U,U,U,I8⟩ ⟨U,I8⟩ fun ⟨i,r⟩=>fun hk=>?_;obtain ⟨hi,hrN,hdr,hv⟩:=hk;have hor:=hown r hrN;rcases aK i tq.length with hia | hia
 · have hx:0≤(tq[(i:Int).toNat]?.getD default).v∧(tq[(i:Int).toNat]?.getD default).v<4294967296:=Aw dm hia;have ex:(tq[(i:Int).toNat]?.getD default).v=lg tq i:=rfl;have ex1:(tq[((i:Int)+1).toNat]?.getD default).v=lg tq (i+1):=by unfold lg;rw [show ((i:Int)+1).toNat=((i+1:Nat):Int).toNat by omega]
   have hy:0≤(tq[((i:Int)+1).toNat]?.getD default).v∧(tq[((i:Int)+1).toNat]?.getD default).v<4294967296:=by rw [ex1];exact wD dm _
   by_cases hib:i+1<tq.length
   · refine bP ?_;refine aZ U ?_;refine aU U (oX U U) ?_;refine bT ?_;refine bE ?_;refine bP ?_;refine pK U vG ?_;refine iU ?_;refine bE ?_;refine bP ?_;refine lD ?_;refine bP ?_;refine aZ U ?_;refine aU U (cT U) ?_;refine aU U (jH (α:=A4) T.sl87 U U uK uJ) ?_;refine aU U (cS T.one166 U (gZ uK uJ 0 U U)) ?_;refine aU U (cG U) ?_;refine aU U (cG U) ?_;refine bT ?_;refine bE ?_;refine bP ?_;refine aZ U ?_;refine aU U (cT U) ?_;refine aU U (cI U T.u165 U uJ) ?_;refine aU U (cG U) ?_;refine bT ?_;refine bE ?_;refine bP ?_;refine bP ?_;refine aZ U ?_;refine aU U (cT U) ?_;refine aU U (tC U U uJ) ?_;refine aU U (cT U) ?_;refine aU U (pP T.sl87 U) ?_;refine aU U (oX U U) ?_;refine bT ?_;refine bE ?_;refine pK U vG ?_;refine aZ U ?_;refine aU U (cT U) ?_;refine aU U (cT U) ?_;refine aU U (cT U) ?_;refine aU U (tC U U uJ) ?_;refine aU U (jH (α:=A4) T.sl87 U U uK uJ) ?_;refine aU U (cS T.one166 U (gZ uK uJ 0 U U)) ?_;refine aU U (cI U T.u165 U uJ) ?_;refine aU U (sB U U uJ) ?_;refine aU U (Uj U U uJ uJ) ?_;refine aU U (cG U) ?_;refine bT ?_;refine bE ?_;refine aZ U ?_;refine aU U (cT U) ?_;refine aU U (cT U) ?_;refine aU U (cT U) ?_;refine aU U (cT U) ?_;refine aU U (Nl U U uJ uJ) ?_;refine aU U (hJ U T.u166 U) ?_;refine aU U (dJ (α:=A4) T.sl87 U U uK uJ) ?_;refine fL (z:=_) 0 T.size166 U U U uK uJ U fun ho1=>?_;refine bT ?_;refine lW ?_;refine bE ?_;refine aZ U ?_;refine aU U (tC U U uJ) ?_;refine aU U (cT U) ?_;refine bT ?_;obtain ⟨out,hout⟩:∃ out,out=((tq[((i:Int)+1).toNat]?.getD default).v*4294967296+(tq[(i:Int).toNat]?.getD default).v) / ((2 ^ s:Nat):Int) % 4294967296:=⟨_,U⟩
     have hpart:((2 ^ s:Nat):Int)*out=4294967296*(lg tq (i+1) % ((2 ^ s:Nat):Int))+lg tq i - lg tq i % ((2 ^ s:Nat):Int):=by
      rw [hout,ex,ex1];exact Jb uJ (wD dm i) (wD dm (i+1))
     refine jW 0 (Row 166 (r.set i (⟨out⟩:A4)) []) U GY ?_;refine dH 7 U (show _=Value.slice (some ⟨b1,0,none⟩) (r.set i (⟨out⟩:A4)).length N by rw [aJ]) ?_;refine eK ((i+1,r.set i (⟨out⟩:A4))) ?_ ?_ U ⟨U,U,U,U,U,U,U,U,I8⟩ ⟨U,I8⟩
     · exact ⟨by omega,by rw [aJ];exact hrN,vK hdr _ HB,Jc uJ hv hpart⟩
     show tq.length - (i+1)<tq.length - i;omega
   have hz0:=Dt (show tq.length≤i+1 by omega);refine bP ?_;refine aZ U ?_;refine aU U (oX U U) ?_;refine bT ?_;refine bE ?_;refine bP ?_;refine pK U vG ?_;refine iU ?_;refine bE ?_;refine bP ?_;refine lD ?_;refine bP ?_;refine aZ U ?_;refine aU U (cT U) ?_;refine aU U (jH (α:=A4) T.sl87 U U uK uJ) ?_;refine aU U (cS T.one166 U (gZ uK uJ 0 U U)) ?_;refine aU U (cG U) ?_;refine aU U (cG U) ?_;refine bT ?_;refine bE ?_;refine bP ?_;refine aZ U ?_;refine aU U (cT U) ?_;refine aU U (cI U T.u165 U uJ) ?_;refine aU U (cG U) ?_;refine bT ?_;refine bE ?_;refine bP ?_;refine bP ?_;refine aZ U ?_;refine aU U (cT U) ?_;refine aU U (tC U U uJ) ?_;refine aU U (cT U) ?_;refine aU U (pP T.sl87 U) ?_;refine aU U (oX U U) ?_;refine bT ?_;refine bE ?_;refine iE U vG ?_;refine iU ?_;refine bE ?_;refine aZ U ?_;refine aU U (cT U) ?_;refine aU U (cT U) ?_;refine aU U (cT U) ?_;refine aU U (cT U) ?_;refine aU U (Nl U U uJ uJ) ?_;refine aU U (hJ U T.u166 U) ?_;refine aU U (dJ (α:=A4) T.sl87 U U uK uJ) ?_;refine fL (z:=_) 0 T.size166 U U U uK uJ U fun ho1=>?_;refine bT ?_;refine lW ?_;refine bE ?_;refine aZ U ?_;refine aU U (tC U U uJ) ?_;refine aU U (cT U) ?_;refine bT ?_;obtain ⟨out,hout⟩:∃ out,out=(tq[(i:Int).toNat]?.getD default).v / ((2 ^ s:Nat):Int) % 4294967296:=⟨_,U⟩
   have hpart:((2 ^ s:Nat):Int)*out=4294967296*(lg tq (i+1) % ((2 ^ s:Nat):Int))+lg tq i - lg tq i % ((2 ^ s:Nat):Int):=by
    rw [hout,show (tq[(i:Int).toNat]?.getD default).v=lg tq (i+1)*4294967296+lg tq i by rw [hz0,gM,iM];rfl];exact Jb uJ (wD dm i) (wD dm (i+1))
   refine jW 0 (Row 166 (r.set i (⟨out⟩:A4)) []) U GY ?_;refine dH 7 U (show _=Value.slice (some ⟨b1,0,none⟩) (r.set i (⟨out⟩:A4)).length N by rw [aJ]) ?_;refine eK ((i+1,r.set i (⟨out⟩:A4))) ?_ ?_ U ⟨U,U,U,U,U,U,U,U,I8⟩ ⟨U,I8⟩
   · exact ⟨by omega,by rw [aJ];exact hrN,vK hdr _ HB,Jc uJ hv hpart⟩
   show tq.length - (i+1)<tq.length - i;omega
 have hii:i=tq.length:=uJ;subst hii;have hval:=HR hP uJ hv;refine bP ?_;refine aZ U ?_;refine aU U (oX U U) ?_;refine bT ?_;refine bE ?_;refine bP ?_;refine iE U vG ?_;refine Wc.exit ?_;refine pN ?_;refine pN ?_;refine Ww ?_;refine bE ?_;refine bP ?_;refine aZ U ?_;refine aU U (cT U) ?_;refine eC 0 U hor fun G9 hle9 hA=>?_;refine pF 1 U T.fn150 U (Iz _ _ _ _ uK uJ vG) (vA I8) fun v2 G2 Ho2 hle2 hp=>?_;obtain ⟨ta2,tm2,rfl,hta2,hte2,htr2,htl2,rfl,rfl⟩:=hp;refine aU U (cG U) ?_;refine aU U (cG U) ?_;refine bT ?_;refine bE ?_;refine kK ?_;refine jZ (.inr U) (Ho:=Hp.only _ []) U (.tmp U) (.tmp U) (aV _ _) ?_;rw [←hval2] at hval;exact ⟨_,U,oI hta2 hte2 htr2 hdr hval uJ,U⟩
theorem XA {z:Int} {t m n:Nat} (h:z.natAbs=2 ^ t*(2*m+1)):z % ((2 ^ n:Nat):Int)=0↔n≤t:=by
 rw [←rA,←Int.natCast_dvd_natCast.symm.trans (Int.dvd_natAbs (a:=((2 ^ n:Nat):Int)) (b:=z)),h];constructor
 · intro hd;refine gC fun hn=>?_;obtain ⟨q,hq⟩:=Nat.dvd_trans (Nat.pow_dvd_pow 2 (show t+1≤n by omega)) hd;rw [dM,pG] at hq;have:=Nat.eq_of_mul_eq_mul_left (iP uR) hq;omega
 intro hn;exact Nat.dvd_trans (Nat.pow_dvd_pow 2 hn) (Nat.dvd_mul_right _ _)
theorem rh (G:A3) (hT:C6 G) (x:IV) (z:Int) (d s:Nat) (hx:B9 G x z) (h1:x.n≤268435456) (hs:s<32) (hd:d≤1000) :
 Does Tryz.prog 266 [.agg (A2.enc x).toArray,.int .i64 ((32*d+s:Nat):Int)] G [] (fun v G' Ho=>∃ r:IV,v=.tuple #[.agg (A2.enc r).toArray,.int .i64 (if z % ((2 ^ (32*d+s):Nat):Int)=0 then 0 else 20)]∧(z % ((2 ^ (32*d+s):Nat):Int)=0→B9 G' r (z / ((2 ^ (32*d+s):Nat):Int)))∧Ho=[]):=by
 by_cases hz0:z=0
 · subst hz0;obtain ⟨n1,a,k1,ca⟩:=x;obtain ⟨la,hl,hlc,hA,hI⟩:=hx;simp only at hl hlc hA hI h1;subst hl;have hs0:Jd 0=0:=uR;show Does Tryz.prog 266 [.agg #[.bool n1,.slice a la.length ca],.int .i64 ((32*d+s:Nat):Int)] G [] _;refine bU Tryz.func266 U Tryz.ntmps266 U fun w=>?_;refine bP ?_;refine aZ U ?_;refine gU 0 U U U fun b1=>?_;refine bB 1 U T.zero89 fun b2=>?_;refine aU U (cG U) ?_;refine bT ?_;refine bE ?_;refine bP ?_;refine lD ?_;refine bP ?_;refine aZ U ?_;refine aU U (cT U) ?_;refine aU U (oX U U) ?_;refine aU U (cG U) ?_;refine bT ?_;refine bE ?_;refine iE U vG ?_;refine bP ?_;refine aZ U ?_;refine aU U (rK 0 T.agg89 U U U) ?_;refine rY U T.fn48 U (fy _ _ _ _ _ _ hI uJ) ?_;refine aU U (uB U U) ?_;refine aU U (cG U) ?_;refine bT ?_;refine bE ?_;refine pK U vG ?_;refine bP ?_;refine aZ U ?_;refine aU U (fY (cs:=[_,_]) T.st89 U U U) ?_;refine oB 1 T.size89 U U U U U U ?_;refine aU U (cG U) ?_;refine bT ?_;refine bE ?_;refine kK ?_;refine pE ?_;refine kQ ?_;refine iY [1] uR (jZ (.inr U) (Ho:=Hp.only _ []) U (.agg 0 U U T.agg89) (.tmp U) (aV _ _) ?_);refine ⟨⟨false,none,0,0⟩,by rw [Int.zero_emod,aM rfl];rfl,fun _=>by rw [Int.zero_ediv];exact B9.zero _,U⟩
 have h301:=jd G hT x z hx h1 hz0;have h301x:=jd G hT x z hx h1 hz0;obtain ⟨n1,a,k1,ca⟩:=x;obtain ⟨la,hl,hlc,hA,hI⟩:=hx;simp only at hl hlc hA hI h1;subst hl;have da:=hI.digs;have hsz:Jd z≠0:=by unfold Jd;split <;> (try split) <;> omega
 show Does Tryz.prog 266 [.agg #[.bool n1,.slice a la.length ca],.int .i64 ((32*d+s:Nat):Int)] G [] _;refine bU Tryz.func266 U Tryz.ntmps266 U fun w=>?_;skip;refine bP ?_;refine aZ U ?_;refine gU 0 U U U fun b1=>?_;refine bB 1 U T.zero89 fun b2=>?_;refine aU U (cG U) ?_;refine bT ?_;refine bE ?_;refine bP ?_;refine lD ?_;refine bP ?_;refine aZ U ?_;refine aU U (cT U) ?_;refine aU U (oX U U) ?_;refine aU U (cG U) ?_;refine bT ?_;refine bE ?_;refine iE U vG ?_;refine bP ?_;refine aZ U ?_;refine aU U (rK 0 T.agg89 U U U) ?_;refine rY U T.fn48 U (fy _ _ _ _ _ _ hI uJ) ?_;refine aU U (uB U U) ?_;refine aU U (cG U) ?_;refine bT ?_;refine bE ?_;refine iE U vG ?_;refine bP ?_;refine aZ U ?_;refine aU U (rK 0 T.agg89 U U U) ?_;refine pF 19 U T.fn301 U h301 (vA I8) fun v1 G1 Ho1 hle1 hp=>?_;obtain ⟨t,m,rfl,ht,ht2,rfl,rfl⟩:=hp;have hdv:=XA (n:=32*d+s) ht;by_cases hlt:t<32*d+s
 · have hne:¬z % ((2 ^ (32*d+s):Nat):Int)=0:=fun h=>by have:=hdv.1 h;omega
   refine aU U (cT U) ?_;refine aU U (oX U U) ?_;refine aU U (cG U) ?_;refine bT ?_;refine bE ?_;refine pK U vG ?_;refine bP ?_;refine aZ U ?_;refine aU U (fY (cs:=[_,_]) T.st89 U U U) ?_;refine oB 1 T.size89 U U U U U U ?_;refine aU U (cG U) ?_;refine bT ?_;refine bE ?_;refine kK ?_;refine pE ?_;refine kQ ?_;refine iY [1] uR (jZ (.inr U) (Ho:=Hp.only _ []) U (.agg 0 U U T.agg89) (.tmp U) (aV _ _) ?_);exact ⟨⟨false,none,0,0⟩,by rw [aE hne];rfl,fun h=>absurd h hne,U⟩
 have hye:z % ((2 ^ (32*d+s):Nat):Int)=0:=hdv.2 uJ;skip;refine aU U (cT U) ?_;refine aU U (oX U U) ?_;refine aU U (cG U) ?_;refine bT ?_;refine bE ?_;refine iE U vG ?_;refine iU ?_;refine lW ?_;refine bE ?_;refine bP ?_;refine aZ U ?_;refine aU U (iV T.fa89_1 U) ?_;refine aU U (oH 0 T.one87 U U U) ?_;refine aU U (cT U) ?_;refine pF 27 U T.fn204 U (je _ _ _ _ d s hA da uJ uJ hs uJ) (vA I8) fun v2 G2 Ho2 hle2 hp=>?_;obtain ⟨_,rfl,⟨qa,qm,rfl,hqa,hql,hqt,hqv,hqn⟩,rfl⟩:=hp;skip;refine aU U (cT U) ?_;refine aU U (lL U U) ?_;refine aU U (lL U U) ?_;refine aU U (cG U) ?_;refine aU U (cG U) ?_;refine bT ?_;refine bE ?_;refine bP ?_;refine aZ U ?_;refine aU U (iV T.fa89_0 U) ?_;refine aU U (oH 0 T.one4 U U U) ?_;refine aU U (cT U) ?_;refine rY U T.fn96 U (Mr _ _ _ _ _ uJ) ?_;refine oB 1 T.size89 U U U U U U ?_;refine aU U (cG U) ?_;refine bT ?_;refine bE ?_;refine kK ?_;refine iY [1] uR (jZ (.inr U) (Ho:=Hp.only _ []) U (.agg 0 U U T.agg89) (.tmp U) (aV _ _) ?_);refine ⟨⟨n1 && decide (0<qm.length),qa,qm.length,qm.length⟩,by rw [aM hye];rfl,fun _=>nM n1 hqa hql hqt (aG _) ?_,U⟩;rw [QI] at hqv;rw [hqv,hI.val];have hd:((2 ^ (32*d+s):Nat):Int) ∣ uM la:=by
  have h2:=Int.dvd_of_emod_eq_zero hye;rw [hI.val] at h2;cases n1
  · exact h2
  exact Int.dvd_neg.1 h2
 cases n1
 · rw [aE (by decide),aE (by decide)]
 rw [aM rfl,aM rfl,Int.neg_ediv_of_dvd hd]
end
end Go.Proofs.YtngphgeghfdjbaaGreatDoor
namespace Go.Proofs.YtngphgeghfdjbaaGreatDoor
open Go Go.Sl Go.ChangeShapes Go.WideShapes Go.RowKit Go.Joins
theorem ZK : Tryz.prog.globalNamed "math/bits.deBruijn32tab" = some 0 := by kernel_rfl
theorem LP:(Tryz.prog.globals[0]?).map (·.type)=some 394:=uO
theorem bn:Tryz.prog.underlying 394=some (.array 32 5):=uO
theorem RB:Tryz.prog.cellsOf 394=32:=uO
theorem XB {W : World} (h : laidMetH Tryz.prog HN W) : Lib.TabIs Tryz.prog W "math/bits.deBruijn32tab" .u8 ES := by
 have h1 := h.filter (fun x => x.1 == "math/bits.deBruijn32tab");have e : HN.filter (fun x => x.1 == "math/bits.deBruijn32tab") = [("math/bits.deBruijn32tab", Rows.laid_math_bits_deBruijn32tab)] := by kernel_rfl
 rw [e] at h1;exact Lib.tabIs_of_head (rest:=[]) ZK LP bn ie PK RB h1
theorem RC {W:World} (h:laidMetH Tryz.prog HN W):C6 (yX W):=fun k v hv=>by
 have hk:k<ES.length:=by
  have:=(aR.1 hv).1;simpa [AT,ES] using this
 have h1:=(XB h).cell ZK k hk;have h2:=Gw h1;rw [h2];have e:AT=ES.map fun n=>.int .u8 n:=rfl;rw [e,bJ,aA hk] at hv;rw [←hv,List.getD_eq_getElem?_getD,aA hk];rfl
section
variable {H:Type} {enc:TypeId×Value→H}
theorem ZL:Tryz.prog.underlying 29=some (.slice 2):=uO
theorem ri:Tryz.prog.underlying 2=some (.int .i64):=uO
theorem bp:Tryz.prog.cellsOf 2=1:=uO
theorem open_ints {W:World} {r:Reach} {b0:Nat} {v:Value} {d:DataW H} {ps:List MemPlace} (hv:Value.okWide Tryz.prog W r b0 29 v) (h:DataW.Trod enc Tryz.prog W 0 (fun _=>true) true 29 v d ps) :
 ∃ (a:Option Addr) (c:Nat) (l:List Int),v=.slice a l.length c∧Arr (yX W) a l∧l.length≤c∧(∀ x∈l,-9223372036854775808≤x∧x≤9223372036854775807)∧l.length≤Rows.uptoBulk d:=by
 obtain ⟨a0,n0,c0,rfl⟩:=okWide_slice ZL hv;obtain ⟨n,h⟩:=h;obtain ⟨a,c,xs,e,hA,hl,hd⟩:=Ir (α:=Int) ZL bp uR (HM ri) h;have e':[Value.slice a0 n0 c0]=[.slice a xs.length c]:=e;simp only [jD,and_true] at e';refine ⟨a,c,xs,e',hA,hl,fun y hy=>?_,?_⟩
 · rcases hd with ⟨_,rfl⟩ | ⟨l,r,e,hl,hi⟩
   · cases hy
   obtain ⟨i,hi1,rfl⟩:=mT.1 hy;obtain ⟨d,_,_,hw⟩:=hi i hi1;rw [aA hi1] at hw;unfold Lit.wf at hw;rw [aB,aY,aY] at hw;exact hw
 rcases hd with ⟨_,rfl⟩ | ⟨l,r,e,hl,_⟩
 · exact aS _
 have e2:d=.slice l r:=e;rw [e2,←hl];exact Dx l r
end
end Go.Proofs.YtngphgeghfdjbaaGreatDoor
namespace Go.Proofs.YtngphgeghfdjbaaGreatDoor
open Go Go.Sl
def ev:List Int→Int→Int→Int
 | [],_,_=>0
 | c :: f,a,b=>c*b ^ f.length+a*ev f a b
theorem Ps (a b:Int):∀ n:Nat,ev (List.replicate n 0) a b=0
 | 0=>rfl
 | n+1=>by
   show (0:Int)*b ^ (List.replicate n (0:Int)).length+a*ev (List.replicate n 0) a b=0;rw [Ps,gM,bV];rfl
def bq (l:List R2):Nat:=(l.filter fun p=>decide (Int.gcd p.a p.b≠1)).length
def ZM (i:Sl.Instr):Prop:=i.op=6∨i.op=8
instance (i:Sl.Instr):Decidable (ZM i):=inferInstanceAs (Decidable (_∨_))
def jf (i:Sl.Instr):Prop:=(i.op=6∨i.op=5)∧(512<i.c∨i.c < -512)
instance (i:Sl.Instr):Decidable (jf i):=inferInstanceAs (Decidable (_∧_))
def jg (c:List Sl.Instr):Nat:=(c.filter fun i=>decide (ZM i)).length
def rj (p:PV) (l:List R2):Prop:=(∀ i∈p.code,¬jf i)∧(jg p.code:Int)≤(l.length:Int)*((l.length:Int) - 1) / 2+((l.length:Int) - 1)*(bq l:Int)
instance (p:PV) (l:List R2):Decidable (rj p l):=inferInstanceAs (Decidable (_∧_))
def br (a b s:Int):Bool:=((Int.gcd a b:Int) - s*a).tmod b == 0
def jh (a b:Int):Nat→Nat→Nat
 | 0,k=>k
 | n+1,k=>if br a b (k:Int) || br a b (-(k:Int)) then k else jh a b n (k+1)
def bu (a b:Int):Nat:=jh a b 16 0
def bv (a b:Int):Int:=if b=0 then a.tdiv (Int.gcd a b) else if br a b (bu a b:Int) then (bu a b:Int) else -(bu a b:Int)
def jk (a b:Int):Int:=if b=0 then 0 else ((Int.gcd a b:Int) - bv a b*a).tdiv b
def upd (σ:Int→Int) (r v:Int):Int→Int:=fun x=>if x=r then v else σ x
def Zd (wh:List R2) (k:Int):R2:=wh[k.toNat]?.getD default
def rl (wh:List R2) (k i:Int):Int:=(Zd wh k).a*(Zd wh i).b - (Zd wh i).a*(Zd wh k).b
def nxP (u v:Int) (C:Nat→Int) (j:Nat):Int:=v*C j+u*(if j=0 then 0 else C (j - 1))
def Nc (u v:Int):Nat→(Nat→Int)→Nat→Int
 | 0,C=>C
 | m+1,C=>Nc u v m (nxP u v C)
def co (f:List Int) (j:Nat):Int:=f[j]?.getD 0
def bw (o:List Int) (n:Nat):Prop:=o.length=n∧(∀ x∈o,0≤x∧x<n)∧o.Nodup
instance (o:List Int) (n:Nat):Decidable (bw o n):=inferInstanceAs (Decidable (_∧_))
structure Good (R:Int) (L d:Nat) (l:List Sl.Instr):Prop where
 fit:∀ i∈l,yM i R=true
 len:l.length≤L
 dv:jg l≤d
structure Wh (wh:List R2) (o:List Int):Prop where
 yN:∀ k∈o,yN (Zd wh k).a (Zd wh k).b
 UG:∀ k∈o,Int.gcd (Zd wh k).a (Zd wh k).b=1
 bez:∀ k∈o,bv (Zd wh k).a (Zd wh k).b*(Zd wh k).a+jk (Zd wh k).a (Zd wh k).b*(Zd wh k).b=1
 small:∀ k∈o,(bv (Zd wh k).a (Zd wh k).b).natAbs+(jk (Zd wh k).a (Zd wh k).b).natAbs≤17
 det:∀ k∈o,∀ i∈o,k≠i→rl wh k i≠0
def jl (i:Sl.Instr) (zs:List Int):Option Int:=
 let a:=zs[i.a.toNat]?.getD 0
 let b:=zs[i.b.toNat]?.getD 0
 if i.op=2 then some (-a)
 else if i.op=3 then some (a+b)
 else if i.op=4 then some (a - b)
 else if i.op=5∨i.op=7 then some (a*cst i)
 else if i.op=6∨i.op=8 then (if a % cst i=0 then some (a / cst i) else none)
 else some a
theorem RD (G:A3) (c:Int) (h:0≤c∧c≤64) :
 Does Tryz.prog 317 [.int .i64 c] G [] (fun v G' Ho=>∃ r:IV,v=.agg (A2.enc r).toArray∧B9 G' r (p2 c.toNat)∧Ho=[]):=by
 obtain ⟨n,rfl⟩:=Int.eq_ofNat_of_zero_le h.1;rw [aH];exact qo G n uJ
section
attribute [local irreducible] uM pb vJ uZ p2 cst
end
theorem HX:pw 5≤pb 3:=by unfold pw pb;decide
theorem LQ {m k:Nat} {x y:Int} (hx:(x.natAbs:Int)<pb m) (hy:(y.natAbs:Int)<pb k):((x*y).natAbs:Int)<pb (m+k):=by
 rw [qL,dS,Xq];have h1:=bG (cN hy) (show (0:Int)≤x.natAbs by omega);have h2:=mI hx (xV k);omega
theorem Below.mono {m k:Nat} {zs:List Int} (h:Below m zs) (hk:m≤k):Below k zs:=fun z hz=>jJ (h z hz) (Pc hk)
section
attribute [local irreducible] uM pb vJ uZ p2 cst jl
end
theorem Mt (G:A3) (p:PV) (ac ao:Option Addr) (cc co:Nat) (hc:Arr G ac p.code) (ho:Arr G ao p.outs) (h1:p.code.length≤1099511627776) (h2:p.outs.length≤1099511627776) (hR:uY p=true) :
 Does Tryz.prog 124 [.agg (J6 p ac cc ao co)] G [] (fun v G' Ho=>v=.tuple #[.int .i64 (yU p).1,.int .i64 0]∧G'=G∧Ho=[]):=by
 have hf:(yU p).2=false:=by unfold uY at hR;simpa using hR
 have h:=aw G p ac ao cc co hc ho h1 h2;rw [hf] at h;exact h
theorem LS {x y:Int} (h:vJ x y=0):x=y:=by
 unfold vJ at h;split at h
 · omega
 split at h <;> omega
theorem Ut {za zb:List Int} {i:Nat} (h:za.take i=zb.take i) (h1:i<za.length) (h2:i<zb.length) (he:za[i]?.getD 0=zb[i]?.getD 0):za.take (i+1)=zb.take (i+1):=by
 rw [aA h1,aA h2] at he;rw [fW,fW,h,aA h1,aA h2];have e:za[i]=zb[i]:=he;rw [e]
theorem Mu (m n:Nat):Below m (List.replicate n 0):=fun z hz=>by rw [iH hz];exact xV m
section
attribute [local irreducible] uM pb vJ uZ p2 cst jl yU
theorem rp (G:A3) (p:PV) (ac ao:Option Addr) (cc co:Nat) (hc:Arr G ac p.code) (ho:Arr G ao p.outs) (h1:p.code.length≤1099511627776) (h2:p.outs.length≤1099511627776) (hR:uY p=true) (n:Int) (hn:n=p.ins) :
 Does Tryz.prog 291 [.agg (J6 p ac cc ao co),.int .i64 n] G [] (fun v G' Ho=>v=.int .i64 0∧G'=G∧Ho=[]):=by
 refine D0 Tryz.func291 Tryz.ntmps291 fun w=>?_;refine aL 2 [] ?_;refine fK 0 fun b1=>?_;refine aN 6 [0] ?_;refine dC U (Mt _ p _ _ _ _ hc ho h1 h2 hR) ?_;refine bA 36 [0,0,0] ?_;refine cZ ?_;exact ⟨U,U,U⟩
theorem rq (G:A3) (a b:Option Addr) (ca cb:Nat) (la lb:List IV) (za zb:List Int) (ha:Arr G a la) (hb:Arr G b lb) (hA:A8 G la za) (hB:A8 G lb zb) (h1:la.length≤1048576) (h2:lb.length≤1048576) (m:Nat) (hm:m≤268435456) (ba:Below m za) (bb:Below m zb) :
 Does Tryz.prog 255 [.slice a la.length ca,.slice b lb.length cb] G [] (fun v G' Ho=>∃ k:Int,v=.int .i64 k∧(k=0↔za=zb)∧G'=G∧Ho=[]):=by
 have e1:=hA.1;have e2:=hB.1;refine D0 Tryz.func255 Tryz.ntmps255 fun w=>?_;by_cases hn:la.length=lb.length
 · refine dN 41 [0,0] ?_;refine kL (ι:=Nat) (fun i=>([(22,.int .i64 (i:Int)),(21,.int .i64 (la.length:Int)),(20,.slice a (List.length la) ca),(1,.slice b (List.length lb) cb)],[])) (fun i=>i≤la.length∧za.take i=zb.take i) (fun i=>la.length - i) (0) (⟨aS _,U⟩) fun i=>fun hk=>?_;obtain ⟨hi,hz⟩:=hk;rcases aK i la.length with hia | hia
   · have hx9:=hA.at (k:=(i:Int)) uJ;have hy9:=hB.at (k:=(i:Int)) uJ;have hx5:=aP (jG hx9 (ba.at _)) (aP hm (show 268435456≤1073741824 by decide));have hy5:=aP (jG hy9 (bb.at _)) (aP hm (show 268435456≤1073741824 by decide));refine aL 14 [1] ?_;refine fF (α:=IV) T.sl39 ?_;refine qF T.agg89 ?_;refine bB 0 U T.zero89 fun b1=>?_;refine bY 5 [0] ?_;refine gK [0] [] T.mixed [[0,0],[1],[2]] ?_;refine qN (α:=IV) 3 T.sl39 ?_;refine Gm.le 4 T.agg89 ?_;refine fC 5 ?_;refine dC U (c57 _ _ _ _ _ hx9 hy9 hx5 hy5) ?_;refine dG ?_;refine gS [[6]] ?_;refine eI ?_;refine rI 7 [] ?_;refine hZ (fun hc1=>?_) fun hc1=>?_;refine cJ 12 [] ?_;refine cZ ?_;rotate_left;refine cJ 7 [] ?_;rotate_left
     · exact ⟨_,U,⟨fun h=>absurd h hc1,fun h=>absurd (Iy (by rw [h])) hc1⟩,U,U⟩
     refine eH (i+1) ?_ ?_
     · exact ⟨by omega,Ut hz uJ uJ (LS (jY.1 hc1))⟩
     omega
   have hii:i=la.length:=uJ;subst hii;refine cJ 18 [0] ?_;refine cZ ?_;refine ⟨0,U,⟨fun _=>?_,fun _=>rfl⟩,U,U⟩;rw [eQ uJ,eQ uJ] at hz;exact hz
 have hne:za≠zb:=fun h=>hn (by rw [e1,e2,h]);by_cases hlt:la.length<lb.length
 · refine cJ 26 [1] ?_;refine cZ ?_;exact ⟨-1,U,⟨fun h=>absurd h uR,fun h=>absurd h hne⟩,U,U⟩
 refine cJ 37 [0,1] ?_;refine cZ ?_;exact ⟨1,U,⟨fun h=>absurd h uR,fun h=>absurd h hne⟩,U,U⟩
theorem rr (G:A3) (a b:Option Addr) (ca cb:Nat) (la lb:List IV) (za zb:List Int) (ha:Arr G a la) (hb:Arr G b lb) (hA:A8 G la za) (hB:A8 G lb zb) (h1:la.length≤1048576) (h2:lb.length≤1048576) (m:Nat) (hm:m≤268435456) (ba:Below m za) (bb:Below m zb) :
 Does Tryz.prog 213 [.slice a la.length ca,.slice b lb.length cb] G [] (fun v G' Ho=>v=.bool (decide (za=zb))∧G'=G∧Ho=[]):=by
 refine D0 Tryz.func213 Tryz.ntmps213 fun w=>?_;refine aL 9 [] ?_;refine cQ 0 U (rq G _ _ _ _ _ _ za zb ha hb hA hB h1 h2 m hm ba bb) fun v1 G1 Ho1 hle1 hp=>?_;obtain ⟨k1,rfl,hk1,rfl,rfl⟩:=hp;refine bA 5 [] ?_;refine cZ ?_;exact ⟨by rw [gT.2 hk1],U,U⟩
end
def ot (j:Nat) (rs:List (List Int)):List Int:=rs.map fun r=>r[j]?.getD 0
def Flat (N:Nat) (rs:List (List Int)):Prop:=∀ r∈rs,r.length=N
theorem bx {j k:Nat} {rs:List (List Int)}:(ot j rs)[k]?.getD 0=(rs[k]?.getD [])[j]?.getD 0:=by
 unfold ot;rw [bJ];cases rs[k]? <;> rfl
theorem zH {N k:Nat} {rs:List (List Int)} (h:Flat N rs) (hk:k<rs.length):(rs[k]?.getD []).length=N:=by
 rw [aA hk];exact h _ (dY hk)
theorem Pt {l:List Int} {f:Int→Int} {j:Nat} (h:j<l.length):(l.map f)[j]?.getD 0=f (l[j]?.getD 0):=by
 rw [bJ,aA h];rfl
theorem AU {l m:List Int} {f:Int→Int→Int} {j:Nat} (h:j<l.length) (h2:j<m.length):(List.zipWith f l m)[j]?.getD 0=f (l[j]?.getD 0) (m[j]?.getD 0):=by
 rw [List.getElem?_zipWith,aA h,aA h2];rfl
theorem XC {i:Sl.Instr} {rs:List (List Int)} {N:Nat} (he:Flat N rs) (ha:i.a.toNat<rs.length) (hb:i.op=3∨i.op=4→i.b.toNat<rs.length) :
 (∀ x,zP i rs=some x→x.length=N∧∀ j,j<N→jl i (ot j rs)=some (x[j]?.getD 0))∧(zP i rs=none→∃ j,j<N∧jl i (ot j rs)=none):=by
 have la:=zH he ha;unfold zP jl;simp only [bx];by_cases h2:i.op=2
 · simp only [aM h2];refine ⟨fun x h=>?_,fun h=>by cases h⟩;cases h;refine ⟨by rw [aW];exact la,fun j hj=>?_⟩;rw [Pt uJ,lK,eO]
 simp only [aE h2];by_cases h3:i.op=3
 · have lb:=zH he (hb (.inl h3));simp only [aM h3];refine ⟨fun x h=>?_,fun h=>by cases h⟩;cases h;refine ⟨by rw [jA];omega,fun j hj=>?_⟩;rw [AU uJ uJ,eO]
 simp only [aE h3];by_cases h4:i.op=4
 · have lb:=zH he (hb (.inr h4));simp only [aM h4];refine ⟨fun x h=>?_,fun h=>by cases h⟩;cases h;refine ⟨by rw [jA];omega,fun j hj=>?_⟩;rw [AU uJ uJ,lK,eO];rfl
 simp only [aE h4];by_cases h5:i.op=5∨i.op=7
 · simp only [aM h5];refine ⟨fun x h=>?_,fun h=>by cases h⟩;cases h;refine ⟨by rw [aW];exact la,fun j hj=>?_⟩;rw [Pt uJ,cW]
 simp only [aE h5];by_cases h6:i.op=6∨i.op=8
 · simp only [aM h6];by_cases hd:xN (cst i) (rs[i.a.toNat]?.getD [])
   · rw [aM hd];refine ⟨fun x h=>?_,fun h=>by cases h⟩;cases h;refine ⟨by rw [aW];exact la,fun j hj=>?_⟩;rw [aM (hd j uJ),Pt uJ]
   rw [aE hd];refine ⟨fun x h=>xY,fun _=>?_⟩;unfold xN at hd;rw [Classical.not_forall] at hd;obtain ⟨j,hd⟩:=hd;rw [Classical.not_imp] at hd;exact ⟨j,by omega,aE hd.2⟩
 simp only [aE h6];refine ⟨fun x h=>?_,fun h=>by cases h⟩;cases h;exact ⟨la,fun j hj=>rfl⟩
theorem flat_set {N k:Nat} {rs:List (List Int)} {x:List Int} (h:Flat N rs) (hx:x.length=N):Flat N (rs.set k x):=fun r hr=>by
 rcases kU hr with h1 | h1
 · exact h r h1
 rw [h1];exact hx
def ET (n:Nat) (i:Sl.Instr):Prop:=i.a.toNat<n∧(i.op=3∨i.op=4→i.b.toNat<n)
theorem bz {i:Sl.Instr} {regs:Int} {n:Nat} (h:yM i regs=true) (hn:(n:Int)=regs):ET n i:=by
 obtain ⟨m1,m2,m3,m4,m5⟩:=Fy h;exact ⟨by omega,fun h34=>by have:=m4 h34;omega⟩
theorem LU {p:PV} {gs:List (List Int)} {N:Nat} (hN:Flat N gs) (h1:1≤gs.length):Flat N (wW p gs):=fun r hr=>by
 unfold wW at hr;obtain ⟨k,_,rfl⟩:=cV.1 hr;split
 · rename_i hk;exact zH hN hk
 rw [aC];exact zH hN h1
def Pu (a:Int):Nat→Int→Int
 | 0,t=>t
 | k+1,t=>Pu a k t*a
theorem Hj (a:Int) (t:Int):∀ k,Pu a k t=t*a ^ k
 | 0=>by show t=t*a ^ 0;rw [lP,gR]
 | k+1=>by
   show Pu a k t*a=_;rw [Hj a t k,lQ,dA]
def Ff (f:List Int) (a b:Int) (j:Nat):Int:=Pu b (f.length - 1 - j) (Pu a j (f[j]?.getD 0))
theorem Fg (f:List Int) (a b:Int) (j:Nat):Ff f a b j=f[j]?.getD 0*(a ^ j*b ^ (f.length - 1 - j)):=by
 unfold Ff;rw [Hj,Hj,dA]
def Gq (f:List Int) (a b:Int):Nat→Int
 | 0=>0
 | j+1=>Gq f a b j+Ff f a b j
theorem Pv (c:Int) (f:List Int) (a b:Int):∀ j,Gq (c :: f) a b (j+1)=c*b ^ f.length+a*Gq f a b j
 | 0=>by
   show 0+Ff (c :: f) a b 0=c*b ^ f.length+a*0;rw [Fg,iM,bV,cH,lP,eO];rfl
 | j+1=>by
   show Gq (c :: f) a b (j+1)+Ff (c :: f) a b (j+1)=c*b ^ f.length+a*(Gq f a b j+Ff f a b j);rw [Pv c f a b j,Fg,Fg,bQ,pH];congr 2;show f[j]?.getD 0*(a ^ (j+1)*b ^ (f.length+1 - 1 - (j+1)))=a*(f[j]?.getD 0*(a ^ j*b ^ (f.length - 1 - j)));rw [lQ,show f.length+1 - 1 - (j+1)=f.length - 1 - j by omega]
   ac_rfl
theorem Lf (a b:Int):∀ f:List Int,Gq f a b f.length=ev f a b
 | []=>rfl
 | c :: f=>by
   rw [bN,Pv,Lf a b f];rfl
theorem RE (a b x:Int):∀ (w:List Int) (k:Nat),k<w.length→ev (w.set k (w[k]?.getD 0+x)) a b=ev w a b+x*(a ^ k*b ^ (w.length - 1 - k))
 | c :: f,0,_=>by
   show (c+x)*b ^ f.length+a*ev f a b=(c*b ^ f.length+a*ev f a b)+x*(a ^ 0*b ^ f.length);rw [lP,eO,kE];omega
 | c :: f,k+1,h=>by
   have h':k<f.length:=by simpa using h
   show c*b ^ (f.set k (f[k]?.getD 0+x)).length+a*ev (f.set k (f[k]?.getD 0+x)) a b=(c*b ^ f.length+a*ev f a b)+x*(a ^ (k+1)*b ^ (f.length+1 - 1 - (k+1)));rw [RE a b x f k h',aJ,lQ,show f.length+1 - 1 - (k+1)=f.length - 1 - k by omega,bQ,pH];congr 2
   ac_rfl
def yE (xs ys:List Int) (i:Nat) (w:List Int):Nat→List Int
 | 0=>w
 | j+1=>(yE xs ys i w j).set (i+j) ((yE xs ys i w j)[i+j]?.getD 0+xs[i]?.getD 0*ys[j]?.getD 0)
theorem Cz (xs ys:List Int) (i:Nat) (w:List Int):∀ j,(yE xs ys i w j).length=w.length
 | 0=>rfl
 | j+1=>by
   show (List.set _ _ _).length=_;rw [aJ,Cz xs ys i w j]
def wM (xs ys:List Int) (n:Nat):Nat→List Int
 | 0=>List.replicate n 0
 | i+1=>yE xs ys i (wM xs ys n i) ys.length
theorem yF (xs ys:List Int) (n:Nat):∀ i,(wM xs ys n i).length=n
 | 0=>aC
 | i+1=>by
   show (yE _ _ _ _ _).length=_;rw [Cz,yF xs ys n i]
theorem AV {xs ys w:List Int} {i:Nat} (a b:Int) (hi:i<xs.length) (hn:xs.length+ys.length=w.length+1):∀ j,j≤ys.length→ev (yE xs ys i w j) a b=ev w a b+Ff xs a b i*Gq ys a b j
 | 0,_=>by
   show ev w a b=ev w a b+Ff xs a b i*0;rw [bV,cH]
 | j+1,hj=>by
   show ev ((yE xs ys i w j).set (i+j) ((yE xs ys i w j)[i+j]?.getD 0+xs[i]?.getD 0*ys[j]?.getD 0)) a b=ev w a b+Ff xs a b i*(Gq ys a b j+Ff ys a b j);rw [RE a b _ _ _ (by rw [Cz];omega),AV a b hi hn j uJ,Cz,bQ,pH];congr 2;rw [Fg,Fg,Int.pow_add,show w.length - 1 - (i+j)=(xs.length - 1 - i)+(ys.length - 1 - j) by omega,Int.pow_add]
   ac_rfl
theorem Uu {xs ys:List Int} {n:Nat} (a b:Int) (hn:xs.length+ys.length=n+1):∀ i,i≤xs.length→ev (wM xs ys n i) a b=Gq xs a b i*ev ys a b
 | 0,_=>by
   show ev (List.replicate n 0) a b=0*ev ys a b;rw [Ps,gM]
 | i+1,hi=>by
   show ev (yE xs ys i (wM xs ys n i) ys.length) a b=(Gq xs a b i+Ff xs a b i)*ev ys a b;rw [AV a b uJ (by rw [yF];exact hn) _ (aG _),Uu a b hn i uJ,Lf,kE]
theorem Xz {xs ys:List Int} {n:Nat} (a b:Int) (hn:xs.length+ys.length=n+1):ev (wM xs ys n xs.length) a b=ev xs a b*ev ys a b:=by
 rw [Uu a b hn _ (aG _),Lf]
def Hk:List Int→List Int→Int
 | [],_=>0
 | _ :: _,[]=>0
 | c :: cs,x :: xs=>c*x+Hk cs xs
theorem Nm {f:Int→Int} {k:Int} (hf:∀ x,f x=k*x):∀ cs xs:List Int,Hk cs (xs.map f)=k*Hk cs xs
 | [],_=>(bV k).symm
 | _ :: _,[]=>(bV k).symm
 | c :: cs,x :: xs=>by
   show c*f x+Hk cs (xs.map f)=k*(c*x+Hk cs xs);rw [Nm hf cs xs,hf,bQ,eE]
theorem HY {f:Int→Int→Int} {k:Int} (hf:∀ x y,f x y=x+k*y):∀ cs xs ys:List Int,xs.length=ys.length→Hk cs (List.zipWith f xs ys)=Hk cs xs+k*Hk cs ys
 | [],_,_,_=>by show (0:Int)=0+k*0;rw [bV];rfl
 | _ :: _,[],[],_=>by show (0:Int)=0+k*0;rw [bV];rfl
 | _ :: _,[],_ :: _,h=>xY
 | _ :: _,_ :: _,[],h=>xY
 | c :: cs,x :: xs,y :: ys,h=>by
   show c*f x y+Hk cs (List.zipWith f xs ys)=(c*x+Hk cs xs)+k*(c*y+Hk cs ys);rw [HY hf cs xs ys (rO h),hf,bQ,bQ,eE c k y];omega
theorem HZ {k:Int}:∀ cs xs:List Int,xN k xs→Hk cs xs=k*Hk cs (xs.map (· / k))
 | [],_,_=>(bV k).symm
 | _ :: _,[],_=>(bV k).symm
 | c :: cs,x :: xs,h=>by
   have h0:x % k=0:=h 0 (Nat.succ_pos _);have h1:=HZ cs xs (fun i hi=>h (i+1) (Nat.succ_lt_succ hi));have h2:k*(x / k)=x:=Int.mul_ediv_cancel' (Int.dvd_of_emod_eq_zero h0);show c*x+Hk cs xs=k*(c*(x / k)+Hk cs (xs.map (· / k)));rw [h1,bQ,eE k c,h2]
theorem AW {k:Int} {cs xs:List Int} (h:xN k xs):Hk cs xs % k=0∧Hk cs xs / k=Hk cs (xs.map (· / k)):=by
 rw [HZ cs xs h];refine ⟨Int.mul_emod_right _ _,?_⟩;by_cases hk:k=0
 · subst hk;rw [gM,Int.ediv_zero,Nm (k:=0) (fun x=>by rw [Int.ediv_zero,gM]),gM]
 exact Int.mul_ediv_cancel_left _ hk
theorem Lg:∀ (cs:List Int) (n:Nat),Hk cs (List.replicate n 0)=0
 | [],_=>rfl
 | _ :: _,0=>rfl
 | c :: cs,n+1=>by
   show c*0+Hk cs (List.replicate n 0)=0;rw [Lg,bV];rfl
theorem Pw:∀ (cs:List Int) (j:Nat),j<cs.length→Hk cs ((List.replicate cs.length 0).set j 1)=cs[j]?.getD 0
 | c :: cs,0,_=>by
   show c*1+Hk cs (List.replicate cs.length 0)=c;rw [Lg];omega
 | c :: cs,j+1,h=>by
   show c*0+Hk cs ((List.replicate cs.length 0).set j 1)=cs[j]?.getD 0;rw [Pw cs j (Nat.lt_of_succ_lt_succ h)];omega
theorem LV (a b:Int) (n:Nat):yP a b (n+1)=b ^ n :: (yP a b n).map (fun x=>a*x):=by
 unfold yP;rw [List.range_succ_eq_map,cA,gY,gY];congr 1
 · rw [lP,eO];rfl
 refine dI fun j hj=>?_;show a ^ (j+1)*b ^ (n+1 - 1 - (j+1))=a*(a ^ j*b ^ (n - 1 - j));rw [lQ,show n+1 - 1 - (j+1)=n - 1 - j by omega]
 ac_rfl
theorem Ya (a b:Int):∀ f:List Int,Hk f (yP a b f.length)=ev f a b
 | []=>rfl
 | c :: f=>by
   rw [bN,LV];show c*b ^ f.length+Hk f ((yP a b f.length).map fun x=>a*x)=c*b ^ f.length+a*ev f a b;rw [Nm (k:=a) (fun x=>rfl),Ya a b f]
theorem Hl {k1 k2:Int} {l:List R2} {x y z:PV} (h:(vN k1 k2 l x y z).2=0):vR k1 k2 l=0∧uY x=true∧xH x k1 l∧uY y=true∧xH y k2 l∧uY z=true∧wF z l:=by
 unfold vN at h;by_cases h1:vR k1 k2 l=0
 · rw [aE (fun g=>g h1)] at h;by_cases h2:uY x=true
   · rw [aE (fun g=>g h2)] at h;by_cases h3:xH x k1 l
     · rw [aE (fun g=>g h3)] at h;by_cases h4:uY y=true
       · rw [aE (fun g=>g h4)] at h;by_cases h5:xH y k2 l
         · rw [aE (fun g=>g h5)] at h;by_cases h6:uY z=true
           · rw [aE (fun g=>g h6)] at h;by_cases h7:wF z l
             · exact ⟨h1,h2,h3,h4,h5,h6,h7⟩
             rw [aM h7] at h;cases h
           rw [aM h6] at h;cases h
         rw [aM h5] at h;cases h
       rw [aM h4] at h;cases h
     rw [aM h3] at h;cases h
   rw [aM h2] at h;cases h
 rw [aM h1] at h;exact absurd h h1
def xF (css:List (List Int)) (r:List Int):List Int:=css.map fun cs=>Hk cs r
theorem AX (css:List (List Int)) (r:List Int):(xF css r).length=css.length:=by unfold xF;rw [aW]
theorem AY {f:Int→Int} {k:Int} (hf:∀ x,f x=k*x) (css:List (List Int)) (xs:List Int):xF css (xs.map f)=(xF css xs).map f:=by
 unfold xF;rw [gY];exact dI fun cs _=>(Nm hf cs xs).trans (hf _).symm
theorem Px {f:Int→Int→Int} {k:Int} (hf:∀ x y,f x y=x+k*y) (xs ys:List Int) (h:xs.length=ys.length):∀ css:List (List Int),xF css (List.zipWith f xs ys)=List.zipWith f (xF css xs) (xF css ys)
 | []=>rfl
 | cs :: css=>by
   show Hk cs (List.zipWith f xs ys) :: xF css (List.zipWith f xs ys)=f (Hk cs xs) (Hk cs ys) :: List.zipWith f (xF css xs) (xF css ys);rw [Px hf xs ys h css,HY hf cs xs ys h,hf]
theorem RF {k:Int} {xs:List Int} (h:xN k xs) (css:List (List Int)):xN k (xF css xs)∧xF css (xs.map (· / k))=(xF css xs).map (· / k):=by
 constructor
 · intro i hi;rw [AX] at hi;unfold xF;rw [bJ,aA hi];exact (AW h).1
 unfold xF;rw [gY];exact dI fun cs _=>(AW h).2.symm
theorem EU (css:List (List Int)) (n:Nat):xF css (List.replicate n 0)=List.replicate css.length 0:=by
 unfold xF;rw [show (fun cs=>Hk cs (List.replicate n 0))=fun _=>(0:Int) from funext fun cs=>Lg cs n];exact List.map_const' ..
theorem Bh {css:List (List Int)} {k:Nat} {rs:List (List Int)} (hk:k<rs.length):(rs.map (xF css))[k]?.getD []=xF css (rs[k]?.getD []):=by
 rw [bJ,aA hk];rfl
theorem RG (css:List (List Int)) {i:Sl.Instr} {rs:List (List Int)} {N:Nat} {x:List Int} (he:Flat N rs) (ha:ET rs.length i) (h:zP i rs=some x):zP i (rs.map (xF css))=some (xF css x):=by
 have la:=zH he ha.1;unfold zP at h ⊢;simp only [Bh ha.1];by_cases h2:i.op=2
 · simp only [aM h2] at h ⊢;cases h;rw [AY (k:=-1) (fun x=>rfl)]
 simp only [aE h2] at h ⊢;by_cases h3:i.op=3
 · have lb:=zH he (ha.2 (.inl h3));simp only [aM h3,Bh (ha.2 (.inl h3))] at h ⊢;cases h;rw [Px (k:=1) (fun x y=>rfl) _ _ uJ]
 simp only [aE h3] at h ⊢;by_cases h4:i.op=4
 · have lb:=zH he (ha.2 (.inr h4));simp only [aM h4,Bh (ha.2 (.inr h4))] at h ⊢;cases h;rw [Px (k:=-1) (fun x y=>rfl) _ _ uJ]
 simp only [aE h4] at h ⊢;by_cases h5:i.op=5∨i.op=7
 · simp only [aM h5] at h ⊢;cases h;rw [AY (k:=cst i) (fun x=>rfl)]
 simp only [aE h5] at h ⊢;by_cases h6:i.op=6∨i.op=8
 · simp only [aM h6] at h ⊢;by_cases hd:xN (cst i) (rs[i.a.toNat]?.getD [])
   · rw [aM hd] at h;cases h;obtain ⟨e1,e2⟩:=RF hd css;rw [aM e1,e2]
   rw [aE hd] at h;cases h
 simp only [aE h6] at h ⊢;cases h;rfl
theorem Uv (css:List (List Int)) {N:Nat}:∀ (l:List Sl.Instr) (rs:List (List Int)),Flat N rs→(∀ i∈l,ET rs.length i)→∀ r',Hd l rs=some r'→Hd l (rs.map (xF css))=some (r'.map (xF css))∧r'.length=rs.length
 | [],rs,_,_,r',h=>by cases h;exact ⟨U,U⟩
 | i :: l,rs,he,hi,r',h=>by
   have hm:=hi i bM;unfold Hd at h ⊢;cases hd:zP i rs with
   | none=>rw [hd] at h;cases h
   | some x =>
     rw [hd] at h;have hx:=((XC he hm.1 hm.2).1 x hd).1;rw [RG css he hm hd];show Hd l ((rs.map (xF css)).set i.to.toNat (xF css x))=_∧_;rw [←List.map_set];obtain ⟨g1,g2⟩:=Uv css l _ (flat_set he hx) (fun q hq=>by rw [aJ];exact hi q (bD _ hq)) r' h;exact ⟨g1,by rw [g2,aJ]⟩
theorem LW (css:List (List Int)) {p:PV} {gs:List (List Int)} (h1:1≤gs.length):(wW p gs).map (xF css)=wW p (gs.map (xF css)):=by
 unfold wW;rw [gY];refine dI fun k _=>?_;show xF css (if k<gs.length then _ else _)=_;rw [aW];split
 · rename_i h;rw [Bh h]
 rw [EU,Bh (show 0<gs.length by omega),AX]
theorem Mv (css:List (List Int)) {p:PV} {gs os:List (List Int)} {N:Nat} (hR:uY p=true) (hg:(gs.length:Int)=p.ins) (hN:Flat N gs) (h:vH p gs=some os):vH p (gs.map (xF css))=some (os.map (xF css)):=by
 obtain ⟨f1,f2,f3,f4,f5,f6,f7,f8⟩:=vW hR;have h1:1≤gs.length:=uJ;have hfp:=LU (p:=p) hN h1;unfold vH at h ⊢;rw [He p gs _ (aG _),gX] at h;obtain ⟨s,hs,h2⟩:=gG.1 h;obtain ⟨g1,g2⟩:=Uv css p.code _ hfp (fun i hi=>bz (f8 i hi) (by rw [Bg];omega)) s hs;rw [He p _ _ (aG _),gX,←LW css h1,g1];show some (xE p (s.map (xF css)))=_;rw [←h2];unfold xE;rw [gY];congr 1;refine dI fun r hr=>Bh ?_;have:=f7 r hr;rw [g2,Bg];omega
def wS:Nat→(Nat→Int)→Int
 | 0,_=>0
 | n+1,f=>wS n f+f n
theorem xG {f g:Nat→Int}:∀ {n:Nat},(∀ i,i<n→f i=g i)→wS n f=wS n g
 | 0,_=>rfl
 | n+1,h=>by
   show wS n f+f n=wS n g+g n;rw [xG (fun i hi=>h i uJ),h n uJ]
theorem Fz {f:Nat→Int}:∀ {n:Nat},(∀ i,i<n→f i=0)→wS n f=0
 | 0,_=>rfl
 | n+1,h=>by
   show wS n f+f n=0;rw [Fz (fun i hi=>h i uJ),h n uJ];rfl
theorem AZ (f g:Nat→Int):∀ n,wS n (fun i=>f i+g i)=wS n f+wS n g
 | 0=>rfl
 | n+1=>by
   show wS n _+(f n+g n)=(wS n f+f n)+(wS n g+g n);rw [AZ f g n];omega
theorem Jj (k:Int) (f:Nat→Int):∀ n,wS n (fun i=>k*f i)=k*wS n f
 | 0=>(bV k).symm
 | n+1=>by
   show wS n _+k*f n=k*(wS n f+f n);rw [Jj k f n,bQ]
theorem Da (f:Nat→Int) (a:Nat):∀ b,wS (a+b) f=wS a f+wS b (fun i=>f (a+i))
 | 0=>(cH _).symm
 | b+1=>by
   show wS (a+b) f+f (a+b)=wS a f+(wS b (fun i=>f (a+i))+f (a+b));rw [Da f a b,pH]
theorem Mw (f:Nat→Int) (m:Nat):∀ k,wS (k*m) f=wS k (fun j=>wS m (fun t=>f (j*m+t)))
 | 0=>by rw [jN];rfl
 | k+1=>by
   rw [rN,Da,Mw f m k];rfl
def zN:List Int→Int→Int
 | [],_=>0
 | c :: f,x=>c+x*zN f x
theorem Fh (x:Int):∀ f:List Int,ev f x 1=zN f x
 | []=>rfl
 | c :: f=>by
   show c*1 ^ f.length+x*ev f x 1=c+x*zN f x;rw [Fh x f,Int.one_pow,gR]
theorem Lh (x:Int):∀ n,zN (List.replicate n 0) x=0
 | 0=>rfl
 | n+1=>by
   show 0+x*zN (List.replicate n 0) x=0;rw [Lh x n,bV];rfl
theorem Jk (x:Int):∀ f:List Int,zN f x=wS f.length (fun i=>f[i]?.getD 0*x ^ i)
 | []=>rfl
 | c :: f=>by
   show c+x*zN f x=wS (f.length+1) _;rw [tQ f.length 1,Da,Jk x f,←Jj];show _=(0+c*x ^ 0)+_;rw [lP,gR,iM];congr 1;refine xG fun i _=>?_;show x*(f[i]?.getD 0*x ^ i)=(c :: f)[1+i]?.getD 0*x ^ (1+i);rw [tQ 1 i,gP,lQ]
   ac_rfl
theorem XD (x:Int) (f:List Int) {n:Nat} (h:f.length≤n):zN f x=wS n (fun i=>f[i]?.getD 0*x ^ i):=by
 obtain ⟨d,rfl⟩:=Nat.exists_eq_add_of_le h;rw [Da,Jk,Fz (n:=d),cH];intro i _;rw [bF uJ];exact gM _
theorem IA (x c:Int):∀ (f:List Int) (i:Nat),i<f.length→zN (f.set i (f[i]?.getD 0+c)) x=zN f x+c*x ^ i
 | a :: f,0,_=>by
   show (a+c)+x*zN f x=(a+x*zN f x)+c*x ^ 0;rw [lP,gR];omega
 | a :: f,i+1,h=>by
   show a+x*zN (f.set i (f[i]?.getD 0+c)) x=(a+x*zN f x)+c*x ^ (i+1);rw [IA x c f i (Nat.lt_of_succ_lt_succ h),bQ,lQ,show x*(c*x ^ i)=c*(x ^ i*x) by ac_rfl];omega
theorem Py (x:Int):∀ (f g:List Int),zN (f++g) x=zN f x+x ^ f.length*zN g x
 | [],g=>by
   show zN g x=0+x ^ 0*zN g x;rw [lP,eO,iM]
 | c :: f,g=>by
   show c+x*zN (f++g) x=(c+x*zN f x)+x ^ (f.length+1)*zN g x;rw [Py x f g,bQ,lQ,show x*(x ^ f.length*zN g x)=x ^ f.length*x*zN g x by ac_rfl];omega
theorem IB:∀ (f g:List Int),f.length=g.length→(∀ x:Int,1≤x→zN f x=zN g x)→f=g
 | [],[],_,_=>rfl
 | c :: f,d :: g,hl,h=>by
   have hcd:c=d:=by
    have hx:=h ((c - d).natAbs+1) uJ;have h2:c - d=((c - d).natAbs+1)*(zN g ((c - d).natAbs+1) - zN f ((c - d).natAbs+1)):=by
     replace hx:c+_*_=d+_*_:=hx;rw [kD];omega
    have h3:=Int.eq_zero_of_dvd_of_natAbs_lt_natAbs (d:=((c - d).natAbs:Int)+1) ⟨_,h2⟩ uJ;omega
   subst hcd;rw [IB f g (rO hl) fun x hx=>?_];have h2:c+x*zN f x=c+x*zN g x:=h x hx;have h3:x*zN f x=x*zN g x:=uJ;exact Int.eq_of_mul_eq_mul_left uJ h3
def wK (B:Nat):Nat→Nat→List Nat
 | 0,_=>[]
 | w+1,n=>if n=0 then [] else (n % B) :: wK B w (n / B)
theorem xL (B:Nat):∀ w,wK B w 0=[]
 | 0=>rfl
 | w+1=>aM U
theorem Li {B:Nat} (hB:2≤B):∀ (w v n:Nat),n<B ^ w→n<B ^ v→wK B w n=wK B v n
 | 0,v,n,h,_=>by
   have:n=0:=by rw [iK] at h;omega
   subst this;rw [xL,xL]
 | w+1,0,n,_,h=>by
   have:n=0:=by rw [iK] at h;omega
   subst this;rw [xL,xL]
 | w+1,v+1,n,h,g=>by
   unfold wK;by_cases hn:n=0
   · rw [aM hn,aM hn]
   rw [aE hn,aE hn];rw [dM] at h g;rw [Li hB w v (n / B) ((eY uJ).2 h) ((eY uJ).2 g)]
theorem Yb {B:Nat} (hB:2≤B):∀ (w n:Nat),∀ d∈wK B w n,d<B
 | 0,_,d,h=>xY
 | w+1,n,d,h=>by
   unfold wK at h;split at h
   · cases h
   rcases dK.1 h with rfl | h
   · exact iX _ uJ
   exact Yb hB w _ d h
def EV (B:Nat):List Nat→Nat
 | []=>0
 | d :: l=>d+B*EV B l
theorem Jl {B:Nat} (hB:2≤B):∀ (w n:Nat),n<B ^ w→EV B (wK B w n)=n
 | 0,n,h=>by rw [iK] at h;show 0=n;omega
 | w+1,n,h=>by
   unfold wK;split
   · rename_i hn;exact hn.symm
   rw [dM] at h;show n % B+B*EV B (wK B w (n / B))=n;rw [Jl hB w (n / B) ((eY uJ).2 h)];exact Nat.mod_add_div n B
theorem Uw {B:Nat} (hB:2≤B):∀ (w n:Nat),n<B ^ w→∀ i:Nat,i+1=(wK B w n).length→(wK B w n)[i]?.getD 0≠0
 | 0,_,_,i,h=>xY
 | w+1,n,hw,i,h=>by
   unfold wK at h ⊢;by_cases hn:n=0
   · rw [aM hn] at h;cases h
   rw [aE hn] at h ⊢;rw [dM] at hw;have hq:=(eY (show 0<B by omega)).2 hw;cases i with
   | zero =>
     have hl:(wK B w (n / B)).length=0:=by rw [bN] at h;omega
     have hv:=Jl hB w (n / B) hq;rw [List.length_eq_zero_iff.1 hl] at hv;replace hv:0=n / B:=hv;have:=Nat.mod_add_div n B;rw [←hv,Nat.mul_zero] at this;show n % B≠0;omega
   | succ i =>
     show (wK B w (n / B))[i]?.getD 0≠0;exact Uw hB w (n / B) hq i (by rw [bN] at h;omega)
def Dy:Nat→Nat→List Nat
 | 0,_=>[]
 | k+1,d=>(d % 10) :: Dy k (d / 10)
theorem Pz:∀ k d,(Dy k d).length=k
 | 0,_=>rfl
 | k+1,d=>by show (Dy k (d / 10)).length+1=k+1;rw [Pz k]
theorem Ux:∀ k,Dy k 0=List.replicate k 0
 | 0=>rfl
 | k+1=>by
   show 0 :: Dy k 0=0 :: List.replicate k 0;rw [Ux k]
theorem Bj {B w n:Nat} (hn:n≠0):wK B (w+1) n=(n % B) :: wK B w (n / B):=aE hn
theorem Qa:∀ (k w n:Nat),0<n / 10 ^ k→wK 10 (k+w) n=Dy k (n % 10 ^ k)++wK 10 w (n / 10 ^ k)
 | 0,w,n,_=>by
   rw [iK,Nat.div_one,cF];rfl
 | k+1,w,n,h=>by
   have hn:n≠0:=fun e=>by subst e;rw [Nat.zero_div] at h;omega
   have e1:n / 10 / 10 ^ k=n / 10 ^ (k+1):=by rw [rP,dM,eG]
   rw [show k+1+w=(k+w)+1 by omega,Bj hn,Qa k w (n / 10) (by rw [e1];exact h),e1];show _=((n % 10 ^ (k+1)) % 10) :: Dy k ((n % 10 ^ (k+1)) / 10)++_;have e2:(n % 10 ^ (k+1)) % 10=n % 10:=by
    rw [dM,eG];exact Nat.mod_mul_right_mod _ _ _
   have e3:(n % 10 ^ (k+1)) / 10=n / 10 % 10 ^ k:=by
    rw [dM,eG];exact Nat.mod_mul_right_div_self _ _ _
   rw [e2,e3];rfl
theorem Uy:∀ (k d:Nat),d<10 ^ k→Dy k d=wK 10 k d++List.replicate (k - (wK 10 k d).length) 0
 | 0,_,_=>rfl
 | k+1,d,h=>by
   by_cases hd:d=0
   · subst hd;rw [Ux,xL];rfl
   have hq:d / 10<10 ^ k:=(eY uJ).2 (by rw [dM] at h;exact h);rw [Bj hd];show (d % 10) :: Dy k (d / 10)=_;rw [Uy k (d / 10) hq];show _=(d % 10) :: (wK 10 k (d / 10)++List.replicate (k+1 - ((wK 10 k (d / 10)).length+1)) 0);rw [Nat.add_sub_add_right]
def Lj:List Nat→List Nat
 | []=>[]
 | [p]=>wK 10 9 p
 | p :: q :: l=>Dy 9 p++Lj (q :: l)
theorem Jm:∀ (w n:Nat),n<(10 ^ 9) ^ w→Lj (wK (10 ^ 9) w n)=wK 10 (9*w) n
 | 0,n,h=>by
   have:n=0:=by rw [iK] at h;omega
   subst this;rfl
 | w+1,n,h=>by
   by_cases hn:n=0
   · subst hn;rw [xL,xL];rfl
   have hq:n / 10 ^ 9<(10 ^ 9) ^ w:=(eY uR).2 (by rw [dM] at h;exact h);have ih:=Jm w (n / 10 ^ 9) hq;rw [Bj (B:=10 ^ 9) hn];by_cases hz:n / 10 ^ 9=0
   · rw [hz,xL];show wK 10 9 (n % 10 ^ 9)=_;have hlt:n<10 ^ 9:=by
      have:=Nat.mod_add_div n (10 ^ 9);rw [hz,Nat.mul_zero] at this;have:=iX n (show 0<10 ^ 9 by decide);omega
     rw [eS hlt];exact Li uJ 9 (9*(w+1)) n hlt (bW hlt (eR uJ uJ))
   have hne:wK (10 ^ 9) w (n / 10 ^ 9)≠[]:=fun e=>by
    have hv:=Jl (show 2≤10 ^ 9 by decide) w _ hq;rw [e] at hv;exact hz hv.symm
   obtain ⟨q,l,e⟩:∃ q l,wK (10 ^ 9) w (n / 10 ^ 9)=q :: l:=by
    cases he:wK (10 ^ 9) w (n / 10 ^ 9) with
    | nil=>exact absurd he hne
    | cons q l=>exact ⟨q,l,U⟩
   rw [e];show Dy 9 (n % 10 ^ 9)++Lj (q :: l)=_;rw [←e,ih];have:=Qa 9 (9*w) n uJ;rw [show 9+9*w=9*(w+1) by omega] at this;exact this.symm
def Dz (n:Nat):List Nat:=wK 10 n n
theorem IC {w n:Nat} (h:n<10 ^ w):wK 10 w n=Dz n:=Li uR w n n h (Nat.lt_pow_self uR)
theorem Lk:Dz 0=[]:=rfl
theorem BA (n:Nat):EV 10 (Dz n)=n:=Jl uR n n (Nat.lt_pow_self uR)
theorem ID {n d:Nat} (h:d∈Dz n):d<10:=Yb uR n n d h
theorem BB {n:Nat} (h:n≠0):Dz n≠[]:=fun e=>by
 have:=BA n;rw [e] at this;exact h this.symm
theorem Uz {n:Nat} (h:n≠0):Dz n=(n % 10) :: Dz (n / 10):=by
 obtain ⟨m,rfl⟩:∃ m,n=m+1:=⟨n - 1,by omega⟩
 show wK 10 (m+1) (m+1)=_;rw [Bj uJ,IC];exact kM (show (m+1) / 10≤m by omega) (Nat.lt_pow_self uR)
theorem EW {w n:Nat} (h:n<(10 ^ 9) ^ w):Lj (wK (10 ^ 9) w n)=Dz n:=by
 rw [Jm w n h];exact IC (by rw [sD];exact h)
def xP (n:Nat):List Nat:=if n=0 then [48] else (Dz n).reverse.map (48+·)
def Hm (z:Int):List Nat:=(if z<0 then [45] else [])++xP z.natAbs
theorem Qb {n d:Nat} (h:d∈xP n):48≤d∧d≤57:=by
 unfold xP at h;split at h
 · rw [lN] at h;omega
 obtain ⟨x,hx,rfl⟩:=cV.1 h;have:=ID (uF.1 hx);omega
def Aq (p:Nat):List Nat:=(Dy 9 p).reverse.map (48+·)
theorem Jn (p:Nat):(Aq p).length=9:=by unfold Aq;rw [aW,nG,Pz]
def cutL:List Nat→List Nat
 | []=>[]
 | c :: l=>if c=48 then cutL l else c :: l
theorem BC:∀ (k:Nat) (l:List Nat),cutL (List.replicate k 48++l)=cutL l
 | 0,_=>rfl
 | k+1,l=>by
   show (if 48=48 then cutL (List.replicate k 48++l) else _)=_;rw [aM rfl,BC k l]
theorem XE {c:Nat} {l:List Nat} (h:c≠48):cutL (c :: l)=c :: l:=aE h
theorem RH {w p:Nat} (h:p<10 ^ w):cutL ((wK 10 w p).reverse.map (48+·))=(wK 10 w p).reverse.map (48+·):=by
 cases hr:(wK 10 w p).reverse with
 | nil=>rfl
 | cons c l =>
   have hlen:(wK 10 w p).length=l.length+1:=by rw [←nG,hr,bN]
   have hl:=Uw (show 2≤10 by decide) w p h l.length hlen.symm;have hc:(wK 10 w p)[l.length]?.getD 0=c:=by
    have h2:(wK 10 w p).reverse[0]?=some c:=by rw [hr];rfl
    rw [List.getElem?_reverse uJ,hlen,show l.length+1 - 1 - 0=l.length by omega] at h2;rw [h2];rfl
   rw [hc] at hl;show cutL ((48+c) :: l.map (48+·))=_;rw [XE uJ];rfl
theorem RK {p:Nat} (h:p<10 ^ 9):cutL (Aq p)=(wK 10 9 p).reverse.map (48+·):=by
 unfold Aq;rw [Uy 9 p h,pS,iL,List.reverse_replicate,List.map_replicate,BC];exact RH h
def Am:List Nat→List Nat
 | []=>[]
 | [p]=>cutL (Aq p)
 | p :: q :: l=>Am (q :: l)++Aq p
theorem BD:∀ ps:List Nat,(∀ p∈ps,p<10 ^ 9)→Am ps=(Lj ps).reverse.map (48+·)
 | [],_=>rfl
 | [p],h=>RK (h p bM)
 | p :: q :: l,h=>by
   show Am (q :: l)++Aq p=(Dy 9 p++Lj (q :: l)).reverse.map (48+·);rw [BD (q :: l) fun x hx=>h x (bD _ hx),pS,iL];rfl
theorem LX {w n:Nat} (h:n<(10 ^ 9) ^ w) (hn:n≠0):Am (wK (10 ^ 9) w n)=xP n:=by
 rw [BD _ (Yb uR w n),EW h];exact (aE hn).symm
def Qc:List Nat→Nat→Nat
 | [],a=>a
 | d :: l,a=>Qc l (10*a+d)
theorem Jo:∀ (l k:List Nat) (a:Nat),Qc (l++k) a=Qc k (Qc l a)
 | [],_,_=>rfl
 | d :: l,k,a=>Jo l k (10*a+d)
theorem Va:∀ l:List Nat,Qc l.reverse 0=EV 10 l
 | []=>rfl
 | d :: l=>by
   rw [tR,Jo,Va l];show 10*EV 10 l+d=d+10*EV 10 l;omega
theorem RM (n:Nat):Qc (Dz n).reverse 0=n:=by rw [Va,BA]
structure U8 where
 v:Int
 deriving DecidableEq
instance:Inhabited U8:=⟨⟨0⟩⟩
instance:A2 U8:=⟨1,fun n=>[.int .u8 n.v],fun _=>rfl,fun _=>rfl⟩
structure RS where
 k:Nat
 wr:Bool
def nx (B:List U8) (s:RS) (g:Int→Bool):Int×RS:=
 if s.wr=true∨s.k=B.length∨g (B[s.k]?.getD default).v=false then (0,⟨s.k,true⟩) else ((B[s.k]?.getD default).v,⟨s.k+1,false⟩)
def ru (op c:Int):Bool:=
 if op=5∨op=6 then decide ((c≠0∧-512≤c)∧c≤512) else if op=7∨op=8 then decide (1≤c∧c≤64) else decide (c=0)
def i16 (h l:Int):Int:=if 32768≤h*256+l then h*256+l - 65536 else h*256+l
def hiC (op h:Int):Bool:=(List.range 256).any fun l=>ru op (i16 h (l:Int))
structure UV where
 k1:Int
 k2:Int
 pl:List R2
 x:PV
 y:PV
 z:PV
end Go.Proofs.YtngphgeghfdjbaaGreatDoor
namespace Go.Sl
open Go
section
variable {P:Program} {B:Bs} {e:B0} {D:List Deferred} {H H':Hp} {G:A3}
end
abbrev rv (x y:Option Nat×Obj) (T:Hp):Hp:=(0,x) :: (1,y) :: T.shift 2
section
variable {P:Program} {ops:Array Oper} {rest:List Oper} {B:Bs} {e:B0} {D:List Deferred} {H:Hp} {G:A3} {K:Act→World→Prop}
 {ty:TypeId} {pos:String} {after:Array Edge} {d:Nat}
end
section
variable {P:Program} {B:Bs} {e:B0} {D:List Deferred} {H:Hp} {G:A3}
theorem EX {ι:Type} {I:ι→B0×Hp} {T:ι→Hp} {g:ι→A3} {k:Nat} {φ:ι→Prop} {μ:ι→Nat} {m:Nat} {Q:Exit→Act→World→Prop} (j:ι) (hφ:φ j) (hμ:μ j<m) (hg:G=g j)
 (he:e.sub (I j).1) (hH:H.sub (I j).2) (ht:H.tl k (T j)):Ar (Exit.then (If B (fun i=>⟨(I i).1,D,(I i).2++(T i).shift k,g i⟩) φ μ m) Q) .normal B ⟨e,D,H,G⟩:=
 fun a w hh=>⟨j,hφ,hμ,by rw [hg] at hh;exact hh.cutT he hH ht⟩
end
section stmt
variable {P:Program} {B:Bs} {e:B0} {D:List Deferred} {H:Hp} {G:A3}
variable {β γ ι:Type} {Q:Exit→Act→World→Prop} {f:FuncId} {caps:List Value} {enc:β→γ→List Value} {o1 o2:β→γ→Option Nat×Obj} {good:β→γ→Prop} {xs:List β} {ps:List Nat} {assign body:Code} {g:Operand}
end stmt
section
variable {P:Program} {e:B0} {H:Hp} {G:A3} {ty:TypeId}
end
abbrev rx:=(Option Nat×Obj)×(Option Nat×Obj)
def Hp.keep (t:Nat):List rx→Hp
 | []=>[]
 | z :: zs=>(t,z.1) :: (t+1,z.2) :: Hp.keep (t+2) zs
section
variable {P:Program} {B:Bs} {e:B0} {D:List Deferred} {H:Hp} {G:A3}
end
def B7 (G:A3) (b:Nat) (cs:List Value):Prop:=G.row b 0 cs
theorem B7.up {G G':A3} {b:Nat} {cs:List Value} (h:B7 G b cs) (hl:G.le G'):B7 G' b cs:=Oj hl h
theorem B7.cell {G:A3} {b k:Nat} {cs:List Value} {v:Value} (h:B7 G b cs) (hv:cs[k]?=some v):G.cell b k=some v:=by
 have:=h k v hv;rwa [cF] at this
theorem B7.row {G:A3} {b off k:Nat} {cs vs:List Value} (h:B7 G b cs) (hv:(cs.drop off).take k=vs):G.row b off vs:=fun i v hi=>by
 subst hv;rw [fO] at hi;split at hi
 · exact h.cell (by simpa using hi)
 cases hi
theorem B7.of {G:A3} {b:Nat} {cs:List Value} {bt:TypeId} {fz:Nat×Nat} (h:G b=some (.cells cs.toArray bt fz)):B7 G b cs:=fun i v hi=>by
 simp only [A3.cell,h,cF,oU];exact hi
section
variable {P:Program} {e:B0} {H:Hp} {G:A3} {ty T:TypeId}
theorem RN {x:Operand} {b off:Nat} {cs:List Value} {v:Value} (h1:xB P T=true) (hx:e.ev x=some (.pointer (some ⟨b,off,none⟩))) (h:B7 G b cs) (hv:cs[off]?=some v):Qy P (.load T x) ty e H G v:=cS h1 hx (h.cell hv)
end
def Yc (P:Program) (t:TypeId):Bool:=match P.underlying t with | some (.pointer _)=>true | _=>false
theorem Br {P:Program} {t:TypeId} {a:Option Addr} (ht:Yc P t=true) (d:Nat) (w:World):(Op.equalIn (d+1) t (.pointer a) (.pointer none)).run P w=.ok (decide (a=none)) w:=by
 unfold Yc at ht;split at ht
 · rename_i e h;cases a <;> simp [Op.equalIn,aQ h]
 cases ht
section
variable {P:Program} {e:B0} {H:Hp} {G:A3} {ty:TypeId}
theorem Qy.eqlPtrNil {t t':TypeId} {x y:Operand} {a:Option Addr} (ht:Yc P t=true) (hx:e.ev x=some (.pointer a)) (hy:e.ev y=some (.pointer none)):Qy P (.binOp .eql t x y t') ty e H G (.bool (decide (a=none))):=fun w0 w _ _ _ _ hh=>by
 have h:=Br (a:=a) ht 9999 w;simp [execOp,hh.eval hx,hh.eval hy,binOp,eqGuard,Op.equal,Op.maxDepth,h]
end
theorem Does.frzAll {P:Program} {f:FuncId} {args:List Value} {G:A3} {Hi:Hp} {post:Value→A3→Hp→Prop} (h:Does P f args G Hi post) :
 Does P f args G Hi (fun v G' Ho=>∃ G0 Ho0,post v G0 Ho0∧G0.le G'∧Xg Ho0 G'∧Ho=[]):=by
 intro w hw;refine (h w hw).mono fun x w' ⟨v,G0,Ho0,h1,h2,h3,h4,h5,h6,h7⟩=>?_;obtain ⟨Gx,g1,g2,g3,g4⟩:=h2.lend;refine ⟨v,Gx,[],h1,g3,bH h3 g1,h4,fun b hb h0=>?_,fun t b o hx=>by simp [Hp.get] at hx,G0,Ho0,h7,g1,g2,U⟩;by_cases hg:G0 b=none
 · obtain ⟨t,o,ht⟩:=g4 b hb hg;exact h6 t b o ht
 exact h5 b hg h0
namespace Tx
theorem loop (b:ByteArray):∀ (k i:Nat) (r:List UInt8),b.size=i+k→ByteArray.toList.loop b i r=r.reverse++b.data.toList.drop i:=by
 intro k;induction k with
 | zero =>
   intro i r h;rw [ByteArray.toList.loop,aE (by omega),cY (by have:b.data.toList.length=b.size:=rfl;omega),fH]
 | succ k ih =>
   intro i r h;rw [ByteArray.toList.loop,aM (by omega),ih (i+1) _ uJ];have hl:i<b.data.toList.length:=by show i<b.size;omega
   rw [eN hl,tR,cU];have hs:i<b.size:=uJ;have:b.get! i=b.data.toList[i]:=by
    show b.data[i]! = _;rw [pV b.data i hs];rfl
   rw [this];rfl
theorem toList (l:List UInt8):(ByteArray.mk l.toArray).toList=l:=by
 show ByteArray.toList.loop _ 0 []=l;rw [loop _ _ 0 [] (cF _).symm];simp
theorem size (l:List UInt8):(ByteArray.mk l.toArray).size=l.length:=by show l.toArray.size=_;simp
theorem ext {a b:ByteArray} (h:a.data=b.data):a=b:=by cases a;cases b;exact congrArg _ h
theorem extract (l:List UInt8) (i j:Nat):(ByteArray.mk l.toArray).extract i j=⟨((l.drop i).take (j - i)).toArray⟩:=by
 apply ext;rw [ByteArray.data_extract];simp [List.extract_eq_take_drop]
theorem push_all:∀ (bs:List UInt8),((bs.map fun b=>(b.toNat:Int)).foldl (fun r n=>ByteArray.push r (UInt8.ofNat n.toNat)) ByteArray.empty)=⟨bs.toArray⟩:=by
 have key:∀ (bs:List UInt8) (s:List UInt8),((bs.map fun b=>(b.toNat:Int)).foldl (fun r n=>ByteArray.push r (UInt8.ofNat n.toNat)) ⟨s.toArray⟩)=⟨(s++bs).toArray⟩:=by
  intro bs;induction bs with
  | nil=>intro s;simp
  | cons b bs ih =>
    intro s;rw [cA,List.foldl_cons];have e:ByteArray.push ⟨s.toArray⟩ (UInt8.ofNat ((b.toNat:Int)).toNat)=⟨(s++[b]).toArray⟩:=by
     simp [ByteArray.push]
    rw [e,ih,cU];rfl
 intro bs;exact key bs []
def u8s (bs:List UInt8):List Value:=bs.map fun b=>Value.int .u8 b.toNat
theorem u8s_len (bs:List UInt8):(u8s bs).length=bs.length:=by simp [u8s]
theorem freezeN {w:World} {b k:Nat} (hk:k≠0):D2 (·=b) w (w.freeze ⟨b,0,none⟩ k):=by
 have e:∃ f,w.freeze ⟨b,0,none⟩ k={ w with heap:=w.heap.modify b f }:=⟨_,by unfold World.freeze;simp only [hk,fJ];rfl⟩
 obtain ⟨f,e⟩:=e;rw [e];exact ⟨U,U,U,by simp,fun j _ hj=>by
  have hj':b≠j:=fun e=>hj e.symm;simp [kT,hj']⟩
theorem find {fn : Func} (hn : fn.name = "internal/abi.NoEscape") (ho : fn.origin = "") : Extern.findNext fn = none ∧ Extern.find fn = some Extern.AbiNoEscape.same := by
 have h1 : Extern.allNextRows.lookup "internal/abi.NoEscape" = none := by kernel_rfl
 have h2 : Extern.allNextRows.lookup "" = none := by kernel_rfl
 refine ⟨?_,?_⟩
 · unfold Extern.findNext;simp only [hn,ho,h1,h2];rfl
 unfold Extern.find;simp only [hn];have h3 : Extern.allGenericRows.lookup "internal/abi.NoEscape" = none := by kernel_rfl
 have h4 : Extern.allTypedRows.lookup "internal/abi.NoEscape" = none := by kernel_rfl
 simp only [h3,h4];rfl
end Tx
section
open Tx (u8s)
section
variable {P:Program} {e:B0} {H:Hp} {G:A3} {ty T:TypeId}
theorem LY {x:Operand} {bs:List UInt8} (ht:P.underlying T=some .string) (hx:e.ev x=some (.string ⟨bs.toArray⟩)):Qy P (.call { callee:=.builtin .len,args:=#[x],argTypes:=#[T] }) ty e H G (.int .i64 bs.length):=fun a w _ _ _ _ hh=>by
 have:=Tx.size bs;simp [execOp,resolve,invoke,builtin,Builtin.len_,hh.eval hx,aQ ht,goInt,this]
abbrev tZ:=@LY
theorem Ll {t t':TypeId} {x y:Operand} {m n:List UInt8} (hx:e.ev x=some (.string ⟨m.toArray⟩)) (hy:e.ev y=some (.string ⟨n.toArray⟩)):Qy P (.binOp .eql t x y t') ty e H G (.bool (decide (m=n))):=fun a w _ _ _ _ hh=>by
 have h1:=Tx.toList m;have h2:=Tx.toList n;have h3:(m == n)=decide (m=n):=by by_cases h:m=n <;> simp [h]
 simp [execOp,hh.eval hx,hh.eval hy,binOp,eqGuard,Op.stringOp,h1,h2,h3]
theorem LZ {x i:Operand} {bs:List UInt8} {k:IntKind} {m:Int} (hT:P.underlying T=some .string) (hx:e.ev x=some (.string ⟨bs.toArray⟩)) (hi:e.ev i=some (.int k m)) (hm:0≤m∧m<bs.length) :
 Qy P (.index T x i) ty e H G (.int .u8 (bs[m.toNat]?.getD 0).toNat):=fun a w _ _ _ _ hh=>by
 have hlt:m.toNat<bs.length:=uJ;have e7:(ByteArray.mk bs.toArray)[m.toNat]?=some (bs[m.toNat]?.getD 0):=by
  have hs':m.toNat<(ByteArray.mk bs.toArray).size:=by rw [Tx.size];exact hlt
  rw [getElem?_pos (ByteArray.mk bs.toArray) m.toNat hs',aA hlt];rfl
 simp [execOp,hh.eval hx,hh.eval hi,Instr.index,asIntOf,aQ hT,hm.1,e7]
abbrev uA:=@LZ
theorem EY {x lo:Operand} {bs:List UInt8} {k:IntKind} {m:Int} (hT:P.underlying T=some .string) (hx:e.ev x=some (.string ⟨bs.toArray⟩)) (hl:e.ev lo=some (.int k m)) (hm:0≤m∧m≤bs.length) :
 Qy P (.slice T x (some lo) none none) ty e H G (.string ⟨(bs.drop m.toNat).toArray⟩):=fun a w _ _ _ _ hk=>by
 have hs:=Tx.size bs;have hx2:=Tx.extract bs m.toNat bs.length;have ht:(bs.drop m.toNat).take (bs.length - m.toNat)=bs.drop m.toNat:=eQ vL;rw [ht] at hx2;have h1:m.toNat≤bs.length:=uJ;have h2:((m.toNat:Nat):Int)=m:=uJ;simp [execOp,Instr.sliceAt,Instr.slice,hk.eval hx,hk.eval hl,aQ hT,Instr.sliceBounds,Instr.sliceBound,asIntOf,hs,hm.1,hm.2,h1,h2,hx2]
theorem RO {α:Type} [A2 α] {s t E:TypeId} {x:Operand} {ad:Option Addr} {c:Nat} {ys:List α} (bs:List UInt8) (hs:P.underlying s=some (.slice E)) (hE:P.underlying E=some (.int .u8)) (ht:P.underlying t=some .string)
 (hx:e.ev x=some (.slice ad ys.length c)) (hsz:A2.sz α=1) (hsrc:Src H G ad ys) (hb:uT ys=u8s bs):Qy P (.convert s t x) ty e H G (.string ⟨bs.toArray⟩):=fun a w _ _ _ _ hh=>by
 have hlen:ys.length=bs.length:=by
  have h1:=congrArg List.length hb;rw [uV,hsz,jT,Tx.u8s_len] at h1;exact h1
 have hrun:=run_convert_bytes_string (P:=P) w s t E ad ys.length c hs hE ht;rcases hsrc w hh.mem with ⟨rfl,rfl⟩ | ⟨src,rfl,hsr⟩
 · have hb0:bs=[]:=bS (by rw [←hlen];rfl);subst hb0;simp only [execOp,hh.eval hx,bL,hrun,Conv.bytesToString,bR,aO];rfl
 have hld:(loadCells src ys.length).run P w=.ok ((bs.map fun b=>(b.toNat:Int)).map (Value.int .u8)).toArray w:=by
  have:=kI (P:=P) w src (uT ys) hsr;rw [uV,hsz,jT,hb] at this;rw [this,gY];rfl
 simp only [execOp,hh.eval hx,bL,hrun,run_bytesToString w _ _ _ _ hld,aO,bR];rw [Tx.push_all]
abbrev tL:=@RO
theorem BE {x:Operand} {b n E sz:Nat} (hu:P.underlying T=some (.array n E)) (hs:(P.info? E).map (·.size)=some sz) (hx:e.ev x=some (.pointer (some ⟨b,0,none⟩))) :
 Qy P (.slice T x none none none) ty e H G (.slice (some ⟨b,0,none⟩) n n):=fun a w _ _ _ _ hh=>by
 have hr:=run_sizeOf (P:=P) w hs;simp [execOp,Instr.sliceAt,hh.eval hx,aQ hu,Instr.sureAddr,Instr.sliceBounds,Instr.sliceBound,hr,add_lit]
theorem MA {x i:Operand} {b n E sz:Nat} {k:IntKind} {m:Int} (hu:P.underlying T=some (.array n E)) (hs:(P.info? E).map (·.size)=some sz) (hx:e.ev x=some (.pointer (some ⟨b,0,none⟩))) (hi:e.ev i=some (.int k m))
 (hb:0≤m∧m<n):Qy P (.indexAddr T x i) ty e H G (.pointer (some ⟨b,0+m.toNat*sz,none⟩)):=fun a w _ _ _ _ hh=>by
 simp [execOp,Instr.indexAt,hh.eval hx,hh.eval hi,asIntOf,aQ hu,Instr.sureAddr,hb,run_sizeOf w hs,add_lit]
theorem BF {s t u:TypeId} {x:Operand} {b k:Nat} {cs:List Value} {bt:TypeId} {fz:Nat×Nat} (tg:Nat) (hs:P.underlying s=some (.pointer u)) (ht:P.underlying t=some .unsafePointer) (hu:(P.info? u).map (·.size)=some (k+1))
 (hx:e.ev x=some (.pointer (some ⟨b,0,none⟩))) (hb:H.get tg=some (some b,.cells cs.toArray bt fz)) (h0:Nat.ble 1 cs.length=true):Qy P (.convert s t x) ty e H G (.pointer (some ⟨b,0,none⟩)):=fun a w _ _ _ _ hh=>by
 have h0:=bK h0;have h3:=hh.mem.own tg b _ hb;have hsh:w.shape? b=some (bt,cs.toArray.size):=by unfold World.shape?;rw [h3]
 obtain ⟨j,hj1,hj2⟩:=gG.1 hu;simp only [execOp,hh.eval hx,bL,Lib.run_to_unsafe w ⟨b,0,none⟩ hs ht hj1 uJ hsh (by simp;omega),aO,bR]
theorem BG {s t u:TypeId} {x:Operand} {b n:Nat} {cs:List Value} {bt:TypeId} {fz:Nat×Nat} (tg:Nat) (hs:P.underlying s=some .unsafePointer) (ht:P.underlying t=some (.pointer u)) (hu:(P.info? u).isSome=true)
 (hx:e.ev x=some (.pointer (some ⟨b,0,none⟩))) (hb:H.get tg=some (some b,.cells cs.toArray bt fz)) (hn:cs.length=n) (hl:liesAt P P.depth bt (n / P.cellsOf bt) 0 u 1=true):Qy P (.convert s t x) ty e H G (.pointer (some ⟨b,0,none⟩)):=fun a w _ _ _ _ hh=>by
 have h3:=hh.mem.own tg b _ hb;have hsh:w.shape? b=some (bt,n):=by unfold World.shape?;rw [h3];simp [hn]
 obtain ⟨j,hj1⟩:=Option.isSome_iff_exists.1 hu;simp only [execOp,hh.eval hx,bL,Lib.run_from_unsafe w ⟨b,0,none⟩ hs ht hj1 hsh hl,aO,bR]
theorem BH {f : FuncId} {x : Operand} {ats : Array TypeId} {v : Value} {fn : Func} (hf : P.funcs[f]? = some fn) (hn : fn.name = "internal/abi.NoEscape") (ho : fn.origin = "") (hb : fn.body.isNone = true) (hx : e.ev x = some v) :
 Qy P (.call { callee:=.value (.func f),args:=#[x],argTypes:=ats }) ty e H G v:=fun a w _ _ _ _ hh=>by
 obtain ⟨k1,k2⟩:=Tx.find hn ho;have hcall:=run_callFunc_extern (P:=P) hf (by rw [hn];decide) hb k1 k2 #[v] w;rw [Lib.run_noEscape] at hcall;have hf':a.eval (.func f)=.func (.func f) #[] #[]:=rfl;simp [execOp,resolve,Deferred.ofValue,invoke,hf',hh.eval hx,hcall]
theorem Ln {w:World} {t u:TypeId} {k:Nat} {a:Addr} (ht:P.underlying t=some (.pointer u)) (hu:(P.info? u).map (·.size)=some (k+1)) (d:Nat):(Op.equalIn (d+1) t (.pointer (some a)) (.pointer (some a))).run P w=.ok true w:=by
 obtain ⟨j,hj,hs⟩:=gG.1 hu;have h0:j.size≠0:=uJ;simp [Op.equalIn,aQ ht,sizeOf,typeInfo,hj,tI]
theorem Td {t t' u:TypeId} {x y:Operand} {k:Nat} {a:Addr} (ht:P.underlying t=some (.pointer u)) (hu:(P.info? u).map (·.size)=some (k+1)) (hx:e.ev x=some (.pointer (some a))) (hy:e.ev y=some (.pointer (some a))):Qy P (.binOp .neq t x y t') ty e H G (.bool false):=fun w0 w _ _ _ _ hh=>by
 have h:=Ln (a:=a) (w:=w) ht hu 9999;simp [execOp,hh.eval hx,hh.eval hy,binOp,eqGuard,Op.equal,Op.maxDepth,h]
theorem Ye {ts:Array TypeId} {x:Operand} {a:Addr} {n c:Nat} (hx:e.ev x=some (.slice (some a) n c)) (hc:0<c):Qy P (.call { callee:=.builtin .unsafeSliceData,args:=#[x],argTypes:=ts }) ty e H G (.pointer (some a)):=fun ac w _ _ _ _ hh=>by
 have hc':c≠0:=uJ;simp [execOp,resolve,invoke,builtin,hh.eval hx,pZ _ _ _ _ _ _ hc']
end
section
variable {P:Program} {ops:Array Oper} {rest:List Oper} {B:Bs} {e:B0} {D:List Deferred} {H:Hp} {G:A3} {K:Act→World→Prop}
 {ty:TypeId} {pos:String} {after:Array Edge} {d:Nat}
theorem A7.lose {a:Act} {w w':World} {t b:Nat} {o:Obj} (hh:A7 B ⟨e,D,H,G⟩ a w) (ht:H.get t=some (some b,o)) (hu:D2 (·=b) w w'):A7 B ⟨e,D,(t,none,default) :: H,G⟩ a w':=by
 have hlt:b<w'.heap.size:=bW (hh.mem.lt ht) hu.size;have h1:=(hh.set ht hu (Array.getElem?_eq_getElem hlt)).noBlock t default;refine h1.weaken (fun _ _ h=>h) fun i x hx=>?_;rw [bZ] at hx ⊢;by_cases hi:t=i
 · rw [aM hi] at hx ⊢;exact hx
 rw [aE hi] at hx ⊢;rw [bZ,aE hi];exact hx
theorem EZ {α:Type} [A2 α] {pt it E:TypeId} {x y:Operand} {b:Nat} {ys:List α} {junk:List Value} (t:Nat) (bs:List UInt8) (hn:Nat.ble (d+1) B.n=true) (hp:P.underlying pt=some (.pointer E)) (hc:P.cellsOf E=1)
 (hx:e.ev x=some (.pointer (some ⟨b,0,none⟩))) (hy:e.ev y=some (.int .i64 ys.length)) (ht:H.get t=some (some b,Row E ys junk)) (hsz:A2.sz α=1) (hb:uT ys=u8s bs) (h0:bs≠[]) (hm:ys.length≤maxLen)
 (h:Wl P ops rest B ⟨(d,.string ⟨bs.toArray⟩) :: e,D,(t,none,default) :: H,G⟩ K) :
 Wl P ops (⟨some d,.call { callee:=.builtin .unsafeString,args:=#[x,y],argTypes:=#[pt,it] },ty,pos,after,none⟩ :: rest) B ⟨e,D,H,G⟩ K:=by
 intro a w hh;have hlen:ys.length=bs.length:=by
  have h1:=congrArg List.length hb;rw [uV,hsz,jT,Tx.u8s_len] at h1;exact h1
 have h3:=hh.mem.own t b _ ht;have hsh:w.shape? b=some (E,(uT ys++junk).toArray.size):=by unfold World.shape?;rw [h3];rfl
 have hfl:(uT ys).length=bs.length:=by rw [hb,Tx.u8s_len]
 have hrun:=Lib.run_unsafeString_row (P:=P) (w:=w) pt it ty E hp hc b _ hsh bs h0 (by simp;omega) (by simp only [maxLen] at hm;omega) (fun j x hjx=>by
  rw [add_lit,cell_of_block h3,cF];have hjl:j<bs.length:=(aR.1 hjx).1;rw [bC uJ,hb];unfold u8s;rw [bJ,hjx];rfl)
 unfold uZ;rw [aM (by simp [Region.wanted])];unfold Ag;have hex:(execOp a.eval ⟨some d,.call { callee:=.builtin .unsafeString,args:=#[x,y],argTypes:=#[pt,it] },ty,pos,after,none⟩).run P w=.ok (.value (.string ⟨bs.toArray⟩)) (w.freeze ⟨b,0,none⟩ bs.length):=by
  rw [hlen] at hy;simp only [execOp,resolve,invoke,builtin,bL,bR,aO,kH,cA,jO,hh.eval hx,hh.eval hy,hrun]
 rw [hex];exact h _ _ (A7.put (hh.lose ht (Tx.freezeN (by simpa using h0))) hn _)
theorem BI {α:Type} [A2 α] {w:World} (hw:B6 H G w) {T Ts E bytes:Nat} {zs:List Value} (hT:uX P T E (A2.sz α)) (hTs:P.underlying Ts=some .string) (hE:B8 P E (A2.sz α) bytes zs) (h1:A2.sz α=1) {t:Nat} {a:Option Addr} {c:Nat} {xs ys:List α} {junk:List Value}
 {bs:List UInt8} (ht:H.get t=some (a.map (·.block),Row E xs junk)) (ho:A5 a c xs junk) (hys:uT ys=u8s bs) (hb:(xs.length+ys.length)*bytes≤140737488355328) (hl:xs.length+ys.length≤maxLen) :
 ∃ a' c' junk' w',(Builtin.append_ #[T,Ts] ty #[.slice a xs.length c,.string ⟨bs.toArray⟩]).run P w=.ok (.slice a' (xs++ys).length c') w'∧A5 a' c' (xs++ys) junk'∧
  ((a'=none∧a=none∧w'=w)∨
   (∃ b,a'=some ⟨b,0,none⟩∧a=a'∧D2 (·=b) w w'∧w'.heap[b]?=some (Row E (xs++ys) junk'))∨
   (a'=some ⟨w.heap.size,0,none⟩∧D2 (fun _=>False) w w'∧w'.heap.size=w.heap.size+1∧w'.heap[w.heap.size]?=some (Row E (xs++ys) junk'))):=by
 obtain ⟨i,z,hi,hz1,hz2,hs,hby,hzl,hsz⟩:=hE;have hi1:i.size=1:=by rw [hs,h1]
 have hlen:(xs++ys).length=xs.length+ys.length:=aI;have hyl:(uT ys).length=ys.length:=by rw [uV,h1,jT]
 have hxl:(uT xs).length=xs.length:=by rw [uV,h1,jT]
 have hbl:bs.length=ys.length:=by rw [←hyl,hys,Tx.u8s_len]
 have hsr:Go.Src P i.size Ts (.string ⟨bs.toArray⟩) ys.length (uT ys) w:=by
  have h9:=Go.Src.ofString (P:=P) w hTs (ByteArray.mk bs.toArray);have h8:byteCells (ByteArray.mk bs.toArray)=uT ys:=by rw [hys];unfold byteCells u8s;simp
  rw [Tx.size,hbl,h8] at h9;rw [hi1];exact h9
 have hm63:((xs.length+ys.length:Nat):Int)≤9223372036854775807:=by simp only [maxLen] at hl;omega
 have junkLen:∀ k,(Builtin.zeroCells z.cells k).toList.length=k*A2.sz α:=fun k=>by
  rw [lB,rW,hz2];simp [hzl]
 have fresh:∀ old,old<xs.length+ys.length→∃ junk',A5 (some ⟨w.heap.size,0,none⟩) (grownCap w (xs.length+ys.length) old E) (xs++ys) junk'∧
  (w.drew.alloc (.cells ((uT xs++uT ys).toArray++Builtin.zeroCells z.cells (grownCap w (xs.length+ys.length) old E - (xs.length+ys.length))) E)).heap[w.heap.size]?=some (Row E (xs++ys) junk'):=fun old hold=>by
  have hge:=grownCap_ge w (xs.length+ys.length) old E;have hcm:grownCap w (xs.length+ys.length) old E≤maxLen:=qE w _ old E hl;refine ⟨(Builtin.zeroCells z.cells (grownCap w (xs.length+ys.length) old E - (xs.length+ys.length))).toList,.inr ⟨_,U,?_,by rw [hlen];exact hge,hcm⟩,?_⟩
  · rw [junkLen,hlen,←eB];congr 1;omega
  rw [show w.heap.size=w.drew.heap.size from rfl,vQ];congr 1;simp [Row,wB]
 have hupd:∀ o,D2 (fun _=>False) w (w.drew.alloc o):=fun o=>(lE _ w).drew.alloc o;have grow:∀ old (base:Option Addr),old<xs.length+ys.length→(Builtin.firstCells i.size xs.length (.slice base xs.length old)).run P w.drew=.ok (uT xs).toArray w.drew→
  Builtin.nextslicecap (xs.length+ys.length) old*i.bytes≤281474976710656→∃ a' c' junk' w',(Builtin.append_ #[T,Ts] ty #[.slice base xs.length old,.string ⟨bs.toArray⟩]).run P w=.ok (.slice a' (xs++ys).length c') w'∧A5 a' c' (xs++ys) junk'∧
   (a'=some ⟨w.heap.size,0,none⟩∧D2 (fun _=>False) w w'∧w'.heap.size=w.heap.size+1∧w'.heap[w.heap.size]?=some (Row E (xs++ys) junk')):=fun old base hold hfc hfit=>by
  have hr:=run_append_grow_src (P:=P) w T Ts ty E i z hT.1 hi hz1 base xs.length old (uT xs) hfc (.string ⟨bs.toArray⟩) ys.length (uT ys) hsr hold hm63 hfit;obtain ⟨junk',g1,g2⟩:=fresh old hold;exact ⟨_,_,junk',_,by rw [hlen];exact hr,g1,U,hupd _,by simp,g2⟩
 rcases ho with ⟨rfl,rfl,rfl,rfl⟩ | ⟨b,rfl,hj,hc,hcm⟩
 · by_cases h0:ys.length=0
   · have hy:ys=[]:=bS h0;subst hy;have hbn:bs=[]:=bS (by rw [hbl];rfl);subst hbn;refine ⟨none,0,[],w,?_,fN,.inl vL⟩;have hsz0:(ByteArray.mk (#[]:Array UInt8)).size=0:=rfl;simp [Builtin.append_,aQ hT.1,aQ hTs,sizeOf,typeInfo,hi,Builtin.lenOf,Builtin.firstCells,loadCells,loadCellsFrom,hsz0]
   obtain ⟨a',c',junk',w',g1,g2,g3⟩:=grow 0 none GX (by simp [Builtin.firstCells,uT]) (by
    have:Builtin.nextslicecap (([]:List α).length+ys.length) 0*i.bytes≤281474976710656:=qD GX (by rw [hby];exact hb);exact this)
   exact ⟨a',c',junk',w',g1,g2,.inr (.inr g3)⟩
 have hblk:=hw.own t b _ ht;by_cases hroom:xs.length+ys.length≤c
 · have hcsz:(uT xs++junk).toArray.size=c:=by simp [uV,h1] at hj ⊢;omega
   have hfit:xs.length*i.size+0+(uT ys).length≤(uT xs++junk).toArray.size:=by rw [hcsz,hyl,hi1];omega
   have hst:=mF P b (xs.length*i.size) E (uT ys) 0 (uT xs++junk).toArray w hblk hfit (fun u hu=>eT.1 (Ii _) u hu);simp only [fQ] at hst;have hr:(Builtin.append_ #[T,Ts] ty #[.slice (some ⟨b,0,none⟩) xs.length c,.string ⟨bs.toArray⟩]).run P w=.ok (.slice (some ⟨b,0,none⟩) (xs.length+ys.length) c)
    (w.setRow b ((uT xs++junk).toArray.toList.take (xs.length*i.size)++uT ys++(uT xs++junk).toArray.toList.drop (xs.length*i.size+(uT ys).length)).toArray):=by
    simp [Builtin.append_,aQ hT.1,aQ hTs,sizeOf,typeInfo,hi,hsr.len,hroom,hsr.cells,Addr.add_lit,hst]
   have e1:((uT xs++junk).toArray.toList.take (xs.length*i.size)++uT ys++(uT xs++junk).toArray.toList.drop (xs.length*i.size+(uT ys).length))=uT (xs++ys)++junk.drop (uT ys).length:=by
    rw [hs,Ec,wB];congr 1;rw [←uV,mH]
   rw [e1] at hr;refine ⟨_,_,junk.drop (uT ys).length,_,by rw [hlen];exact hr,.inr ⟨b,U,?_,by rw [hlen];exact hroom,hcm⟩,.inr (.inl ⟨b,U,U,wR w b _,?_⟩)⟩
   · rw [cE,hlen,h1,hyl];rw [h1] at hj;omega
   rw [mK w b _ _ E _ hblk];rfl
 have hcell:∀ j v,(uT xs)[j]?=some v→w.drew.cell? ((⟨b,0,none⟩:Addr).add j)=some v:=fun j v hv=>by
  have:w.cell? ((⟨b,0,none⟩:Addr).add j)=some v:=by
   rw [add_lit,cF,cell_of_block hblk,bC (aR.1 hv).1];exact hv
  simpa using this
 obtain ⟨a',c',junk',w',g1,g2,g3⟩:=grow c (some ⟨b,0,none⟩) uJ (sY w.drew i.size xs.length ⟨b,0,none⟩ xs.length c (uT xs) (by rw [hxl,hi1,jT]) hcell) (qD uJ (by rw [hby];exact hb));exact ⟨a',c',junk',w',g1,g2,.inr (.inr g3)⟩
theorem FA {α:Type} [A2 α] {s x:Operand} {T Ts E bytes:Nat} {zs:List Value} {a:Option Addr} {c:Nat} {xs:List α} {junk:List Value} {bs:List UInt8} (t:Nat) (ys:List α) (hn:Nat.ble (d+1) B.n=true) (hT:uX P T E (A2.sz α)) (hTs:P.underlying Ts=some .string)
 (hE:B8 P E (A2.sz α) bytes zs) (h1:A2.sz α=1) (hs:e.ev s=some (.slice a xs.length c)) (hx:e.ev x=some (.string ⟨bs.toArray⟩)) (ht:H.get t=some (a.map (·.block),Row E xs junk)) (ho:A5 a c xs junk) (hys:uT ys=u8s bs)
 (hb:(xs.length+ys.length)*bytes≤140737488355328) (hl:xs.length+ys.length≤maxLen)
 (h:∀ a' c' junk',A5 a' c' (xs++ys) junk'→Wl P ops rest B ⟨(d,.slice a' (xs++ys).length c') :: e,D,(t,a'.map (·.block),Row E (xs++ys) junk') :: H,G⟩ K) :
 Wl P ops (⟨some d,.call { callee:=.builtin .append,args:=#[s,x],argTypes:=#[T,Ts] },ty,pos,after,none⟩ :: rest) B ⟨e,D,H,G⟩ K:=by
 intro ac w hh;obtain ⟨a',c',junk',w',hrun,ho',hcase⟩:=BI (ty:=ty) hh.mem hT hTs hE h1 ht ho hys hb hl;unfold uZ;rw [aM (by simp [Region.wanted])];unfold Ag;have hex:(execOp ac.eval ⟨some d,.call { callee:=.builtin .append,args:=#[s,x],argTypes:=#[T,Ts] },ty,pos,after,none⟩).run P w=.ok (.value (.slice a' (xs++ys).length c')) w':=by
  simp only [execOp,resolve,invoke,builtin,bL,bR,aO,kH,cA,jO,hh.eval hs,hh.eval hx,hrun]
 rw [hex];refine h a' c' junk' ho' _ _ (A7.put ?_ hn _);rcases hcase with ⟨rfl,rfl,rfl⟩ | ⟨b,rfl,rfl,hu,hbk⟩ | ⟨rfl,hu,hsz,hbk⟩
 · exact hh.noBlock t _
 · exact hh.set (t:=t) (b:=b) ht hu hbk
 exact hh.ownNew t hu hsz hbk
theorem BJ {T:TypeId} {x:Operand} {bs:List UInt8} (t:Nat) (hn:Nat.ble (d+1) B.n=true) (hT:P.underlying T=some .string) (hx:e.ev x=some (.string ⟨bs.toArray⟩))
 (h:∀ b,Wl P ops rest B ⟨(d,.pointer (some ⟨b,0,none⟩)) :: e,D,(t,some b,.stringIter ⟨bs.toArray⟩ 0) :: H,G⟩ K):Wl P ops (⟨some d,.range T x,ty,pos,after,none⟩ :: rest) B ⟨e,D,H,G⟩ K:=
 oA (v:=fun b=>.pointer (some ⟨b,0,none⟩)) t hn (fun a w hh=>by
  simp only [execOp,Instr.range,hh.eval hx,bL,aQ hT,aO,bR];rfl) h
theorem FB {x:Operand} {b:Nat} {bs:List UInt8} {n:Nat} (t:Nat) (hn:Nat.ble (d+1) B.n=true) (hx:e.ev x=some (.pointer (some ⟨b,0,none⟩))) (ht:H.get t=some (some b,.stringIter ⟨bs.toArray⟩ n)) (hlt:n<bs.length)
 (hlow:(bs[n]?.getD 0).toNat<128)
 (h:Wl P ops rest B ⟨(d,.tuple #[.bool true,.int .i64 n,.int .i32 (bs[n]?.getD 0).toNat]) :: e,D,(t,some b,.stringIter ⟨bs.toArray⟩ (n+1)) :: H,G⟩ K):Wl P ops (⟨some d,.next x true,ty,pos,after,none⟩ :: rest) B ⟨e,D,H,G⟩ K:=
 rC (v:=.tuple #[.bool true,.int .i64 n,.int .i32 (bs[n]?.getD 0).toNat]) (x:=.value (.tuple #[.bool true,.int .i64 n,.int .i32 (bs[n]?.getD 0).toNat])) ht (.inr ⟨U,d,U,hn⟩) (fun a w hh=>by
  have h3:=hh.mem.own t b _ ht;have hget:(getObj b).run P w=.ok (.stringIter ⟨bs.toArray⟩ n) w:=by simp [getObj,Sem.run,h3]
  have hset:(setObj b (.stringIter ⟨bs.toArray⟩ (n+1))).run P w=.ok () (w.putObj b (.stringIter ⟨bs.toArray⟩ (n+1))):=by
   simp [setObj,Sem.run,h3,World.putObj]
  have hsz:=Tx.size bs;have hdec:Utf8.decode ⟨bs.toArray⟩ n=((bs[n]?.getD 0).toNat,1):=by
   have h9:(ByteArray.mk bs.toArray).get! (n+0)=bs[n]?.getD 0:=by
    show bs.toArray[n+0]! = _;rw [fQ,pV bs.toArray n (by simpa using hlt),aA hlt];simp
   unfold Utf8.decode;simp only [h9,hlow,fI]
  refine ⟨_,?_,xD w _ _,gD (cK.1 h3).1⟩;simp [execOp,Instr.next,hh.eval hx,hget,hset,hdec,hsz,hlt,goInt]) h
theorem FC {x:Operand} {b:Nat} {bs:List UInt8} {n:Nat} (t:Nat) (hx:e.ev x=some (.pointer (some ⟨b,0,none⟩))) (ht:H.get t=some (some b,.stringIter ⟨bs.toArray⟩ n)) (hle:bs.length≤n) :
 Qy P (.next x true) ty e H G (.tuple #[.bool false]):=fun a w _ _ _ _ hh=>by
 have h3:=hh.mem.own t b _ ht;have hget:(getObj b).run P w=.ok (.stringIter ⟨bs.toArray⟩ n) w:=by simp [getObj,Sem.run,h3]
 have hsz:=Tx.size bs;have hnp:¬n<bs.length:=uJ;simp [execOp,Instr.next,hh.eval hx,hget,hsz,hnp]
end
end
end Go.Sl
end
