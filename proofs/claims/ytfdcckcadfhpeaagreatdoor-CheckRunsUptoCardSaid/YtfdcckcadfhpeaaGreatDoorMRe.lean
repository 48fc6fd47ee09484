/- uN of the proof (part 5): what the rows' text needs of the texts that lead to it. -/
import Derived.Test.YtfdcckcadfhpeaaGreatDoorMRd
set_option linter.unusedVariables false
set_option linter.unusedSimpArgs false
set_option linter.unusedSectionVars false
set_option maxHeartbeats 4000000
noncomputable section
set_option maxRecDepth 100000
namespace Go.Proofs.YtfdcckcadfhpeaaGreatDoor
open Go Go.Sl
structure PH where
 ins:Int
 regs:Int
 ac:Option Addr
 cn:Nat
 cc:Nat
 ao:Option Addr
 on:Nat
 oc:Nat
instance:Inhabited PH:=⟨⟨0,0,none,0,0,none,0,0⟩⟩
instance:Cells PH:=⟨4,fun x=>[.int .i64 x.ins,.int .i64 x.regs,.slice x.ac x.cn x.cc,.slice x.ao x.on x.oc],fun _=>rfl,fun _=>rfl⟩
def Bz (pn:Nat) (l:List PH):Bool:=l.any (fun p=>decide (80<p.regs)) || decide (600<(l.map (·.cn)).sum) || decide (40<pn)
theorem MH {pn:Nat} {l:List PH} {k:Nat} (hk:k<l.length) (h:80<(l[k]?.getD default).regs):Bz pn l=true:=by
 have h2:l.any (fun p=>decide (80<p.regs))=true:=by
  rw [sA]
  rw [aA hk,dK] at h
  exact ⟨l[k],bI hk,cA h⟩
 unfold Bz
 rw [h2]
 rfl
theorem SF {pn:Nat} {l:List PH} (h:∀ p∈l,¬80<p.regs):Bz pn l=decide (600<(((l.map (·.cn)).sum:Nat):Int)∨40<(pn:Int)):=by
 have h2:l.any (fun p=>decide (80<p.regs))=false:=by
  rw [List.any_eq_false]
  intro p hp
  simpa using h p hp
 unfold Bz
 rw [h2,Bool.false_or]
 rw [oB]
 simp only [qH,aS]
 omega
theorem MI (x y z:PH) {C:Nat} (hx:x.cn≤C) (hy:y.cn≤C) (hz:z.cn≤C) (k:Nat):(([x,y,z]:List PH)[k]?.getD default).cn≤C:=by
 match k with
 | 0=>exact hx
 | 1=>exact hy
 | 2=>exact hz
 | k+3=>exact aM _
theorem HM (x y z:PH) {C:Nat} (hx:x.cn≤C) (hy:y.cn≤C) (hz:z.cn≤C) (k:Nat) (hk:k≤3):((([x,y,z]:List PH).take k).map (·.cn)).sum≤3*C:=by
 match k,hk with
 | 0,_=>exact aM _
 | 1,_=>show x.cn+0≤3*C;omega
 | 2,_=>show x.cn+(y.cn+0)≤3*C;omega
 | 3,_=>show x.cn+(y.cn+(z.cn+0))≤3*C;omega
theorem CR (x y z:PH) (k:Nat) (hk:k<3):((([x,y,z]:List PH).take (k+1)).map (·.cn)).sum=((([x,y,z]:List PH).take k).map (·.cn)).sum+(([x,y,z]:List PH)[k]?.getD default).cn:=by
 match k,hk with
 | 0,_=>show x.cn+0=0+x.cn;omega
 | 1,_=>show x.cn+(y.cn+0)=x.cn+0+y.cn;omega
 | 2,_=>show x.cn+(y.cn+(z.cn+0))=x.cn+(y.cn+0)+z.cn;omega
theorem HN (x y z:PH) {q:PH→Prop} (k:Nat) (hk:k<3) (h:∀ p∈([x,y,z]:List PH).take k,q p) (h1:q (([x,y,z]:List PH)[k]?.getD default)):∀ p∈([x,y,z]:List PH).take (k+1),q p:=by
 intro p hp
 rw [cB,gW] at hp
 rcases hp with hp | hp
 · exact h p hp
 have hk':k<([x,y,z]:List PH).length:=hk
 rw [aA hk'] at hp h1
 have e:p=([x,y,z]:List PH)[k]:=by simpa using hp
 rw [e];exact h1
theorem c11 (G:Imm) (k1 k2:Int) (pa:Option Addr) (pn pc:Nat) (x y z:PH) (hx:x.cn≤1099511627776) (hy:y.cn≤1099511627776) (hz:z.cn≤1099511627776) :
 Does Tryz.prog 11 [.agg #[.int .i64 k1,.int .i64 k2,.slice pa pn pc,.int .i64 x.ins,.int .i64 x.regs,.slice x.ac x.cn x.cc,.slice x.ao x.on x.oc,.int .i64 y.ins,.int .i64 y.regs,.slice y.ac y.cn y.cc,.slice y.ao y.on y.oc,.int .i64 z.ins,.int .i64 z.regs,.slice z.ac z.cn z.cc,.slice z.ao z.on z.oc]] G [] (fun v G' Ho=>v=.bool (Bz pn [x,y,z])∧G'=G∧Ho=[]):=by
 refine D0 Tryz.func11 Tryz.ntmps11 fun w=>?_
 refine aJ 2 [] ?_
 refine dQ 0 fun b1=>?_
 refine aL 12 [] ?_
 refine aO (fU 0 T.agg26 rfl rfl rfl rfl) ?_
 refine aB 1 [] ?_
 refine aO (fU 0 T.agg26 rfl rfl rfl rfl) ?_
 refine aB 1 [] ?_
 refine aO (fU 0 T.agg26 rfl rfl rfl rfl) ?_
 refine dY (α:=PH) 1 [⟨_,_,_,_,_,_,_,_⟩,⟨_,_,_,_,_,_,_,_⟩,⟨_,_,_,_,_,_,_,_⟩] rfl T.sl74 T.el26 rfl rfl rfl rfl rfl fun b2=>?_
 refine aZ 5 [] ?_
 refine gY (ι:=Nat×Nat) (fun (k,n)=>([(14,.int .i64 (k:Int)),(3,.int .i64 (n:Int)),(13,.int .i64 (↑(List.length [PH.mk (PH.ins x) (PH.regs x) (PH.ac x) (PH.cn x) (PH.cc x) (PH.ao x) (PH.on x) (PH.oc x),PH.mk (PH.ins y) (PH.regs y) (PH.ac y) (PH.cn y) (PH.cc y) (PH.ao y) (PH.on y) (PH.oc y),PH.mk (PH.ins z) (PH.regs z) (PH.ac z) (PH.cn z) (PH.cc z) (PH.ao z) (PH.on z) (PH.oc z)]):Int)),(12,.slice (some (Addr.mk b2 0 none)) (List.length [PH.mk (PH.ins x) (PH.regs x) (PH.ac x) (PH.cn x) (PH.cc x) (PH.ao x) (PH.on x) (PH.oc x),PH.mk (PH.ins y) (PH.regs y) (PH.ac y) (PH.cn y) (PH.cc y) (PH.ao y) (PH.on y) (PH.oc y),PH.mk (PH.ins z) (PH.regs z) (PH.ac z) (PH.cn z) (PH.cc z) (PH.ao z) (PH.on z) (PH.oc z)]) 3),(1,.pointer (some ⟨b1,0,none⟩))],[(1,some b2,Row (α:=PH) 26 ([PH.mk (PH.ins x) (PH.regs x) (PH.ac x) (PH.cn x) (PH.cc x) (PH.ao x) (PH.on x) (PH.oc x),PH.mk (PH.ins y) (PH.regs y) (PH.ac y) (PH.cn y) (PH.cc y) (PH.ao y) (PH.on y) (PH.oc y),PH.mk (PH.ins z) (PH.regs z) (PH.ac z) (PH.cn z) (PH.cc z) (PH.ao z) (PH.on z) (PH.oc z)]) ([])),(0,some b1,.cells #[.int .i64 k1,.int .i64 k2,.slice pa pn pc,.int .i64 (PH.ins x),.int .i64 (PH.regs x),.slice (PH.ac x) (PH.cn x) (PH.cc x),.slice (PH.ao x) (PH.on x) (PH.oc x),.int .i64 (PH.ins y),.int .i64 (PH.regs y),.slice (PH.ac y) (PH.cn y) (PH.cc y),.slice (PH.ao y) (PH.on y) (PH.oc y),.int .i64 (PH.ins z),.int .i64 (PH.regs z),.slice (PH.ac z) (PH.cn z) (PH.cc z),.slice (PH.ao z) (PH.on z) (PH.oc z)] 28)])) (fun (k,n)=>k≤3∧n=((([x,y,z]:List PH).take k).map (·.cn)).sum∧∀ p∈([x,y,z]:List PH).take k,¬80<p.regs) (fun (k,n)=>3 - k) ((0,0)) (⟨aM _,rfl,fun p h=>absurd h tR⟩) fun ⟨k,n⟩=>fun hk=>?_
 obtain ⟨hk3,hn,hno⟩:=hk
 refine bJ 6 [] ?_
 refine cT (fun hc1=>?_) fun hc1=>?_
 refine aJ 6 [] ?_
 refine aO (eI T.sl74 rfl rfl sE) ?_
 rotate_left
 refine aJ 10 [] ?_
 apply dP 5 29 34 rfl
 intro hg1
 refine aB 9 [0] ?_
 exact dA 5 0
 intro hg1
 refine aB 5 [] ?_
 exact dA 5 0
 refine aR 4 [] ?_
 refine cP ?_
 rotate_left
 · have hk2:k<3:=by
    have h:(k:Int)<3:=hc1
    omega
   have hcn:=MI x y z hx hy hz (k:Int).toNat
   have hs3:n≤3*1099511627776:=by rw [hn];exact HM x y z hx hy hz k hk3
   refine aO (Jq (α:=PH) (xs:=[x,y,z]) (junk:=[]) 1 T.agg26 rfl rfl (show 0≤(k:Int)∧(k:Int)<(([x,y,z]:List PH).length:Int) from ⟨by omega,hc1⟩)) ?_
   refine aN 2 rfl T.zero26 fun b3=>?_
   refine aZ 20 [2,2,2] ?_
   refine cT (fun hc2=>?_) fun hc2=>?_
   refine bE 11 [] ?_
   refine cP ?_
   rotate_left
   refine bE 7 [] ?_
   rotate_left
   · exact ⟨congrArg Value.bool (MH (l:=[x,y,z]) (k:=k) hk2 hc2).symm,rfl,rfl⟩
   refine cN 14 rfl (show _=Value.int .i64 ((k+1:Nat):Int) from rfl) ?_
   refine cN 3 rfl (show _=Value.int .i64 ((n+([x,y,z][(k:Int).toNat]?.getD default).cn:Nat):Int) from rfl) ?_
   refine cL ((k+1,n+([x,y,z][(k:Int).toNat]?.getD default).cn)) ?_ ?_
   · exact ⟨hk2,by rw [hn];exact (CR x y z k hk2).symm,HN x y z (q:=fun p=>¬80<p.regs) k hk2 hno hc2⟩
   show 3 - (k+1)<3 - k
   omega
 have hk2:k=3:=by
  have h:¬(k:Int)<3:=hc1
  omega
 subst hk2
 rw [show Bz pn [x,y,z]=_ from SF (pn:=pn) (l:=[x,y,z]) hno,hn]
 exact ⟨rfl,rfl,rfl⟩
def PHof (G:Imm) (p:PV) (h:PH):Prop:=h.ins=p.ins∧h.regs=p.regs∧h.cn=p.code.length∧h.on=p.outs.length∧Arr G h.ac p.code∧Arr G h.ao p.outs
theorem PHof.up {G G':Imm} {p:PV} {h:PH} (hh:PHof G p h) (hle:G.le G'):PHof G' p h:=⟨hh.1,hh.2.1,hh.2.2.1,hh.2.2.2.1,hh.2.2.2.2.1.le hle,hh.2.2.2.2.2.le hle⟩
def uJ (k:Nat):List (List Int):=(List.range k).map (tW k)
theorem xR (k:Nat):(uJ k).length=k:=by unfold uJ;rw [aP,bS]
theorem yR (k j:Nat):(tW k j).length=k:=by unfold tW;rw [aG,aI]
theorem Yo (k:Nat):WO 4 k (uJ k):=fun zs hz=>by
 unfold uJ at hz
 obtain ⟨j,hj,rfl⟩:=dJ.1 hz
 exact ⟨yR k j,Of k j 4 sE⟩
theorem HO {k j:Nat} (h:j<k):(uJ k)[j]?.getD []=tW k j:=by
 unfold uJ
 rw [bN,eR h];rfl
def yL (p:PV):Prop:=∀ i∈p.code,¬(i.op=6∨i.op=8)
instance (p:PV):Decidable (yL p):=inferInstanceAs (Decidable (∀ i∈p.code,_))
theorem MJ {i:Sl.Instr} (rs:List (List Int)) (h:¬(i.op=6∨i.op=8)):∃ x,wQ i rs=some x:=by
 unfold wQ
 by_cases h1:i.op=2
 · exact ⟨_,aF h1⟩
 by_cases h2:i.op=3
 · exact ⟨_,by simp only [h1,jR];rw [aF h2]⟩
 by_cases h3:i.op=4
 · exact ⟨_,by simp only [h1,h2,jR];rw [aF h3]⟩
 by_cases h4:i.op=5∨i.op=7
 · exact ⟨_,by simp only [h1,h2,h3,jR];rw [aF h4]⟩
 exact ⟨_,by simp only [h1,h2,h3,h4,h,jR];rfl⟩
theorem Og {p:PV} (h:yL p) (gs:List (List Int)):∀ k:Nat,k≤p.code.length→∃ rs,wC p gs k=some rs
 | 0,_=>⟨_,rfl⟩
 | k+1,hk=>by
   obtain ⟨rs,h1⟩:=Og h gs k sE
   have hm:p.code[(k:Int).toNat]?.getD default∈p.code:=by
    rw [aE,aA sE];exact bI _
   obtain ⟨x,h2⟩:=MJ rs (h _ hm)
   exact ⟨_,Cp (x:=rs) h1 h2⟩
theorem Uy {p:PV} (h:yL p) (gs:List (List Int)):∃ os,sQ p gs=some os:=by
 obtain ⟨rs,h1⟩:=Og h gs _ (aH _)
 exact ⟨_,by unfold sQ;rw [h1];rfl⟩
def uE (p:PV) (k:Int) (l:List R2):Prop:=p.ins=k∧p.outs.length=l.length∧yL p∧sQ p (uJ k.toNat)=some (l.map fun q=>wH q.a q.b k.toNat)
instance (p:PV) (k:Int) (l:List R2):Decidable (uE p k l):=inferInstanceAs (Decidable (_∧_))
theorem MK {os:List (List Int)} {l:List R2} {k:Nat} (hl:os.length=l.length):(os=l.map fun q=>wH q.a q.b k)↔∀ t:Nat,t<l.length→os[t]?.getD []=wH (l[t]?.getD default).a (l[t]?.getD default).b k:=by
 constructor
 · intro h t ht
   rw [h,bN,aA ht];rfl
 intro h
 refine gF fun i=>?_
 rcases aK i l.length with h1 | h1
 · have:=h i h1
   rw [aA sE,dK] at this
   rw [aA sE,bN,this,aA h1];rfl
 rw [bP sE,bP Lk]
theorem SG {xs ys:List Int} {k:Nat} (h1:xs.length=k) (h2:ys.length=k):xs=ys↔∀ t:Nat,t<k→xs[t]?.getD 0=ys[t]?.getD 0:=by
 constructor
 · intro h t _;rw [h]
 intro h
 refine gF fun i=>?_
 rcases aK i k with h3 | h3
 · have:=h i h3
   rw [aA sE,aA sE] at this ⊢
   exact congrArg some this
 rw [bP sE,bP sE]
theorem Dy (a b:Int) (k:Nat):(wH a b k).length=k:=by unfold wH;rw [aP,bS]
def uN (k:Int):Prop:=1≤k∧k≤8
instance (k:Int):Decidable (uN k):=inferInstanceAs (Decidable (_∧_))
def Dz (l:List R2):Prop:=∀ i:Nat,i<l.length→near (l[i]?.getD default).a (l[i]?.getD default).b
def Aq (l:List R2):Prop:=∃ i:Nat,i<l.length∧((l[i]?.getD default).a=0∧(l[i]?.getD default).b=0)
open Classical in
def sU (k1 k2:Int) (l:List R2):Int:=
 if ¬(uN k1∧uN k2) then 70 else if ¬Dz l then 70 else if ¬((l.length:Int)=k1+k2 - 1) then 71 else if Aq l∨Twin l then 71 else 0
theorem Ik {k1 k2:Int} {l:List R2} (h:¬(uN k1∧uN k2)):sU k1 k2 l=70:=by unfold sU;rw [aF h]
theorem Yp {k1 k2:Int} {l:List R2} (h:¬Dz l):sU k1 k2 l=70:=by
 unfold sU
 by_cases h1:¬(uN k1∧uN k2)
 · rw [aF h1]
 rw [aD h1,aF h]
theorem Sf {k1 k2:Int} {l:List R2} (h1:uN k1∧uN k2) (h2:Dz l) (h:¬((l.length:Int)=k1+k2 - 1)):sU k1 k2 l=71:=by
 unfold sU;rw [aD (fun h=>h h1),aD (fun h=>h h2),aF h]
theorem Kb {k1 k2:Int} {l:List R2} (h1:uN k1∧uN k2) (h2:Dz l) (h:Aq l∨Twin l):sU k1 k2 l=71:=by
 unfold sU;rw [aD (fun h=>h h1),aD (fun h=>h h2)]
 by_cases h3:¬((l.length:Int)=k1+k2 - 1)
 · rw [aF h3]
 rw [aD h3,aF h]
theorem Yq {k1 k2:Int} {l:List R2} (h1:uN k1∧uN k2) (h2:Dz l) (h3:(l.length:Int)=k1+k2 - 1) (h:¬(Aq l∨Twin l)):sU k1 k2 l=0:=by
 unfold sU;rw [aD (fun h=>h h1),aD (fun h=>h h2),aD (fun h=>h h3),aD h]
theorem vE {k1 k2:Int} {l:List R2} (h:sU k1 k2 l=0):uN k1∧uN k2∧(l.length:Int)=k1+k2 - 1∧tL l:=by
 by_cases h1:uN k1∧uN k2
 · by_cases h2:Dz l
   · by_cases h3:(l.length:Int)=k1+k2 - 1
     · by_cases h4:Aq l∨Twin l
       · rw [Kb h1 h2 h4] at h;omega
       refine ⟨h1.1,h1.2,h3,?_,?_,fun i hi=>⟨h2 i hi,fun h5=>h4 (.inl ⟨i,hi,h5⟩)⟩,fun h5=>h4 (.inr h5)⟩
       · have:=h1.1.1;have:=h1.2.1;omega
       have:=h1.1.2;have:=h1.2.2;omega
     rw [Sf h1 h2 h3] at h;omega
   rw [Yp h2] at h;omega
 rw [Ik h1] at h;omega
open Classical in
def tP (k1 k2:Int) (l:List R2) (x y z:PV):Int×Int:=
 if ¬sU k1 k2 l=0 then (0,sU k1 k2 l)
 else if ¬sH x=true then (1,80) else if ¬uE x k1 l then (1,180)
 else if ¬sH y=true then (2,80) else if ¬uE y k2 l then (2,180)
 else if ¬sH z=true then (3,80) else if ¬tQ z l then (3,180) else (0,0)
structure U8 where
 v:Int
 deriving DecidableEq
instance:Inhabited U8:=⟨⟨0⟩⟩
instance:Cells U8:=⟨1,fun n=>[.int .u8 n.v],fun _=>rfl,fun _=>rfl⟩
structure RS where
 k:Nat
 wr:Bool
def Bytes (B:List U8):Prop:=∀ i:Nat,i<B.length→0≤(B[i]?.getD default).v∧(B[i]?.getD default).v≤255
def nx (B:List U8) (s:RS) (g:Int→Bool):Int×RS:=
 if s.wr=true∨s.k=B.length∨g (B[s.k]?.getD default).v=false then (0,⟨s.k,true⟩) else ((B[s.k]?.getD default).v,⟨s.k+1,false⟩)
theorem ML {B:List U8} {s:RS} {g:Int→Bool} (h:s.wr=true):nx B s g=(0,⟨s.k,true⟩):=by unfold nx;rw [aF (.inl h)]
theorem WR {B:List U8} {s:RS} {g:Int→Bool} (h:s.k=B.length):nx B s g=(0,⟨s.k,true⟩):=by unfold nx;rw [aF (.inr (.inl h))]
theorem WS {B:List U8} {s:RS} {g:Int→Bool} (h:g (B[s.k]?.getD default).v=false):nx B s g=(0,⟨s.k,true⟩):=by unfold nx;rw [aF (.inr (.inr h))]
theorem ZK {B:List U8} {s:RS} {g:Int→Bool} (h1:s.wr=false) (h2:s.k≠B.length) (h3:g (B[s.k]?.getD default).v=true):nx B s g=((B[s.k]?.getD default).v,⟨s.k+1,false⟩):=by
 unfold nx;rw [aD]
 rintro (h | h | h)
 · rw [h1] at h;cases h
 · exact h2 h
 rw [h3] at h;cases h
theorem Sg {B:List U8} {s:RS} {g:Int→Bool} (h:s.k≤B.length):(nx B s g).2.k≤B.length:=by
 unfold nx
 by_cases hc:s.wr=true∨s.k=B.length∨g (B[s.k]?.getD default).v=false
 · rw [aF hc];exact h
 rw [aD hc]
 have:s.k≠B.length:=fun h=>hc (.inr (.inl h))
 show s.k+1≤_;omega
theorem Kc {B:List U8} {s:RS} {g:Int→Bool} (hB:Bytes B) (h:s.k≤B.length):0≤(nx B s g).1∧(nx B s g).1≤255:=by
 unfold nx
 by_cases hc:s.wr=true∨s.k=B.length∨g (B[s.k]?.getD default).v=false
 · rw [aF hc];show (0:Int)≤0∧(0:Int)≤255;omega
 rw [aD hc]
 have:s.k≠B.length:=fun h=>hc (.inr (.inl h))
 exact hB s.k sE
theorem EI {B:List U8} {s:RS} {g:Int→Bool} (h:(nx B s g).2.wr=false):s.wr=false∧s.k≠B.length∧g (B[s.k]?.getD default).v=true∧nx B s g=((B[s.k]?.getD default).v,⟨s.k+1,false⟩):=by
 unfold nx at h ⊢
 by_cases hc:s.wr=true∨s.k=B.length∨g (B[s.k]?.getD default).v=false
 · rw [aF hc] at h;cases h
 refine ⟨lG.2 fun h=>hc (.inl h),fun h=>hc (.inr (.inl h)),?_,aD hc⟩
 cases hg:g (B[s.k]?.getD default).v with
 | true=>rfl
 | false=>exact absurd (.inr (.inr hg)) hc
def wi (B:List U8) (s:RS) (lo hi:Int):Int×RS:=nx B s (fun x=>decide (lo≤x∧x≤hi))
def sg (B:List U8) (s:RS):Int×RS:=
 match nx B s (fun x=>decide (x≤16∨240≤x)) with
 | (x,t)=>(if 128≤x then x - 256 else x,t)
def Fg (op c:Int):Bool:=
 if op=5∨op=6 then decide ((c≠0∧-512≤c)∧c≤512) else if op=7∨op=8 then decide (1≤c∧c≤64) else decide (c=0)
def i16 (h l:Int):Int:=if 32768≤h*256+l then h*256+l - 65536 else h*256+l
def QA (op h:Int):Bool:=(List.range 256).any fun l=>Fg op (i16 h (l:Int))
def HP (B:List U8) (s:RS) (op:Int):Int×RS:=
 match nx B s (QA op) with
 | (h,t)=>match nx B t (fun l=>Fg op (i16 h l)) with
   | (l,t')=>(i16 h l,t')
def Uz (B:List U8) (s:RS) (regs:Int):Sl.Instr×RS:=
 match wi B s 1 8 with
 | (op,t1)=>match wi B t1 0 (regs - 1) with
   | (to,t2)=>match wi B t2 0 (regs - 1) with
     | (a,t3)=>match (if op=3∨op=4 then wi B t3 0 (regs - 1) else ((0:Int),(wi B t3 0 0).2)) with
       | (b,t4)=>match HP B t4 op with
         | (c,t5)=>(⟨op,to,a,b,c⟩,t5)
def zB (B:List U8) (regs:Int):Nat→RS→List Sl.Instr→List Sl.Instr×RS
 | 0,s,acc=>(acc,s)
 | n+1,s,acc=>match Uz B s regs with
   | (i,t)=>if t.wr=true then (acc,t) else zB B regs n t (acc++[i])
def Ca (B:List U8) (regs:Int):Nat→RS→List Int→List Int×RS
 | 0,s,acc=>(acc,s)
 | n+1,s,acc=>match wi B s 0 (regs - 1) with
   | (x,t)=>Ca B regs n t (acc++[x])
def uY (B:List U8) (s:RS):PV×RS:=
 match wi B s 1 128 with
 | (ins,t1)=>match wi B t1 ins 128 with
   | (regs,t2)=>match nx B t2 (fun x=>decide (x*256≤16384)) with
     | (h,t3)=>match nx B t3 (fun x=>decide (h*256+x≤16384)) with
       | (l,t4)=>match zB B regs (h*256+l).toNat t4 [] with
         | (code,t5)=>match wi B t5 1 128 with
           | (n,t6)=>match Ca B regs n.toNat t6 [] with
             | (outs,t7)=>(⟨ins,regs,code,outs⟩,t7)
def Kd (B:List U8):Nat→RS→List R2→List R2×RS
 | 0,s,acc=>(acc,s)
 | n+1,s,acc=>match sg B s with
   | (a,t)=>match sg B t with
     | (b,t')=>Kd B n t' (acc++[⟨a,b⟩])
def zC (B:List U8):Nat→Int
 | 0=>0
 | k+1=>(zC B k+((k:Int)+1)*(B[k]?.getD default).v) % 65521
structure UV where
 k1:Int
 k2:Int
 pl:List R2
 x:PV
 y:PV
 z:PV
def VG:Nat→Int
 | 0=>65
 | 1=>78
 | 2=>86
 | _=>49
def Yr (B:List U8):Nat→RS
 | 0=>⟨0,false⟩
 | i+1=>(wi B (Yr B i) (VG i) (VG i)).2
def Ys (B:List U8) (s:RS):RS:=
 if s.wr=true then s else (wi B (wi B s (zC B s.k / 256) (zC B s.k / 256)).2 (zC B s.k % 256) (zC B s.k % 256)).2
def uQ (B:List U8):UV×RS:=
 match wi B (Yr B 4) 1 8 with
 | (k1,a5)=>match wi B a5 1 8 with
   | (k2,a6)=>match wi B a6 0 255 with
     | (n,a7)=>match Kd B n.toNat a7 [] with
       | (pl,a8)=>match uY B a8 with
         | (x,a9)=>match uY B a9 with
           | (y,a10)=>match uY B a10 with
             | (z,a11)=>(⟨k1,k2,pl,x,y,z⟩,Ys B a11)
theorem eo {B:List U8} {s:RS} {lo hi:Int} (h:s.k≤B.length):(wi B s lo hi).2.k≤B.length:=Sg h
theorem ZL {B:List U8} {s:RS} {lo hi:Int} (h:s.wr=true):wi B s lo hi=(0,⟨s.k,true⟩):=ML h
theorem WT {B:List U8} {s:RS} {lo hi:Int} (hB:Bytes B) (h:s.k≤B.length):0≤(wi B s lo hi).1∧(wi B s lo hi).1≤255:=Kc hB h
theorem ZM {B:List U8} {s:RS} {lo hi:Int} (h:(wi B s lo hi).2.wr=false):lo≤(wi B s lo hi).1∧(wi B s lo hi).1≤hi∧s.wr=false:=by
 obtain ⟨h1,h2,h3,h4⟩:=EI h
 have h3:=gP h3
 unfold wi
 rw [h4]
 exact ⟨h3.1,h3.2,h1⟩
end Go.Proofs.YtfdcckcadfhpeaaGreatDoor
namespace Go.Proofs.YtfdcckcadfhpeaaGreatDoor
open Go Go.Sl Go.ChangeShapes Go.WideShapes Go.RowKit Go.Joins
theorem MM {H:Type} (d:DataW H):1≤Rows.uptoBulk d:=by
 cases d with
 | lit l=>cases l <;> simp [Rows.uptoBulk]
 | nil=>simp [Rows.uptoBulk]
 | ptr d=>simp [Rows.uptoBulk]
 | slice elems spare=>simp [Rows.uptoBulk]
 | agg parts=>simp [Rows.uptoBulk]
 | iface t d=>simp [Rows.uptoBulk]
 | map tI=>simp [Rows.uptoBulk]
 | held h=>simp [Rows.uptoBulk]
theorem MN {H:Type} (l:List (DataW H)):l.length≤Rows.uptoBulkAll l:=by
 induction l with
 | nil=>simp [Rows.uptoBulkAll]
 | cons x r ih=>have:=MM x;simp only [Rows.uptoBulkAll,aW];omega
theorem Gi {H:Type} (l r:List (DataW H)):l.length≤Rows.uptoBulk (.slice l r):=by
 have:=MN l
 simp only [Rows.uptoBulk];omega
theorem WU:Tryz.prog.underlying 3=some (.int .i64):=sG
theorem WV:Tryz.prog.cellsOf 3=1:=sG
theorem EJ:Tryz.prog.cellsOf 52=2:=sG
section
variable {H:Type} {enc:TypeId×Value→H}
theorem WW {P:Program} {W:World} {E Ti:TypeId} {f0 f1:Field} (hi:P.underlying Ti=some (.int .i64)) (hs:P.underlying E=some (.struct #[f0,f1]))
 (h0:f0.type=Ti∧f0.offset=0) (h1:f1.type=Ti∧f1.offset=1) (hc:P.cellsOf Ti=1) (hcE:P.cellsOf E=2) :
 bz (α:=R2) enc P W E (fun _ _=>True):=fun n cs x h=>by
 obtain ⟨xs,m,_,_,hl,hxl,hf⟩:=DataW.trod_struct hs h
 rw [hcE] at hl
 match cs,hl with
 | [v0,v1],_ =>
   have hxl':xs.length=2:=hxl
   match xs,hxl' with
   | [y0,y1],_ =>
     have k0:=hf 0 f0 rfl;have k1:=hf 1 f1 rfl
     rw [h0.1,h0.2,hc] at k0;rw [h1.1,h1.2,hc] at k1
     obtain ⟨a0,e0,_,_⟩:=qW hi k0
     obtain ⟨a1,e1,_,_⟩:=qW hi k1
     simp at e0 e1
     exact ⟨⟨a0,a1⟩,by rw [e0,e1];rfl,trivial⟩
theorem HQ {W:World} {n:Nat} {v:Value} {d:DataW H×List MemPlace} (h:DataW.trod enc Tryz.prog W 0 (fun _=>true) true n 22 [v]=some d) :
 ∃ (a:Option Addr) (c:Nat) (l:List R2),v=.slice a l.length c∧Arr (Db W) a l∧l.length≤c∧l.length≤Rows.uptoBulk d.1:=by
 obtain ⟨a,c,xs,e,hA,hl,hd⟩:=Nt (α:=R2) Tryz.underlying22 EJ sN (WW WU Tryz.underlying52 ⟨rfl,rfl⟩ ⟨rfl,rfl⟩ WV EJ) h
 simp only [jE,and_true] at e
 refine ⟨a,c,xs,e,hA,hl,?_⟩
 rcases hd with ⟨_,rfl⟩ | ⟨l,r,e,hl,_⟩
 · exact aM _
 rw [e,←hl];exact Gi l r
end
section
variable {H:Type} {enc:TypeId×Value→H}
theorem MO {W:World} {r:Reach} {b0:Nat} {v:Value} {d:DataW H} {ps:List MemPlace} (hv:Value.okWide Tryz.prog W r b0 22 v) (h:DataW.Trod enc Tryz.prog W 0 (fun _=>true) true 22 v d ps) :
 ∃ (a:Option Addr) (c:Nat) (l:List R2),v=.slice a l.length c∧Arr (Db W) a l∧l.length≤c∧l.length≤Rows.uptoBulk d:=by
 obtain ⟨a0,n0,c0,rfl⟩:=okWide_slice Tryz.underlying22 hv
 obtain ⟨n,h⟩:=h
 exact HQ (v:=.slice a0 n0 c0) h
end
section
variable {H:Type} {enc:TypeId×Value→H}
theorem WX {W:World} {E:TypeId} (he:Tryz.prog.underlying E=some (.int .u8)):bz (α:=U8) enc Tryz.prog W E (fun y _=>0≤y.v∧y.v≤255):=fun n cs x h=>by
 obtain ⟨k,rfl,rfl,hw⟩:=qW he h
 have hw:=(Lit.wf_int_iff _ _).1 hw
 exact ⟨⟨k⟩,rfl,hw.1,hw.2⟩
theorem CS {W:World} {r:Reach} {b0:Nat} {v:Value} {d:DataW H} {ps:List MemPlace} (hv:Value.okWide Tryz.prog W r b0 38 v) (h:DataW.Trod enc Tryz.prog W 0 (fun _=>true) true 38 v d ps) :
 ∃ (a:Option Addr) (c:Nat) (B:List U8),v=.slice a B.length c∧Arr (Db W) a B∧B.length≤c∧Bytes B∧B.length≤Rows.uptoBulk d:=by
 obtain ⟨a0,len,cap,rfl⟩:=okWide_slice Tryz.underlying38 hv
 obtain ⟨n,h⟩:=h
 obtain ⟨a,c,xs,e,hA,hl,hd⟩:=Nt (α:=U8) Tryz.underlying38 sG sN (WX T.u5) h
 replace e:[Value.slice a0 len cap]=[.slice a xs.length c]:=e
 simp only [jE,and_true] at e
 refine ⟨a,c,xs,e,hA,hl,?_,?_⟩
 · rcases hd with ⟨_,rfl⟩ | ⟨l,r,_,_,hg⟩
   · intro i hi;cases hi
   intro i hi
   obtain ⟨_,_,h8⟩:=hg i hi
   exact h8
 rcases hd with ⟨_,rfl⟩ | ⟨l,r,e,hl,_⟩
 · exact aM _
 show _≤Rows.uptoBulk (d,ps).1
 rw [e,←hl];exact Gi l r
theorem VH:Tryz.prog.underlying 66=some (.slice 2):=sG
theorem ep:Tryz.prog.underlying 2=some (.int .i64):=sG
theorem WY:Tryz.prog.cellsOf 2=1:=sG
theorem open_ints {W:World} {r:Reach} {b0:Nat} {v:Value} {d:DataW H} {ps:List MemPlace} (hv:Value.okWide Tryz.prog W r b0 66 v) (h:DataW.Trod enc Tryz.prog W 0 (fun _=>true) true 66 v d ps) :
 ∃ (a:Option Addr) (c:Nat) (l:List Int),v=.slice a l.length c∧Arr (Db W) a l∧l.length≤c∧(∀ x∈l,-9223372036854775808≤x∧x≤9223372036854775807)∧l.length≤Rows.uptoBulk d:=by
 obtain ⟨a0,n0,c0,rfl⟩:=okWide_slice VH hv
 obtain ⟨n,h⟩:=h
 obtain ⟨a,c,xs,e,hA,hl,hd⟩:=Nt (α:=Int) VH WY sN (RG ep) h
 have e':[Value.slice a0 n0 c0]=[.slice a xs.length c]:=e
 simp only [jE,and_true] at e'
 refine ⟨a,c,xs,e',hA,hl,fun y hy=>?_,?_⟩
 · rcases hd with ⟨_,rfl⟩ | ⟨l,r,e,hl,hi⟩
   · cases hy
   obtain ⟨i,hi1,rfl⟩:=fL.1 hy
   obtain ⟨d,_,_,hw⟩:=hi i hi1
   rw [aA hi1] at hw
   unfold Lit.wf at hw
   rw [aU,aS,aS] at hw
   exact hw
 rcases hd with ⟨_,rfl⟩ | ⟨l,r,e,hl,_⟩
 · exact aM _
 have e2:d=.slice l r:=e
 rw [e2,←hl];exact Gi l r
end
end Go.Proofs.YtfdcckcadfhpeaaGreatDoor
namespace Go.Proofs.YtfdcckcadfhpeaaGreatDoor
open Go Go.Sl
def wA (i:Sl.Instr) (zs:List Int):Option Int:=
 let a:=zs[i.a.toNat]?.getD 0
 let b:=zs[i.b.toNat]?.getD 0
 if i.op=2 then some (-a)
 else if i.op=3 then some (a+b)
 else if i.op=4 then some (a - b)
 else if i.op=5∨i.op=7 then some (a*cst i)
 else if i.op=6∨i.op=8 then (if a % cst i=0 then some (a / cst i) else none)
 else some a
def MP:Value:=.agg #[.func (.func 176) #[] #[],.func (.func 138) #[] #[],.func (.func 177) #[] #[],.func (.func 75) #[] #[],.func (.func 178) #[] #[]]
theorem Yt (G:Imm) (c:Int) (h:0≤c∧c≤64) :
 Does Tryz.prog 221 [.int .i64 c] G [] (fun v G' Ho=>∃ r:IV,v=.agg (Cells.enc r).toArray∧Big G' r (p2 c.toNat)∧Ho=[]):=by
 obtain ⟨n,rfl⟩:=kK h.1
 rw [aE]
 exact ee G n sE
def CT (i:Sl.Instr) (zs:List Int) (H0:Hp) (v:Value) (G':Imm) (Ho:Hp):Prop:=
 ∃ x:IV,v=.tuple #[.agg (Cells.enc x).toArray,.bool (decide (wA i zs≠none))]∧(∀ z,wA i zs=some z→Big G' x z)∧Ho=H0
theorem Cr {i:Sl.Instr} {zs:List Int} {H0:Hp} {x:IV} {G':Imm} {z:Int} (h:wA i zs=some z) (hx:Big G' x z):CT i zs H0 (.tuple #[.agg (Cells.enc x).toArray,.bool true]) G' H0:=
 ⟨x,by rw [cA (show wA i zs≠none from fun e=>by rw [e] at h;cases h)],fun z' h'=>by rw [h] at h';cases h';exact hx,rfl⟩
theorem EK {i:Sl.Instr} {zs:List Int} {H0:Hp} {q:IV} {G':Imm} {a y:Int} (h:wA i zs=if a % y=0 then some (a / y) else none) (hq:Big G' q (a / y)):CT i zs H0 (.tuple #[.agg (Cells.enc q).toArray,.bool (decide (a % y=0))]) G' H0:=by
 by_cases ha:a % y=0
 · rw [aF ha] at h
   rw [cA ha]
   exact Cr h hq
 rw [aD ha] at h
 refine ⟨q,by rw [bQ ha,bQ (show ¬wA i zs≠none from fun e=>e h)],(fun z hz=>by rw [h] at hz;cases hz),rfl⟩
section
attribute [local irreducible] sI pb tY tF p2 cst
theorem eu (G:Imm) (i:Sl.Instr) (o:Option Addr) (d:Nat) (r:List IV) (j:List Value) (zs:List Int) (m:Nat) (hob:OwnA o d r j) (hg:Bigs G r zs) (hm:Below m zs) (hm2:m≤268435456)
 (hop:1≤i.op∧i.op≤8) (ha:0≤i.a∧i.a<r.length) (hb:0≤i.b∧i.b<r.length)
 (hcst:i.op≠1→i.op≠2→i.op≠3→i.op≠4→cst i≠0∧((cst i).natAbs:Int)<pb 3)
 (hc1:i.op=5∨i.op=6→-9223372036854775808≤i.c∧i.c≤9223372036854775807) (hc2:¬(i.op=5∨i.op=6)→0≤i.c∧i.c≤64) :
 Does Tryz.prog 175 [MP,.slice o r.length d,.agg (Cells.enc i).toArray] G [(0,o.map (·.block),Row 125 r j)] (fun v G' Ho=>CT i zs [(0,o.map (·.block),Row 125 r j)] v G' Ho):=by
 have hca:=hob.le
 have haR:=hg.at ha
 have hbR:=hg.at hb
 have hA2:(r[i.a.toNat]?.getD default).n≤268435456:=aV (gJ haR (hm.at _)) hm2
 have hB2:(r[i.b.toNat]?.getD default).n≤268435456:=aV (gJ hbR (hm.at _)) hm2
 have hA5:=aV hA2 (show 268435456≤536870912 by decide)
 have hB5:=aV hB2 (show 268435456≤536870912 by decide)
 have hA9:=aV hA2 (show 268435456≤1073741824 by decide)
 refine D0 Tryz.func175 Tryz.ntmps175 fun w=>?_
 refine aJ 2 [] ?_
 refine dQ 1 fun b1=>?_
 refine dQ 2 fun b2=>?_
 refine aN 3 rfl T.zero125 fun b3=>?_
 refine aZ 3 [] ?_
 refine oH (ι:=Nat×Nat) (fun (p,q)=>([(8,.pointer (some ⟨p,0,none⟩)),(9,.pointer (some ⟨q,0,none⟩)),(7,.bool Bool.false),(6,.pointer (some (Addr.mk b3 0 none))),(5,.pointer (some ⟨b2,0,none⟩)),(3,.pointer (some ⟨b1,0,none⟩))],[(60,some p,.cells (Cells.enc (r[i.a.toNat]?.getD default)).toArray 125),(61,some q,.cells (Cells.enc (r[i.b.toNat]?.getD default)).toArray 125),(3,some b3,.cells #[.bool Bool.false,.slice none 0 0] 125),(2,some b2,.cells (List.toArray (Cells.enc i)) 91),(1,some b1,.cells #[.func (Go.Fn.func 176) #[] #[],.func (Go.Fn.func 138) #[] #[],.func (Go.Fn.func 177) #[] #[],.func (Go.Fn.func 75) #[] #[],.func (Go.Fn.func 178) #[] #[]] 206),(0,Option.map (fun x=>Go.Addr.block x) o,Row (α:=Go.Sl.IV) 125 (r) (j))])) (fun (p,q)=>True) ?_ fun ⟨p,q⟩=>fun (hk:True)=>?_
 · refine cX [0,1,2,3] [] T.mixed [[0],[1],[2,2]] ?_
   refine fH (α:=IV) 3 T.sl68 ?_
   refine dN 4 [0] rfl (pK 0 T.agg125 rfl rfl sF sE) ?_
   refine dE [[5],[6],[7,2]] ?_
   refine fH (α:=IV) 8 T.sl68 ?_
   refine dN 9 [0] rfl (pK 0 T.agg125 rfl rfl sF sE) ?_
   refine nD 10 11 ?_ ?_
   refine aN 4 rfl T.zero125 fun b4=>?_
   refine cG 11 ?_
   refine aN 5 rfl T.zero125 fun b5=>?_
   refine cG 12 ?_
   refine aB 1 [4] ?_
   refine cG 13 ?_
   refine aB 1 [5] ?_
   refine eZ ?_
   rotate_left
   refine aN 4 rfl T.zero125 fun b4=>?_
   refine cG 10 ?_
   refine aN 5 rfl T.zero125 fun b5=>?_
   refine cG 12 ?_
   refine aB 1 [5] ?_
   refine cG 13 ?_
   refine aB 1 [4] ?_
   refine eZ ?_
   rotate_left
   all_goals first | (refine Ar.retag 4 60 rfl rfl (Ar.retag 5 61 rfl rfl (lZ (b4,b5) trivial rfl ?_ ?_)) <;> (repeat (first | exact trivial | refine ⟨rfl,?_⟩));done) | (refine Ar.retag 5 60 rfl rfl (Ar.retag 4 61 rfl rfl (lZ (b5,b4) trivial rfl ?_ ?_)) <;> (repeat (first | exact trivial | refine ⟨rfl,?_⟩));done)
 by_cases h2:i.op=2
 · refine aJ 20 [2,1,1,60] ?_
   refine eC (fst:=[]) (cap:=[]) 62 rfl T.fn176 rfl rfl (WJ _ _ _ haR hA9) (sJ trivial) fun v1 G1 Ho1 hle1 hp=>?_
   obtain ⟨rs,rfl,hrs,rfl,rfl⟩:=hp
   refine aR 7 [3] ?_
   refine fS (.inr rfl) (Ho:=Hp.only _ [0]) rfl (.agg 3 rfl rfl T.agg125) (.tmp rfl) (aT _ _) ?_
   exact Cr (by unfold wA;exact aF h2) hrs
 by_cases h3:i.op=3
 · refine aJ 28 [2,0,1,1,60,61] ?_
   refine eC (fst:=[]) (cap:=[]) 62 rfl T.fn138 rfl rfl (LW _ _ _ _ _ haR hbR hA5 hB5) (sJ trivial) fun v1 G1 Ho1 hle1 hp=>?_
   obtain ⟨rs,rfl,hrs,rfl⟩:=hp
   replace hg:=hg.up hle1
   replace haR:=haR.up hle1
   replace hbR:=hbR.up hle1
   refine aR 7 [3] ?_
   refine fS (.inr rfl) (Ho:=Hp.only _ [0]) rfl (.agg 3 rfl rfl T.agg125) (.tmp rfl) (aT _ _) ?_
   exact Cr (by unfold wA;simp only [h3,iD];rfl) hrs
 by_cases h4:i.op=4
 · refine aJ 35 [2,0,0,1,1,60,61] ?_
   refine eC (fst:=[]) (cap:=[]) 62 rfl T.fn177 rfl rfl (WM _ _ _ _ _ haR hbR hA5 hB5) (sJ trivial) fun v1 G1 Ho1 hle1 hp=>?_
   obtain ⟨rs,rfl,hrs,rfl⟩:=hp
   replace hg:=hg.up hle1
   replace haR:=haR.up hle1
   replace hbR:=hbR.up hle1
   refine aR 7 [3] ?_
   refine fS (.inr rfl) (Ho:=Hp.only _ [0]) rfl (.agg 3 rfl rfl T.agg125) (.tmp rfl) (aT _ _) ?_
   exact Cr (by unfold wA;simp only [h4,iD];rfl) hrs
 by_cases h1:i.op=1
 · refine bE 68 [2,0,0,0,0,0,0,0,60,3] ?_
   refine fS (.inr rfl) (Ho:=Hp.only _ [0]) rfl (.agg 3 rfl rfl T.agg125) (.tmp rfl) (aT _ _) ?_
   exact Cr (by unfold wA;simp only [h1];rfl) haR
 obtain ⟨hk0,hk3⟩:=hcst h1 h2 h3 h4
 by_cases h5:i.op=5
 · have hc9:=hc1 (.inl h5)
   have e5:cst i=i.c:=Ob (.inl h5)
   rw [e5] at hk3
   refine bJ 37 [2,0,0,0,1] ?_
   refine cX [0,1,2,3,61,60] [(3,7),(60,6),(61,6),(3,6),(2,6),(1,6),(0,6)] T.mixed [[0],[1,1],[2,60],[3]] ?_
   refine bV 4 ?_
   refine aB 1 [2] ?_
   refine cG 5 ?_
   refine bX 62 rfl (HE _ i.c hc9) fun v1 G1 Ho1 hle1 hp=>?_
   obtain ⟨rk,rfl,hrk,rfl⟩:=hp
   replace hg:=hg.up hle1
   replace haR:=haR.up hle1
   replace hbR:=hbR.up hle1
   refine cG 6 ?_
   refine eC (fst:=[]) (cap:=[]) 62 rfl T.fn75 rfl rfl (WL _ _ _ _ _ haR hrk hA5 (aV (gJ hrk hk3) sN)) (sJ trivial) fun v2 G2 Ho2 hle2 hp=>?_
   obtain ⟨rs,rfl,hrs,rfl⟩:=hp
   replace hrk:=hrk.up hle2
   replace hg:=hg.up hle2
   replace haR:=haR.up hle2
   replace hbR:=hbR.up hle2
   refine cG 7 ?_
   refine aB 1 [3] ?_
   refine bD ?_
   refine dE [[8]] ?_
   refine cZ ?_
   refine dX 4 [] ?_
   refine fS (.inr rfl) (Ho:=Hp.only _ [0]) rfl (.agg 3 rfl rfl T.agg125) (.tmp rfl) (aT _ _) ?_
   all_goals exact Cr (by unfold wA;simp only [h5,iD,true_or];rfl) (Big.out hrs (by rw [e5]))
 by_cases h6:i.op=6
 · have hc9:=hc1 (.inr h6)
   have e5:cst i=i.c:=Ob (.inr h6)
   rw [e5] at hk3 hk0
   refine bJ 51 [2,0,0,0,0,0,1] ?_
   refine cX [0,1,2,3,61,60] [(3,9),(60,6),(61,6),(3,6),(2,6),(1,6),(0,6)] T.mixed [[0],[1,1],[2,60],[3]] ?_
   refine bV 4 ?_
   refine aB 1 [2] ?_
   refine cG 5 ?_
   refine bX 62 rfl (HE _ i.c hc9) fun v1 G1 Ho1 hle1 hp=>?_
   obtain ⟨rk,rfl,hrk,rfl⟩:=hp
   replace hg:=hg.up hle1
   replace haR:=haR.up hle1
   replace hbR:=hbR.up hle1
   refine cG 6 ?_
   refine eC (fst:=[]) (cap:=[]) 62 rfl T.fn178 rfl rfl (ZB _ _ _ _ _ haR hrk hA2 (aV (gJ hrk hk3) sN) hk0) (sJ trivial) fun v2 G2 Ho2 hle2 hp=>?_
   obtain ⟨rs,rfl,hrs,rfl⟩:=hp
   replace hrk:=hrk.up hle2
   replace hg:=hg.up hle2
   replace haR:=haR.up hle2
   replace hbR:=hbR.up hle2
   refine bD ?_
   refine dE [[7],[8]] ?_
   refine bV 9 ?_
   refine aB 1 [3] ?_
   refine bD ?_
   refine dE [[10]] ?_
   refine cZ ?_
   refine dX 4 [] ?_
   refine fS (.inr rfl) (Ho:=Hp.only _ [0]) rfl (.agg 3 rfl rfl T.agg125) (.tmp rfl) (aT _ _) ?_
   all_goals exact EK (by unfold wA;simp only [h6,iD,true_or];rw [e5];rfl) hrs
 have hc64:=hc2 (fun h=>h.elim h5 h6)
 have e5:cst i=p2 i.c.toNat:=MA (fun h=>h.elim h5 h6)
 rw [e5] at hk3 hk0
 by_cases h7:i.op=7
 · refine bJ 44 [2,0,0,0,0,1] ?_
   refine cX [0,1,2,3,61,60] [(3,7),(60,6),(61,6),(3,6),(2,6),(1,6),(0,6)] T.mixed [[0],[1,1],[2,60],[3]] ?_
   refine bV 4 ?_
   refine aB 1 [2] ?_
   refine cG 5 ?_
   refine bX 62 rfl (Yt _ i.c hc64) fun v1 G1 Ho1 hle1 hp=>?_
   obtain ⟨rk,rfl,hrk,rfl⟩:=hp
   replace hg:=hg.up hle1
   replace haR:=haR.up hle1
   replace hbR:=hbR.up hle1
   refine cG 6 ?_
   refine eC (fst:=[]) (cap:=[]) 62 rfl T.fn75 rfl rfl (WL _ _ _ _ _ haR hrk hA5 (aV (gJ hrk hk3) sN)) (sJ trivial) fun v2 G2 Ho2 hle2 hp=>?_
   obtain ⟨rs,rfl,hrs,rfl⟩:=hp
   replace hrk:=hrk.up hle2
   replace hg:=hg.up hle2
   replace haR:=haR.up hle2
   replace hbR:=hbR.up hle2
   refine cG 7 ?_
   refine aB 1 [3] ?_
   refine bD ?_
   refine dE [[8]] ?_
   refine cZ ?_
   refine dX 4 [] ?_
   refine fS (.inr rfl) (Ho:=Hp.only _ [0]) rfl (.agg 3 rfl rfl T.agg125) (.tmp rfl) (aT _ _) ?_
   all_goals exact Cr (by unfold wA;simp only [h7,iD,or_true];rfl) (Big.out hrs (by rw [e5]))
 have h8:i.op=8:=sE
 refine bJ 58 [2,0,0,0,0,0,0,1] ?_
 refine cX [0,1,2,3,61,60] [(3,9),(60,6),(61,6),(3,6),(2,6),(1,6),(0,6)] T.mixed [[0],[1,1],[2,60],[3]] ?_
 refine bV 4 ?_
 refine aB 1 [2] ?_
 refine cG 5 ?_
 refine bX 62 rfl (Yt _ i.c hc64) fun v1 G1 Ho1 hle1 hp=>?_
 obtain ⟨rk,rfl,hrk,rfl⟩:=hp
 replace hg:=hg.up hle1
 replace haR:=haR.up hle1
 replace hbR:=hbR.up hle1
 refine cG 6 ?_
 refine eC (fst:=[]) (cap:=[]) 62 rfl T.fn178 rfl rfl (ZB _ _ _ _ _ haR hrk hA2 (aV (gJ hrk hk3) sN) hk0) (sJ trivial) fun v2 G2 Ho2 hle2 hp=>?_
 obtain ⟨rs,rfl,hrs,rfl⟩:=hp
 replace hrk:=hrk.up hle2
 replace hg:=hg.up hle2
 replace haR:=haR.up hle2
 replace hbR:=hbR.up hle2
 refine bD ?_
 refine dE [[7],[8]] ?_
 refine bV 9 ?_
 refine aB 1 [3] ?_
 refine bD ?_
 refine dE [[10]] ?_
 refine cZ ?_
 refine dX 4 [] ?_
 refine fS (.inr rfl) (Ho:=Hp.only _ [0]) rfl (.agg 3 rfl rfl T.agg125) (.tmp rfl) (aT _ _) ?_
 all_goals exact EK (by unfold wA;simp only [h8,iD,or_true];rw [e5];rfl) hrs
end
theorem EL:pw 5≤pb 3:=by unfold pw pb;decide
theorem Ke {m k:Nat} {x y:Int} (hx:(x.natAbs:Int)<pb m) (hy:(y.natAbs:Int)<pb k):((x*y).natAbs:Int)<pb (m+k):=by
 rw [eX,jQ,CF]
 have h1:=bU (dW hy) (show (0:Int)≤x.natAbs by omega)
 have h2:=Int.mul_lt_mul_of_pos_right hx (xO k)
 omega
theorem HR {i:Sl.Instr} {zs:List Int} {m:Nat} {z:Int} (hm:Below m zs) (hk:i.op=5∨i.op=7→((cst i).natAbs:Int)<pb 3) (h:wA i zs=some z):(z.natAbs:Int)<pb (m+3):=by
 have ha:=hm.at i.a.toNat
 have hb:=hm.at i.b.toNat
 have hp:=xO m
 have h4:4294967296*pb m≤pb (m+3):=by rw [←wY];exact Nu sE
 unfold wA at h
 simp only at h
 split at h
 · cases h;omega
 split at h
 · cases h;omega
 split at h
 · cases h;omega
 split at h
 · rename_i h57
   cases h
   exact Ke ha (hk h57)
 split at h
 · split at h
   · cases h
     have h1:(zs[i.a.toNat]?.getD 0 / cst i).natAbs≤(zs[i.a.toNat]?.getD 0).natAbs:=Int.natAbs_ediv_le_natAbs _ _
     omega
   cases h
 cases h
 omega
def wS (p:PV) (zs:List Int):Nat→Option (List Int)
 | 0=>some zs
 | k+1=>(wS p zs k).bind fun rs=>(wA (p.code[((k:Nat):Int).toNat]?.getD default) rs).map fun x=>rs.set (p.code[((k:Nat):Int).toNat]?.getD default).to.toNat x
theorem Yu {p:PV} {zs rs:List Int} {k:Nat} {y:Int} (h:wS p zs k=some rs) (hd:wA (p.code[((k:Nat):Int).toNat]?.getD default) rs=some y) :
 wS p zs (k+1)=some (rs.set (p.code[((k:Nat):Int).toNat]?.getD default).to.toNat y):=by
 unfold wS;rw [h];simp only [eF,hd,fO]
theorem Yv {p:PV} {zs:List Int} {k:Nat} (h:wS p zs k=none) (j:Nat):wS p zs (k+j)=none:=by
 induction j with
 | zero=>exact h
 | succ j ih=>rw [←nM];unfold wS;rw [ih];rfl
theorem Yw {p:PV} {zs rs:List Int} {k:Nat} (h:wS p zs k=some rs) (hd:wA (p.code[((k:Nat):Int).toNat]?.getD default) rs=none) (hk:k<p.code.length):wS p zs p.code.length=none:=by
 have h1:wS p zs (k+1)=none:=by unfold wS;rw [h];simp only [eF,hd,jO]
 have h2:=Yv h1 (p.code.length - (k+1))
 rw [show k+1+(p.code.length - (k+1))=p.code.length by omega] at h2
 exact h2
theorem HS {m:Nat} {zs:List Int} {z:Int} (h:Below m zs) (hz:(z.natAbs:Int)<pb m) (k:Nat):Below m (zs.set k z):=fun x hx=>by
 rcases eN hx with h1 | h1
 · exact h x h1
 rw [h1];exact hz
theorem Below.mono {m k:Nat} {zs:List Int} (h:Below m zs) (hk:m≤k):Below k zs:=fun z hz=>mN (h z hz) (Nu hk)
section
attribute [local irreducible] sI pb tY tF p2 cst wA
theorem ez (G:Imm) (k:Int) (x:IV):Does Tryz.prog 132 [.int .i64 k,.agg (Cells.enc x).toArray] G [] (fun v G' Ho=>v=.bool true∧G'=G∧Ho=[]):=by
 refine D0 Tryz.func132 Tryz.ntmps132 fun w=>?_
 refine aJ 2 [] ?_
 refine dQ 0 fun b1=>?_
 refine aR 9 [] ?_
 refine cP ?_
 exact ⟨rfl,rfl,rfl⟩
def SH (p:PV) (zs:List Int) (o:Option Addr) (d:Nat) (r:List IV) (j:List Value) (v:Value) (G':Imm) (Ho:Hp):Prop:=
 ∃ (r':List IV) (k:Int),v=.int .i64 k∧Ho=[(0,o.map (·.block),Row 125 r' j)]∧r'.length=r.length∧OwnA o d r' j∧
  ((∃ zs',wS p zs p.code.length=some zs'∧k=-1∧Bigs G' r' zs')∨(wS p zs p.code.length=none∧0≤k))
theorem fb (G:Imm) (p:PV) (ac ao:Option Addr) (cc co:Nat) (o:Option Addr) (d:Nat) (r:List IV) (j:List Value) (zs:List Int) (m:Nat) (hc:Arr G ac p.code) (hob:OwnA o d r j) (hg:Bigs G r zs) (hm:Below m zs)
 (hmm:m+3*p.code.length≤268435456) (hlen:p.code.length≤16384) (hr:(r.length:Int)=p.regs) (hrr:r.length≤128) (hmay:∀ i∈p.code,sP i p.regs=true) :
 Does Tryz.prog 130 [MP,.agg #[.int .i64 p.ins,.int .i64 p.regs,.slice ac p.code.length cc,.slice ao p.outs.length co],.slice o r.length d,.func (.func 132) #[] #[]] G [(0,o.map (·.block),Row 125 r j)] (SH p zs o d r j):=by
 refine D0 Tryz.func130 Tryz.ntmps130 fun w=>?_
 refine aJ 2 [] ?_
 refine dQ 1 fun b1=>?_
 refine dQ 2 fun b2=>?_
 refine aZ 3 [] ?_
 refine mH ?_
 refine bJ 13 [2] ?_
 refine Wc.lg (ι:=Nat×Imm×List IV×List Int) (fun (i,Gx,r2,rs)=>([(16,.int .i64 (i:Int)),(2,.slice o r2.length d),(15,.int .i64 (↑p.code.length:Int)),(14,.slice ac p.code.length cc),(4,.pointer (some ⟨b1,0,none⟩)),(3,.func (Go.Fn.func 132) #[] #[])],[(0,o.map (·.block),Row 125 r2 j),(2,some b2,.cells #[.int .i64 p.ins,.int .i64 p.regs,.slice ac p.code.length cc,.slice ao p.outs.length co] 26),(1,some b1,.cells #[.func (Go.Fn.func 176) #[] #[],.func (Go.Fn.func 138) #[] #[],.func (Go.Fn.func 177) #[] #[],.func (Go.Fn.func 75) #[] #[],.func (Go.Fn.func 178) #[] #[]] 206)])) (fun (i,Gx,r2,rs)=>Gx) (fun (i,Gx,r2,rs)=>i≤p.code.length∧G.le Gx∧r2.length=r.length∧OwnA o d r2 j∧Bigs Gx r2 rs∧Below (m+3*i) rs∧wS p zs i=some rs) (fun (i,Gx,r2,rs)=>p.code.length - i) ((0,G,r,zs)) (⟨aM _,bK _,rfl,hob,hg,hm,rfl⟩) fun ⟨i,Gx,r2,rs⟩=>fun hk=>?_
 obtain ⟨hi0,hgx,hr2,ho2,hg2,hb2,hrun⟩:=hk
 replace hc:=hc.up hgx
 rcases aK i p.code.length with hic | hic
 · have hmem:(p.code[(i:Int).toNat]?.getD default)∈p.code:=by
    rw [aE,aA hic];exact bI hic
   have hmi:=hmay _ hmem
   obtain ⟨m1,m2,m3,m4,m5,m6,m7,m8⟩:=tE hmi
   have hbz:(p.code[(i:Int).toNat]?.getD default).op=3∨(p.code[(i:Int).toNat]?.getD default).op=4∨(p.code[(i:Int).toNat]?.getD default).b=0:=by
    unfold sP at hmi
    rw [aU,aU,aS] at hmi
    exact hmi.1.1.2.2.2.2
   have mb:0≤(p.code[(i:Int).toNat]?.getD default).b∧(p.code[(i:Int).toNat]?.getD default).b<r2.length:=by
    rcases hbz with h | h | h
    · have:=m4 (.inl h);omega
    · have:=m4 (.inr h);omega
    omega
   have mt:0≤(p.code[(i:Int).toNat]?.getD default).to∧(p.code[(i:Int).toNat]?.getD default).to<r2.length:=sE
   have hk3:(p.code[(i:Int).toNat]?.getD default).op≠1→(p.code[(i:Int).toNat]?.getD default).op≠2→(p.code[(i:Int).toNat]?.getD default).op≠3→(p.code[(i:Int).toNat]?.getD default).op≠4→cst (p.code[(i:Int).toNat]?.getD default)≠0∧((cst (p.code[(i:Int).toNat]?.getD default)).natAbs:Int)<pb 3:=fun a b c d=>⟨(m6 a b c d).1,mN (m6 a b c d).2 EL⟩
   refine aJ 14 [1] ?_
   refine fP (α:=Sl.Instr) T.sl23 ?_
   refine lB T.agg91 ?_
   refine aN 3 rfl T.zero91 fun b3=>?_
   refine aL 9 [3,1,3] ?_
   refine bX 0 rfl (eu _ (p.code[(i:Int).toNat]?.getD default) o d r2 j rs (m+3*i) ho2 hg2 hb2 sE m1 sE mb hk3 m7 m8) fun v1 G1 Ho1 hle1 hp=>?_
   obtain ⟨x,rfl,hx,rfl⟩:=hp
   replace hc:=hc.up hle1
   replace hg2:=hg2.up hle1
   by_cases hd:wA (p.code[((i:Nat):Int).toNat]?.getD default) rs=none
   · have hd2:¬wA (p.code[(i:Int).toNat]?.getD default) rs≠none:=fun h=>h hd
     refine aB 3 [] ?_
     refine aN 4 rfl T.zero125 fun b4=>?_
     refine aL 8 [4] ?_
     refine aO (fF rfl) ?_
     refine aR 16 [1] ?_
     refine iR ?_
     refine mB [0] ?_
     exact ⟨r2,(i:Int),rfl,rfl,hr2,ho2,.inr ⟨Yw hrun hd hic,by omega⟩⟩
   obtain ⟨z,hz⟩:=Option.ne_none_iff_exists'.1 hd
   have hxz:=hx z hz
   have hok:wA (p.code[(i:Int).toNat]?.getD default) rs≠none:=hd
   refine aB 3 [] ?_
   refine aN 4 rfl T.zero125 fun b4=>?_
   refine aL 8 [4] ?_
   refine aO (fF rfl) ?_
   refine aZ 2 [] ?_
   refine cT (fun hc1=>?_) fun hc1=>?_
   refine bE 13 [] ?_
   refine iR ?_
   refine mB [0] ?_
   rotate_left
   refine aJ 8 [3,4] ?_
   refine gX (α:=IV) T.sl68 ?_
   rotate_left
   · exact absurd hok hc1
   refine cU (z:=x) 0 T.size125 rfl rfl rfl sF sE rfl fun ho9=>?_
   refine aL 7 [4] ?_
   refine eC (fst:=[]) (cap:=[]) 5 rfl T.fn132 rfl rfl (ez _ _ _) (sJ trivial) fun v2 G2 Ho2 hle2 hp=>?_
   obtain ⟨rfl,rfl,rfl⟩:=hp
   refine aR 11 [0] ?_
   refine cN 2 rfl (show _=Value.slice o (r2.set (p.code[(i:Int).toNat]?.getD default).to.toNat x).length d by rw [aG]) ?_
   refine cL ((i+1,_,r2.set (p.code[(i:Int).toNat]?.getD default).to.toNat x,rs.set (p.code[(i:Int).toNat]?.getD default).to.toNat z)) ?_ ?_
   · refine ⟨by omega,aQ hgx hle1,by rw [aG];exact hr2,ho9,hg2.set _ hxz,?_,Yu hrun hz⟩
     have hs:=HR hb2 (fun h=>(hk3 sE sE sE sE).2) hz
     rw [show m+3*(i+1)=m+3*i+3 by omega]
     exact HS (hb2.mono sE) hs _
   show p.code.length - (i+1)<p.code.length - i
   omega
 have hii:i=p.code.length:=sE
 subst hii
 refine bE 18 [0] ?_
 refine iR ?_
 refine mB [0] ?_
 exact ⟨r2,-1,rfl,rfl,hr2,ho2,.inl ⟨rs,hrun,rfl,hg2⟩⟩
end
theorem Va (G:Imm) (p:PV) (ac ao:Option Addr) (cc co:Nat) (hc:Arr G ac p.code) (ho:Arr G ao p.outs) (h1:p.code.length≤1099511627776) (h2:p.outs.length≤1099511627776) (hR:sH p=true) :
 Does Tryz.prog 56 [.agg #[.int .i64 p.ins,.int .i64 p.regs,.slice ac p.code.length cc,.slice ao p.outs.length co]] G [] (fun v G' Ho=>v=.tuple #[.int .i64 (uD p).1,.int .i64 0]∧G'=G∧Ho=[]):=by
 have hf:(uD p).2=false:=by unfold sH at hR;simpa using hR
 have h:=YA G p ac ao cc co hc ho h1 h2
 rw [hf] at h
 exact h
theorem Sh {x y:Int} (h:tY x y=0):x=y:=by
 unfold tY at h
 split at h
 · omega
 split at h <;> omega
theorem Si {za zb:List Int} {i:Nat} (h:za.take i=zb.take i) (h1:i<za.length) (h2:i<zb.length) (he:za[i]?.getD 0=zb[i]?.getD 0):za.take (i+1)=zb.take (i+1):=by
 rw [aA h1,aA h2] at he
 rw [cB,cB,h,aA h1,aA h2]
 have e:za[i]=zb[i]:=he
 rw [e]
def tZ (p:PV) (zs:List Int):List Int:=zs++List.replicate (p.regs.toNat - zs.length) 0
def vK (p:PV) (rs:List Int):List Int:=p.outs.map fun r=>rs[r.toNat]?.getD 0
def xH (p:PV) (zs:List Int):Option (List Int):=(wS p (tZ p zs) p.code.length).map (vK p)
theorem Yx {G:Imm} {l m:List IV} {zs ys:List Int} (h:Bigs G l zs) (h2:Bigs G m ys):Bigs G (l++m) (zs++ys):=by
 have e1:=h.1
 have e2:=h2.1
 refine ⟨by rw [aC,aC];omega,fun i hi=>?_⟩
 rw [aC] at hi
 rcases aK i l.length with h3 | h3
 · rw [bB h3,bB sE];exact h.2 i h3
 rw [bT h3,bT sE,←e1];exact h2.2 _ sE
theorem Vb {m:Nat} {zs ys:List Int} (h:Below m zs) (h2:Below m ys):Below m (zs++ys):=fun z hz=>by
 rcases gW.1 hz with h1 | h1
 · exact h z h1
 exact h2 z h1
theorem Lv (m n:Nat):Below m (List.replicate n 0):=fun z hz=>by rw [iX hz];exact xO m
section
attribute [local irreducible] sI pb tY tF p2 cst wA uD
theorem ZN (G:Imm) (p:PV) (ac ao:Option Addr) (cc co:Nat) (hc:Arr G ac p.code) (ho:Arr G ao p.outs) (h1:p.code.length≤1099511627776) (h2:p.outs.length≤1099511627776) (hR:sH p=true) (n:Int) (hn:n=p.ins) :
 Does Tryz.prog 129 [.agg #[.int .i64 p.ins,.int .i64 p.regs,.slice ac p.code.length cc,.slice ao p.outs.length co],.int .i64 n] G [] (fun v G' Ho=>v=.int .i64 0∧G'=G∧Ho=[]):=by
 refine D0 Tryz.func129 Tryz.ntmps129 fun w=>?_
 refine aJ 2 [] ?_
 refine dQ 0 fun b1=>?_
 refine aL 6 [0] ?_
 refine cI rfl (Va _ p _ _ _ _ hc ho h1 h2 hR) ?_
 refine aR 36 [0,0,0] ?_
 refine cP ?_
 exact ⟨rfl,rfl,rfl⟩
theorem fc (G:Imm) (a b:Option Addr) (ca cb:Nat) (la lb:List IV) (za zb:List Int) (ha:Arr G a la) (hb:Arr G b lb) (hA:Bigs G la za) (hB:Bigs G lb zb) (h1:la.length≤1048576) (h2:lb.length≤1048576) (m:Nat) (hm:m≤268435456) (ba:Below m za) (bb:Below m zb) :
 Does Tryz.prog 209 [.slice a la.length ca,.slice b lb.length cb] G [] (fun v G' Ho=>∃ k:Int,v=.int .i64 k∧(k=0↔za=zb)∧G'=G∧Ho=[]):=by
 have e1:=hA.1
 have e2:=hB.1
 refine D0 Tryz.func209 Tryz.ntmps209 fun w=>?_
 by_cases hn:la.length=lb.length
 · refine bJ 41 [0,0] ?_
   refine gY (ι:=Nat) (fun i=>([(22,.int .i64 (i:Int)),(21,.int .i64 (la.length:Int)),(20,.slice a (List.length la) ca),(1,.slice b (List.length lb) cb)],[])) (fun i=>i≤la.length∧za.take i=zb.take i) (fun i=>la.length - i) (0) (⟨aM _,rfl⟩) fun i=>fun hk=>?_
   obtain ⟨hi,hz⟩:=hk
   rcases aK i la.length with hia | hia
   · have hx9:=hA.at (k:=(i:Int)) sE
     have hy9:=hB.at (k:=(i:Int)) sE
     have hx5:=aV (gJ hx9 (ba.at _)) (aV hm (show 268435456≤1073741824 by decide))
     have hy5:=aV (gJ hy9 (bb.at _)) (aV hm (show 268435456≤1073741824 by decide))
     refine aJ 14 [1] ?_
     refine fP (α:=IV) T.sl68 ?_
     refine lB T.agg125 ?_
     refine aN 0 rfl T.zero125 fun b1=>?_
     refine aZ 5 [0] ?_
     refine cX [0] [] T.mixed [[0,0],[1],[2]] ?_
     refine mQ (α:=IV) 3 T.sl68 ?_
     refine Gm.le 4 T.agg125 ?_
     refine bV 5 ?_
     refine cI rfl (WK _ _ _ _ _ hx9 hy9 hx5 hy5) ?_
     refine bD ?_
     refine dE [[6]] ?_
     refine cZ ?_
     refine mD 7 [] ?_
     refine cT (fun hc1=>?_) fun hc1=>?_
     refine bE 12 [] ?_
     refine cP ?_
     rotate_left
     refine bE 7 [] ?_
     rotate_left
     · exact ⟨_,rfl,⟨fun h=>absurd h hc1,fun h=>absurd (Mn (by rw [h])) hc1⟩,rfl,rfl⟩
     refine cL (i+1) ?_ ?_
     · exact ⟨by omega,Si hz sE sE (Sh (eP.1 hc1))⟩
     omega
   have hii:i=la.length:=sE
   subst hii
   refine bE 18 [0] ?_
   refine cP ?_
   refine ⟨0,rfl,⟨fun _=>?_,fun _=>rfl⟩,rfl,rfl⟩
   rw [dL sE,dL sE] at hz
   exact hz
 have hne:za≠zb:=fun h=>hn (by rw [e1,e2,h])
 by_cases hlt:la.length<lb.length
 · refine bE 26 [1] ?_
   refine cP ?_
   exact ⟨-1,rfl,⟨fun h=>absurd h sN,fun h=>absurd h hne⟩,rfl,rfl⟩
 refine bE 37 [0,1] ?_
 refine cP ?_
 exact ⟨1,rfl,⟨fun h=>absurd h sN,fun h=>absurd h hne⟩,rfl,rfl⟩
theorem fd (G:Imm) (a b:Option Addr) (ca cb:Nat) (la lb:List IV) (za zb:List Int) (ha:Arr G a la) (hb:Arr G b lb) (hA:Bigs G la za) (hB:Bigs G lb zb) (h1:la.length≤1048576) (h2:lb.length≤1048576) (m:Nat) (hm:m≤268435456) (ba:Below m za) (bb:Below m zb) :
 Does Tryz.prog 160 [.slice a la.length ca,.slice b lb.length cb] G [] (fun v G' Ho=>v=.bool (decide (za=zb))∧G'=G∧Ho=[]):=by
 refine D0 Tryz.func160 Tryz.ntmps160 fun w=>?_
 refine aJ 9 [] ?_
 refine bX 0 rfl (fc G _ _ _ _ _ _ za zb ha hb hA hB h1 h2 m hm ba bb) fun v1 G1 Ho1 hle1 hp=>?_
 obtain ⟨k1,rfl,hk1,rfl,rfl⟩:=hp
 refine aR 5 [] ?_
 refine cP ?_
 exact ⟨by rw [rT.2 hk1],rfl,rfl⟩
theorem fe (G:Imm):Does Tryz.prog 131 [] G [] (fun v G' Ho=>v=MP∧G'=G∧Ho=[]):=by
 refine D0 Tryz.func131 Tryz.ntmps131 fun w=>?_
 refine aJ 2 [] ?_
 refine aN 0 rfl T.zero206 fun b1=>?_
 refine aL 4 [] ?_
 refine aO (bO (cs:=[_,_,_,_,_]) T.st206 rfl rfl rfl) ?_
 refine aR 4 [0] ?_
 refine cK (.inr rfl) (Ho:=Hp.only _ []) rfl (.agg 0 rfl rfl T.agg206) (aT _ _) ?_
 exact ⟨rfl,rfl,rfl⟩
def MQ (p:PV) (zs:List Int) (v:Value) (G':Imm) (Ho:Hp):Prop:=
 Ho=[]∧((∃ os b r c',xH p zs=some os∧v=.tuple #[.slice b (List.length r) c',.int .i64 0,.int .i64 0]∧Arr G' b r∧Bigs G' r os∧List.length r=p.outs.length)∨(xH p zs=none∧∃ k,v=.tuple #[.slice none 0 0,.int .i64 k,.int .i64 20]))
theorem c74 (G:Imm) (p:PV) (ac ao ai:Option Addr) (cc co ci:Nat) (li:List IV) (zs:List Int) (m:Nat) (hc:Arr G ac p.code) (ho:Arr G ao p.outs) (hi:Arr G ai li) (hb:Bigs G li zs) (hm:Below m zs) (hmm:m≤1048576) (hR:sH p=true) (hn:(li.length:Int)=p.ins) :
 Does Tryz.prog 74 [.agg #[.int .i64 p.ins,.int .i64 p.regs,.slice ac p.code.length cc,.slice ao p.outs.length co],.slice ai li.length ci] G [] (MQ p zs):=by
 obtain ⟨f1,f2,f3,f4,f5,f6,f7,f8⟩:=sK hR
 have h1:p.code.length≤1099511627776:=sE
 have h2:p.outs.length≤1099511627776:=sE
 obtain ⟨R,hRg⟩:∃ R,R=p.regs.toNat:=⟨_,rfl⟩
 have hb1:=hb.1
 obtain ⟨r0,hr0⟩:∃ r0,r0=li++List.replicate (R - li.length) (default:IV):=⟨_,rfl⟩
 have lr0:r0.length=R:=by rw [hr0,aC,aI];omega
 have hg0:Bigs G r0 (tZ p zs):=by
  unfold tZ
  rw [hr0,←hb1,←hRg];exact Yx hb (oX G _)
 have hm0:Below m (tZ p zs):=Vb hm (Lv m _)
 refine D0 Tryz.func74 Tryz.ntmps74 fun w=>?_
 refine dZ 0 (Row 125 ([]:List IV) []) ?_
 refine aJ 2 [] ?_
 refine dQ 1 fun b1=>?_
 refine aL 11 [1] ?_
 refine cI rfl (ZN _ p _ _ _ _ sF sF h1 h2 hR _ hn) ?_
 refine aL 16 [0,1] ?_
 refine fV (α:=IV) 2 rfl T.sl68 T.el125 rfl rfl sE sE fun b2=>?_
 refine aL 7 [] ?_
 refine Gf (α:=IV) 2 rfl T.sl68 rfl rfl rfl (lC sF) UY ?_
 refine aZ 4 [] ?_
 refine cX [0,1,2] [(2,3),(1,3),(0,3)] T.mixed [[1,1],[2]] ?_
 refine bV 0 ?_
 refine cI rfl (fe _) ?_
 refine cG 3 ?_
 refine nU 2 (Row 125 r0 []) rfl (by rw [hr0,List.drop_replicate,←hRg]) ?_
 refine gK 28 rfl (show _=Value.slice (some ⟨b2,0,none⟩) r0.length R by rw [aI,lr0,←hRg]) ?_
 refine gK 8 rfl (show _=Value.slice (some ⟨b2,0,none⟩) r0.length R by rw [aI,lr0,←hRg]) ?_
 refine bX 2 rfl (fb _ p ac ao cc co (some ⟨b2,0,none⟩) R r0 [] (tZ p zs) m hc (.inr ⟨b2,rfl,by rw [lr0];rfl,by omega,by simp only [maxLen];omega⟩) hg0 hm0 sE f4 sE sE f8) fun v9 G9 Ho9 hle9 hp=>?_
 obtain ⟨r9,k9,rfl,rfl,hr9,ho9,hcase⟩:=hp
 replace ho:=ho.up hle9
 rcases hcase with ⟨rs,hrs,rfl,hg9⟩ | ⟨hno,hk9⟩
 · have hrs1:=hg9.1
   refine bD ?_
   refine dE [[4]] ?_
   refine cZ ?_
   refine mD 25 [0,1] ?_
   have lr9:r9.length=R:=sE
   refine iI 8 rfl (show _=Value.slice (some ⟨b2,0,none⟩) r9.length R by rw [lr9,lr0]) ?_
   refine gL (ι:=Nat×List IV×(Option Addr×Nat×List Value)) (fun (i,q,(o,d,j))=>([(36,.int .i64 (i:Int)),(10,.slice o q.length d),(8,.slice (some (Addr.mk b2 0 none)) (List.length r9) R),(35,.int .i64 (↑p.outs.length:Int)),(34,.slice ao p.outs.length co),(6,.int .i64 0),(5,.int .i64 0),(4,.slice none 0 0)],[(0,o.map (·.block),Row 125 q j),(2,some b2,Row 125 r9 []),(1,some b1,.cells #[.int .i64 p.ins,.int .i64 p.regs,.slice ac p.code.length cc,.slice ao p.outs.length co] 26)])) (fun (i,q,(o,d,j))=>i≤p.outs.length∧q.length=i∧Bigs G9 q ((vK p rs).take i)∧OwnA o d q j) (fun (i,q,(o,d,j))=>p.outs.length - i) ((0,[],(none,0,[]))) (⟨aM _,rfl,by rw [cM];exact Bigs.nil _,eD⟩) ⟨rfl,rfl,rfl,rfl,rfl,rfl,rfl,rfl,trivial⟩ ⟨rfl,rfl,rfl,trivial⟩ fun ⟨i,q,(o,d,j)⟩=>fun hk=>?_
   obtain ⟨hi0,hqi,hbq,hoq⟩:=hk
   rcases aK i p.outs.length with hio | hio
   · have hmem:p.outs[(i:Int).toNat]?.getD default∈p.outs:=by
      rw [aE,aA hio];exact bI hio
     have hrg:=f7 _ hmem
     refine aJ 13 [1] ?_
     refine fP (α:=Int) T.sl24 ?_
     refine iY 0 T.one3 ?_
     refine aL 7 [] ?_
     refine gX (α:=IV) T.sl68 ?_
     refine aO (pK 2 T.agg125 rfl rfl sF sE) ?_
     refine dY (α:=IV) 3 [(Option.getD r9[Int.toNat (Option.getD p.outs[Int.toNat (↑i:Int)]? Inhabited.default)]? Inhabited.default)] rfl T.sl68 T.el125 rfl rfl rfl rfl rfl fun b3=>?_
     refine jS (α:=IV) 0 T.sl68 T.el125 (fE 3 rfl) fun a1 c1 junk1 ho1=>?_
     refine aR 8 [] ?_
     refine cL ((i+1,q++[r9[(p.outs[(i:Int).toNat]?.getD default).toNat]?.getD default],(a1,c1,junk1))) ?_ ?_
     · refine ⟨by omega,by rw [aC,hqi];rfl,?_,ho1⟩
       have e:(vK p rs).take (i+1)=(vK p rs).take i++[rs[(p.outs[(i:Int).toNat]?.getD default).toNat]?.getD 0]:=by
        rw [cB]
        congr 1
        unfold vK
        rw [bN,aE,aA hio];rfl
       rw [e]
       exact Bigs.snoc hbq (hg9.at sE)
     show p.outs.length - (i+1)<p.outs.length - i
     omega
   have hii:i=p.outs.length:=sE
   subst hii
   refine bE 21 [0] ?_
   refine cQ 0 rfl hoq fun G8 hle8 hA=>?_
   refine rC (.inr rfl) (Ho:=[]) rfl (.tmp rfl) (.tmp rfl) (.tmp rfl) trivial ?_
   have hol:(vK p rs).length=p.outs.length:=by unfold vK;rw [aP]
   rw [dL sE] at hbq
   exact ⟨rfl,.inl ⟨vK p rs,o,q,d,by unfold xH;rw [hrs];rfl,rfl,hA,hbq.up hle8,hqi⟩⟩
 refine bD ?_
 refine dE [[4]] ?_
 refine cZ ?_
 refine dX 18 [1] ?_
 refine rC (.inr rfl) (Ho:=[]) rfl (.tmp rfl) (.tmp rfl) (.tmp rfl) trivial ?_
 exact ⟨rfl,.inr ⟨by unfold xH;rw [hno];rfl,k9,rfl⟩⟩
end
def ev:List Int→Int→Int→Int
 | [],_,_=>0
 | c :: f,a,b=>c*b ^ f.length+a*ev f a b
theorem Yy (g a b:Int):∀ f:List Int,ev f (g*a) (g*b)*g=g ^ f.length*ev f a b
 | []=>by simp [ev]
 | c :: f=>by
   have ih:=Yy g a b f
   show (c*(g*b) ^ f.length+g*a*ev f (g*a) (g*b))*g=g ^ (f.length+1)*(c*b ^ f.length+a*ev f a b)
   rw [Int.mul_pow,fJ,jW,cF]
   congr 1
   · ac_rfl
   calc g*a*ev f (g*a) (g*b)*g=g*a*(ev f (g*a) (g*b)*g):=by ac_rfl
    _=g*a*(g ^ f.length*ev f a b):=by rw [ih]
    _=g ^ f.length*g*(a*ev f a b):=by ac_rfl
theorem SI {g:Int} (a b:Int) (c:Int) (f:List Int) (hg:g≠0):ev (c :: f) (g*a) (g*b)=g ^ f.length*ev (c :: f) a b:=by
 have h:=Yy g a b (c :: f)
 refine oT hg ?_
 rw [h,aW,fJ]
 ac_rfl
def zD (p q:Int):Int→List Int→List Int
 | last,[]=>[-(q*last)]
 | last,c :: f=>(p*c - q*last) :: zD p q c f
theorem Kf (p q:Int):∀ (last:Int) (f:List Int),(zD p q last f).length=f.length+1
 | _,[]=>rfl
 | _,c :: f=>by show (zD p q c f).length+1=f.length+1+1;rw [Kf]
theorem Oh (p q a b:Int):∀ (last:Int) (f:List Int),ev (zD p q last f) a b=(p*b - q*a)*ev f a b - q*last*b ^ f.length
 | last,[]=>by
   show -(q*last)*b ^ 0+a*0=(p*b - q*a)*0 - q*last*b ^ 0
   rw [bL,bL,eV,fX];omega
 | last,c :: f=>by
   show (p*c - q*last)*b ^ (zD p q c f).length+a*ev (zD p q c f) a b=(p*b - q*a)*(c*b ^ f.length+a*ev f a b) - q*last*b ^ (f.length+1)
   rw [Kf,Oh p q a b c f,fJ]
   generalize b ^ f.length=B
   generalize ev f a b=E
   have h1:(p*c - q*last)*(B*b)=p*c*(B*b) - q*last*(B*b):=kN ..
   have h2:a*((p*b - q*a)*E - q*c*B)=a*((p*b - q*a)*E) - a*(q*c*B):=kO ..
   have h3:(p*b - q*a)*(c*B+a*E)=(p*b - q*a)*(c*B)+(p*b - q*a)*(a*E):=cF ..
   have h4:(p*b - q*a)*(c*B)=p*b*(c*B) - q*a*(c*B):=kN ..
   have h5:a*((p*b - q*a)*E)=(p*b - q*a)*(a*E):=by ac_rfl
   have h6:p*c*(B*b)=p*b*(c*B):=by ac_rfl
   have h7:a*(q*c*B)=q*a*(c*B):=by ac_rfl
   rw [h1,h2,h3,h4,h5,h6,h7]
   omega
theorem SJ {p q x:Int} (hc:Int.gcd p q=1) (k:Nat) (h:p ∣ x*q ^ k):p ∣ x:=by
 have h1:p.natAbs ∣ x.natAbs*q.natAbs ^ k:=by rw [←oR,←eX];exact Int.natAbs_dvd_natAbs.mpr h
 exact Int.natAbs_dvd_natAbs.mp ((Nat.Coprime.pow_right k (show Nat.Coprime p.natAbs q.natAbs from hc)).dvd_of_dvd_mul_right h1)
theorem EM {p q:Int} (hc:Int.gcd p q=1):∀ (F:List Int) (last:Int) (m:Nat),F.length=m+1→ev F p q=-(q*last)*q ^ m→∃ f:List Int,f.length=m∧F=zD p q last f
 | [],_,_,h,_=>by simp at h
 | [c],last,m,h,he=>by
   have hm:m=0:=by simpa using h.symm
   subst hm
   refine ⟨[],rfl,?_⟩
   have e:c*q ^ 0+p*0=-(q*last)*q ^ 0:=he
   rw [iN,gH,bL,eV,gH] at e
   rw [e];rfl
 | c :: c' :: F,last,m,h,he=>by
   obtain ⟨k,rfl⟩:∃ k,m=k+1:=⟨F.length,by simp at h;omega⟩
   have hl:(c' :: F).length=k+1:=by simp at h ⊢;omega
   have e:c*q ^ (c' :: F).length+p*ev (c' :: F) p q=-(q*last)*q ^ (k+1):=he
   rw [hl] at e
   have e1:(c+q*last)*q ^ (k+1)=p*(-ev (c' :: F) p q):=by
    rw [jW,iT]
    rw [fX] at e
    omega
   have hd:∃ d:Int,c=p*d - q*last∧ev (c' :: F) p q=-(q*d)*q ^ k:=by
    by_cases hp:p=0
    · subst hp
      have hq:q.natAbs=1:=by simpa [Int.gcd] using hc
      have hq2:q*q=1:=by
       rcases Int.natAbs_eq q with h | h <;> rw [hq] at h <;> rw [h] <;> rfl
      have hqk:∀ n:Nat,q ^ n*q ^ n=1:=fun n=>by
       induction n with
       | zero=>simp
       | succ n ih=>rw [fJ,show q ^ n*q*(q ^ n*q)=(q ^ n*q ^ n)*(q*q) by ac_rfl,ih,hq2];rfl
      refine ⟨-(ev (c' :: F) 0 q*q ^ (k+1)),?_,?_⟩
      · rw [dV] at e1
        have:c+q*last=0:=by
         rcases Int.mul_eq_zero.mp e1 with h | h
         · exact h
         have:=hqk (k+1);rw [h] at this;simp at this
        rw [dV];omega
      have h2:-(q * -(ev (c' :: F) 0 q*q ^ (k+1)))*q ^ k=ev (c' :: F) 0 q*(q ^ (k+1)*q ^ (k+1)):=by
       rw [iT,Int.neg_neg,fJ];ac_rfl
      rw [h2,hqk,gH]
    obtain ⟨d,hd⟩:=SJ (x:=c+q*last) hc (k+1) ⟨_,e1⟩
    refine ⟨d,by omega,?_⟩
    refine Int.eq_of_mul_eq_mul_left hp ?_
    rw [hd] at e1
    have h3:p*(-(q*d)*q ^ k)=-(p*d*q ^ (k+1)):=by
     rw [fJ,fX,iT];congr 1;ac_rfl
    rw [h3,e1,iT,Int.neg_neg]
   obtain ⟨d,hd1,hd2⟩:=hd
   obtain ⟨f,hf1,hf2⟩:=EM hc (c' :: F) d k hl hd2
   refine ⟨d :: f,by rw [aW,hf1],?_⟩
   show c :: c' :: F=(p*d - q*last) :: zD p q d f
   rw [←hf2,←hd1]
def vX (u v:Int):Nat→List Int
 | 0=>[1]
 | e+1=>zD v (-u) 0 (vX u v e)
theorem Cs (u v:Int):∀ e,(vX u v e).length=e+1
 | 0=>rfl
 | e+1=>by show (zD v (-u) 0 (vX u v e)).length=_;rw [Kf,Cs]
theorem Kg (u v a b:Int):∀ e,ev (vX u v e) a b=(u*a+v*b) ^ e
 | 0=>by show (1:Int)*b ^ 0+a*0=_;simp
 | e+1=>by
   show ev (zD v (-u) 0 (vX u v e)) a b=_
   rw [Oh,Kg,bL,dV,kV,fJ,fX,Int.sub_neg,cD,rQ (v*b)]
def Ea (t:Int) (F G:List Int):List Int:=List.zipWith (fun x y=>x - t*y) F G
theorem Oi (t a b:Int):∀ F G:List Int,F.length=G.length→ev (Ea t F G) a b=ev F a b - t*ev G a b
 | [],[],_=>by show (0:Int)=0 - t*0;simp
 | x :: F,y :: G,h=>by
   have hl:F.length=G.length:=by simpa using h
   show (x - t*y)*b ^ (Ea t F G).length+a*ev (Ea t F G) a b=(x*b ^ F.length+a*ev F a b) - t*(y*b ^ G.length+a*ev G a b)
   have hz:(Ea t F G).length=G.length:=by unfold Ea;rw [iQ,hl,pX]
   rw [hz,Oi t a b F G hl,hl,kN,kO,cF]
   have h1:t*y*b ^ G.length=t*(y*b ^ G.length):=by ac_rfl
   have h2:a*(t*ev G a b)=t*(a*ev G a b):=by ac_rfl
   rw [h1,h2];omega
theorem HT {p q u v:Int} (hc:Int.gcd p q=1) (h1:u*p+v*q=1) (F:List Int) (e:Nat) (hF:F.length=e+1) :
 ∃ f:List Int,f.length=e∧Ea (ev F p q) F (vX u v e)=zD p q 0 f∧∀ a b:Int,ev F a b - ev F p q*(u*a+v*b) ^ e=(p*b - q*a)*ev f a b:=by
 have hl:F.length=(vX u v e).length:=by rw [hF,Cs]
 have hz:(Ea (ev F p q) F (vX u v e)).length=e+1:=by unfold Ea;rw [iQ,Cs,hF,pX]
 obtain ⟨f,hf1,hf2⟩:=EM hc (Ea (ev F p q) F (vX u v e)) 0 e hz (by
  rw [Oi _ _ _ _ _ hl,Kg,h1,Int.one_pow,gH,rM];simp)
 refine ⟨f,hf1,hf2,fun a b=>?_⟩
 have h3:=Oh p q a b 0 f
 rw [←hf2,Oi _ _ _ _ _ hl,Kg,bL,dV,kV] at h3
 exact h3
theorem Oj (a b:Int):∀ n:Nat,ev (List.replicate n 0) a b=0
 | 0=>rfl
 | n+1=>by
   show (0:Int)*b ^ (List.replicate n (0:Int)).length+a*ev (List.replicate n 0) a b=0
   rw [Oj,dV,bL];rfl
theorem EN (a b:Int):∀ (n j:Nat),j<n→ev ((List.replicate n (0:Int)).set j 1) a b=a ^ j*b ^ (n - 1 - j)
 | n+1,0,_=>by
   show (1:Int)*b ^ (List.replicate n (0:Int)).length+a*ev (List.replicate n 0) a b=a ^ 0*b ^ (n+1 - 1 - 0)
   rw [Oj,aI,bL,eV,iN];rfl
 | n+1,j+1,h=>by
   show (0:Int)*b ^ ((List.replicate n (0:Int)).set j 1).length+a*ev ((List.replicate n (0:Int)).set j 1) a b=a ^ (j+1)*b ^ (n+1 - 1 - (j+1))
   rw [EN a b n j sE,dV,jV,fJ,show n+1 - 1 - (j+1)=n - 1 - j by omega]
   ac_rfl
def wI (n:Nat):List Int:=(List.range n).map fun (k:Nat)=>(k:Int)
theorem Mo (n:Nat):(wI n).length=n:=by unfold wI;rw [aP,bS]
theorem Ok (n:Nat):wI (n+1)=wI n++[(n:Int)]:=by unfold wI;rw [nY,jP];rfl
theorem c92 (G:Imm) (n:Nat) (hn:n≤1048576) :
 Does Tryz.prog 92 [.int .i64 (n:Int)] G [] (fun v G' Ho=>∃ (s:Option Addr) (c:Nat),v=.slice s (wI n).length c∧Arr G' s (wI n)∧(wI n).length≤c∧Ho=[]):=by
 refine D0 Tryz.func92 Tryz.ntmps92 fun w=>?_
 refine dZ 9 (Row 3 ([]:List Int) []) ?_
 refine bJ 18 [] ?_
 refine gL (ι:=Nat×(Option Addr×Nat×List Value)) (fun (k,(o,d,j))=>([(6,.int .i64 (k:Int)),(3,.slice o (wI k).length d),(5,Go.Value.int Go.IntKind.i64 (↑n:Int)),(2,Go.Value.slice Option.none 0 0)],[(9,o.map (·.block),Row 3 (wI k) j)])) (fun (k,(o,d,j))=>k≤n∧OwnA o d (wI k) j) (fun (k,(o,d,j))=>n - k) ((0,(none,0,[]))) (⟨aM _,eD⟩) ⟨rfl,rfl,rfl,rfl,trivial⟩ ⟨rfl,trivial⟩ fun ⟨k,(o,d,j)⟩=>fun hk=>?_
 obtain ⟨hk1,hk2⟩:=hk
 have hkl:=Mo k
 rcases aK k n with hke | hke
 · refine aJ 20 [1] ?_
   refine dY (α:=Int) 10 [((↑k:Int))] rfl T.sl24 T.el3 rfl rfl rfl rfl rfl fun b1=>?_
   refine jS (α:=Int) 9 T.sl24 T.el3 (fE 10 rfl) fun a1 c1 junk1 ho1=>?_
   refine aR 8 [] ?_
   refine cN 6 rfl (show _=Value.int .i64 ((k+1:Nat):Int) from rfl) ?_
   refine cN 3 rfl (show _=Value.slice a1 (wI (k+1)).length c1 by rw [Ok]) ?_
   refine fY 9 (Row 3 (wI (k+1)) junk1) rfl (by rw [Ok]) ?_
   refine cL ((k+1,(a1,c1,junk1))) ?_ ?_
   · exact ⟨hke,by rw [Ok];exact ho1⟩
   show n - (k+1)<n - k
   omega
 have hke:k=n:=sE
 subst hke
 refine bE 19 [0] ?_
 refine cQ 9 rfl hk2 fun G8 hle8 hA8=>?_
 refine cP ?_
 exact ⟨_,_,rfl,hA8,hk2.le,rfl⟩
def Kh (l:List R2):Nat:=(l.filter fun p=>decide (Int.gcd p.a p.b≠1)).length
def Yz (i:Sl.Instr):Prop:=i.op=6∨i.op=8
instance (i:Sl.Instr):Decidable (Yz i):=inferInstanceAs (Decidable (_∨_))
def ZO (i:Sl.Instr):Prop:=(i.op=6∨i.op=5)∧(512<i.c∨i.c < -512)
instance (i:Sl.Instr):Decidable (ZO i):=inferInstanceAs (Decidable (_∧_))
def Vc (c:List Sl.Instr):Nat:=(c.filter fun i=>decide (Yz i)).length
def ff (p:PV) (l:List R2):Prop:=(∀ i∈p.code,¬ZO i)∧(Vc p.code:Int)≤(l.length:Int)*((l.length:Int) - 1) / 2+((l.length:Int) - 1)*(Kh l:Int)
instance (p:PV) (l:List R2):Decidable (ff p l):=inferInstanceAs (Decidable (_∧_))
def Eb (a b s:Int):Bool:=((Int.gcd a b:Int) - s*a).tmod b == 0
def MR (a b:Int):Nat→Nat→Nat
 | 0,k=>k
 | n+1,k=>if Eb a b (k:Int) || Eb a b (-(k:Int)) then k else MR a b n (k+1)
def Cb (a b:Int):Nat:=MR a b 16 0
def bezS (a b:Int):Int:=if b=0 then a.tdiv (Int.gcd a b) else if Eb a b (Cb a b:Int) then (Cb a b:Int) else -(Cb a b:Int)
def bezT (a b:Int):Int:=if b=0 then 0 else ((Int.gcd a b:Int) - bezS a b*a).tdiv b
def MS (a b:Int):Bool:=(a == 0 && b == 0) || (bezS a b*a+bezT a b*b == (Int.gcd a b:Int) && decide ((bezS a b).natAbs+(bezT a b).natAbs≤17) && decide (Cb a b≤15) && (b == 0 || Eb a b (Cb a b:Int) || Eb a b (-(Cb a b:Int))))
theorem SK:((List.range 33).all fun i=>(List.range 33).all fun j=>MS ((i:Int) - 16) ((j:Int) - 16))=true:=Ll
theorem WZ {a b:Int} (h:near a b):MS a b=true:=by
 have h1:=List.all_eq_true.mp SK (a+16).toNat (List.mem_range.mpr (by unfold near at h;omega))
 have h2:=List.all_eq_true.mp h1 (b+16).toNat (List.mem_range.mpr (by unfold near at h;omega))
 rw [show (((a+16).toNat:Nat):Int) - 16=a by unfold near at h;omega,show (((b+16).toNat:Nat):Int) - 16=b by unfold near at h;omega] at h2
 exact h2
theorem Et {a b:Int} (h:near a b) (h0:¬(a=0∧b=0)):bezS a b*a+bezT a b*b=Int.gcd a b∧(bezS a b).natAbs+(bezT a b).natAbs≤17∧Cb a b≤15∧(b=0∨Eb a b (Cb a b:Int)=true∨Eb a b (-(Cb a b:Int))=true):=by
 have h1:=WZ h
 unfold MS at h1
 simp only [qH,aU,beq_iff_eq,aS] at h1
 rcases h1 with h1 | ⟨⟨⟨e1,e2⟩,e3⟩,e4⟩
 · exact absurd h1 h0
 exact ⟨e1,e2,e3,e4.elim (fun h=>h.elim .inl (fun h=>.inr (.inl h))) (fun h=>.inr (.inr h))⟩
theorem Rf (G:Imm) (b:Nat) (n:Int) (ac:Option Addr) (cc:Nat) (code:List Sl.Instr) (j:List Value) (wa:Option Addr) (wn wc:Nat) (op to x y c:Int) (ho:OwnA ac cc code j) (hl:code.length≤1048576) :
 Does Tryz.prog 228 [.pointer (some ⟨b,0,none⟩),.int .i64 op,.int .i64 to,.int .i64 x,.int .i64 y,.int .i64 c] G [(0,some b,.cells #[.int .i64 n,.slice ac code.length cc,.slice wa wn wc] 267),(1,ac.map (·.block),Row 91 code j)]
  (fun v G' Ho=>v=.tuple #[]∧G'=G∧∃ (a':Option Addr) (c':Nat) (j':List Value),OwnA a' c' (code++[⟨op,to,x,y,c⟩]) j'∧Ho=[(0,some b,.cells #[.int .i64 n,.slice a' (code++[(⟨op,to,x,y,c⟩:Sl.Instr)]).length c',.slice wa wn wc] 267),(1,a'.map (·.block),Row 91 (code++[⟨op,to,x,y,c⟩]) j')]):=by
 refine D0 Tryz.func228 Tryz.ntmps228 fun w=>?_
 refine aJ 11 [0] ?_
 refine aO (bO (cs:=[_,_,_,_,_]) T.st91 rfl rfl rfl) ?_
 refine dY (α:=Sl.Instr) 2 [⟨op,to,x,y,c⟩] rfl T.sl23 T.el91 rfl rfl rfl rfl rfl fun b1=>?_
 refine jS (α:=Sl.Instr) 1 T.sl23 T.el91 (fE 2 rfl) fun a1 c1 junk1 ho1=>?_
 refine aR 4 [0] ?_
 refine jZ (.inl rfl) (Ho:=[(0,some b,.cells #[.int .i64 n,.slice a1 (code++[(⟨op,to,x,y,c⟩:Sl.Instr)]).length c1,.slice wa wn wc] 267),(1,a1.map (·.block),Row 91 (code++[⟨op,to,x,y,c⟩]) junk1)]) rfl ⟨rfl,rfl,trivial⟩ ?_
 exact ⟨rfl,rfl,a1,c1,junk1,ho1,rfl⟩
def xB (to c:Int):List Sl.Instr:=if c=1 then [] else if c=-1 then [⟨2,to,to,0,0⟩] else [⟨6,to,to,0,c⟩]
theorem XA (G:Imm) (b:Nat) (n:Int) (ac:Option Addr) (cc:Nat) (code:List Sl.Instr) (j:List Value) (wa:Option Addr) (wn wc:Nat) (to c:Int) (ho:OwnA ac cc code j) (hl:code.length≤1048576) :
 Does Tryz.prog 193 [.pointer (some ⟨b,0,none⟩),.int .i64 to,.int .i64 c] G [(0,some b,.cells #[.int .i64 n,.slice ac code.length cc,.slice wa wn wc] 267),(1,ac.map (·.block),Row 91 code j)]
  (fun v G' Ho=>v=.tuple #[]∧G'=G∧∃ (a':Option Addr) (c':Nat) (j':List Value),OwnA a' c' (code++xB to c) j'∧Ho=[(0,some b,.cells #[.int .i64 n,.slice a' (code++xB to c).length c',.slice wa wn wc] 267),(1,a'.map (·.block),Row 91 (code++xB to c) j')]):=by
 refine D0 Tryz.func193 Tryz.ntmps193 fun w=>?_
 refine bJ 12 [] ?_
 refine cT (fun hc1=>?_) fun hc1=>?_
 refine bE 2 [] ?_
 rotate_left
 refine bJ 6 [] ?_
 refine cT (fun hc2=>?_) fun hc2=>?_
 refine aJ 4 [] ?_
 refine eK 0 rfl T.fn228 rfl (Rf _ b n ac cc code j wa wn wc _ _ _ _ _ ho hl) (sJ ⟨rfl,rfl,trivial⟩) fun v1 G1 Ho1 hle1 hp=>?_
 obtain ⟨rfl,rfl,a1,d1,j1,ho1,rfl⟩:=hp
 refine aR 2 [] ?_
 rotate_left
 refine aJ 5 [] ?_
 refine eK 0 rfl T.fn228 rfl (Rf _ b n ac cc code j wa wn wc _ _ _ _ _ ho hl) (sJ ⟨rfl,rfl,trivial⟩) fun v1 G1 Ho1 hle1 hp=>?_
 obtain ⟨rfl,rfl,a1,d1,j1,ho1,rfl⟩:=hp
 refine aR 2 [] ?_
 rotate_left
 · have e:xB to c=[]:=by unfold xB;rw [aF hc1]
   rw [e,bR]
   refine jZ yZ (Ho:=[(0,some b,.cells #[.int .i64 n,.slice ac code.length cc,.slice wa wn wc] 267),(1,ac.map (·.block),Row 91 code j)]) rfl ⟨rfl,rfl,trivial⟩ ?_
   exact ⟨rfl,rfl,ac,cc,j,ho,rfl⟩
 · have e:xB to c=[⟨2,to,to,0,0⟩]:=by unfold xB;rw [aD hc1,aF hc2]
   rw [e]
   refine jZ yZ (Ho:=[(0,some b,.cells #[.int .i64 n,.slice a1 (code++[(⟨2,to,to,0,0⟩:Sl.Instr)]).length d1,.slice wa wn wc] 267),(1,a1.map (·.block),Row 91 (code++[⟨2,to,to,0,0⟩]) j1)]) rfl ⟨rfl,rfl,trivial⟩ ?_
   exact ⟨rfl,rfl,a1,d1,j1,ho1,rfl⟩
 have e:xB to c=[⟨6,to,to,0,c⟩]:=by unfold xB;rw [aD hc1,aD hc2]
 rw [e]
 refine jZ yZ (Ho:=[(0,some b,.cells #[.int .i64 n,.slice a1 (code++[(⟨6,to,to,0,c⟩:Sl.Instr)]).length d1,.slice wa wn wc] 267),(1,a1.map (·.block),Row 91 (code++[⟨6,to,to,0,c⟩]) j1)]) rfl ⟨rfl,rfl,trivial⟩ ?_
 exact ⟨rfl,rfl,a1,d1,j1,ho1,rfl⟩
def sM (to x c:Int):List Sl.Instr:=if c=0 then [⟨4,to,x,x,0⟩] else if c=1∧to=x then [] else if c=1 then [⟨1,to,x,0,0⟩] else if c=-1 then [⟨2,to,x,0,0⟩] else [⟨5,to,x,0,c⟩]
theorem Fh (G:Imm) (b:Nat) (n:Int) (ac:Option Addr) (cc:Nat) (code:List Sl.Instr) (j:List Value) (wa:Option Addr) (wn wc:Nat) (to x c:Int) (ho:OwnA ac cc code j) (hl:code.length≤1048576) :
 Does Tryz.prog 195 [.pointer (some ⟨b,0,none⟩),.int .i64 to,.int .i64 x,.int .i64 c] G [(0,some b,.cells #[.int .i64 n,.slice ac code.length cc,.slice wa wn wc] 267),(1,ac.map (·.block),Row 91 code j)]
  (fun v G' Ho=>v=.tuple #[]∧G'=G∧∃ (a':Option Addr) (c':Nat) (j':List Value),OwnA a' c' (code++sM to x c) j'∧Ho=[(0,some b,.cells #[.int .i64 n,.slice a' (code++sM to x c).length c',.slice wa wn wc] 267),(1,a'.map (·.block),Row 91 (code++sM to x c) j')]):=by
 refine D0 Tryz.func195 Tryz.ntmps195 fun w=>?_
 refine bJ 8 [] ?_
 refine cT (fun hc1=>?_) fun hc1=>?_
 refine aJ 5 [] ?_
 refine eK 0 rfl T.fn228 rfl (Rf _ b n ac cc code j wa wn wc _ _ _ _ _ ho hl) (sJ ⟨rfl,rfl,trivial⟩) fun v1 G1 Ho1 hle1 hp=>?_
 obtain ⟨rfl,rfl,a1,d1,j1,ho1,rfl⟩:=hp
 refine aR 2 [] ?_
 rotate_left
 refine aJ 5 [] ?_
 apply bW 4 24 28 rfl
 intro hg1
 refine aB 7 [] ?_
 exact dA 4 0
 intro hg1
 refine aB 4 [] ?_
 exact dA 4 0
 refine aZ 3 [] ?_
 refine cT (fun hc2=>?_) fun hc2=>?_
 refine bE 2 [] ?_
 rotate_left
 refine bJ 7 [] ?_
 refine cT (fun hc3=>?_) fun hc3=>?_
 refine aJ 4 [] ?_
 refine eK 0 rfl T.fn228 rfl (Rf _ b n ac cc code j wa wn wc _ _ _ _ _ ho hl) (sJ ⟨rfl,rfl,trivial⟩) fun v1 G1 Ho1 hle1 hp=>?_
 obtain ⟨rfl,rfl,a1,d1,j1,ho1,rfl⟩:=hp
 refine aR 2 [] ?_
 rotate_left
 refine bJ 7 [] ?_
 refine cT (fun hc4=>?_) fun hc4=>?_
 refine aJ 4 [] ?_
 refine eK 0 rfl T.fn228 rfl (Rf _ b n ac cc code j wa wn wc _ _ _ _ _ ho hl) (sJ ⟨rfl,rfl,trivial⟩) fun v1 G1 Ho1 hle1 hp=>?_
 obtain ⟨rfl,rfl,a1,d1,j1,ho1,rfl⟩:=hp
 refine aR 2 [] ?_
 rotate_left
 refine aJ 5 [] ?_
 refine eK 0 rfl T.fn228 rfl (Rf _ b n ac cc code j wa wn wc _ _ _ _ _ ho hl) (sJ ⟨rfl,rfl,trivial⟩) fun v1 G1 Ho1 hle1 hp=>?_
 obtain ⟨rfl,rfl,a1,d1,j1,ho1,rfl⟩:=hp
 refine aR 2 [] ?_
 rotate_left
 · have e:sM to x c=[⟨4,to,x,x,0⟩]:=by unfold sM;rw [aF hc1]
   rw [e]
   refine jZ yZ (Ho:=[(0,some b,.cells #[.int .i64 n,.slice a1 (code++[(⟨4,to,x,x,0⟩:Sl.Instr)]).length d1,.slice wa wn wc] 267),(1,a1.map (·.block),Row 91 (code++[⟨4,to,x,x,0⟩]) j1)]) rfl ⟨rfl,rfl,trivial⟩ ?_
   exact ⟨rfl,rfl,a1,d1,j1,ho1,rfl⟩
 · have e:sM to x c=[]:=by unfold sM;rw [aD hc1,aF hc2]
   rw [e,bR]
   refine jZ yZ (Ho:=[(0,some b,.cells #[.int .i64 n,.slice ac code.length cc,.slice wa wn wc] 267),(1,ac.map (·.block),Row 91 code j)]) rfl ⟨rfl,rfl,trivial⟩ ?_
   exact ⟨rfl,rfl,ac,cc,j,ho,rfl⟩
 · have e:sM to x c=[⟨1,to,x,0,0⟩]:=by unfold sM;rw [aD hc1,aD hc2,aF hc3]
   rw [e]
   refine jZ yZ (Ho:=[(0,some b,.cells #[.int .i64 n,.slice a1 (code++[(⟨1,to,x,0,0⟩:Sl.Instr)]).length d1,.slice wa wn wc] 267),(1,a1.map (·.block),Row 91 (code++[⟨1,to,x,0,0⟩]) j1)]) rfl ⟨rfl,rfl,trivial⟩ ?_
   exact ⟨rfl,rfl,a1,d1,j1,ho1,rfl⟩
 · have e:sM to x c=[⟨2,to,x,0,0⟩]:=by unfold sM;rw [aD hc1,aD hc2,aD hc3,aF hc4]
   rw [e]
   refine jZ yZ (Ho:=[(0,some b,.cells #[.int .i64 n,.slice a1 (code++[(⟨2,to,x,0,0⟩:Sl.Instr)]).length d1,.slice wa wn wc] 267),(1,a1.map (·.block),Row 91 (code++[⟨2,to,x,0,0⟩]) j1)]) rfl ⟨rfl,rfl,trivial⟩ ?_
   exact ⟨rfl,rfl,a1,d1,j1,ho1,rfl⟩
 have e:sM to x c=[⟨5,to,x,0,c⟩]:=by unfold sM;rw [aD hc1,aD hc2,aD hc3,aD hc4]
 rw [e]
 refine jZ yZ (Ho:=[(0,some b,.cells #[.int .i64 n,.slice a1 (code++[(⟨5,to,x,0,c⟩:Sl.Instr)]).length d1,.slice wa wn wc] 267),(1,a1.map (·.block),Row 91 (code++[⟨5,to,x,0,c⟩]) j1)]) rfl ⟨rfl,rfl,trivial⟩ ?_
 exact ⟨rfl,rfl,a1,d1,j1,ho1,rfl⟩
def MT (i:Sl.Instr) (σ:Int→Int):Option Int:=
 if i.op=2 then some (-σ i.a)
 else if i.op=3 then some (σ i.a+σ i.b)
 else if i.op=4 then some (σ i.a - σ i.b)
 else if i.op=5∨i.op=7 then some (σ i.a*cst i)
 else if i.op=6∨i.op=8 then (if σ i.a % cst i=0 then some (σ i.a / cst i) else none)
 else some (σ i.a)
def upd (σ:Int→Int) (r v:Int):Int→Int:=fun x=>if x=r then v else σ x
theorem uA (σ:Int→Int) (r v:Int):upd σ r v r=v:=aF rfl
theorem tN (σ:Int→Int) {r x:Int} (v:Int) (h:x≠r):upd σ r v x=σ x:=aD h
theorem Vd (σ:Int→Int) (r v w:Int):upd (upd σ r v) r w=upd σ r w:=by
 funext x;unfold upd;split <;> rfl
theorem Il (σ:Int→Int) (r:Int):upd σ r (σ r)=σ:=by
 funext x;unfold upd;split
 · rename_i h;rw [h]
 rfl
def vH:List Sl.Instr→(Int→Int)→Option (Int→Int)
 | [],σ=>some σ
 | i :: l,σ=>(MT i σ).bind fun x=>vH l (upd σ i.to x)
theorem Za (l m:List Sl.Instr) (σ:Int→Int):vH (l++m) σ=(vH l σ).bind (vH m):=by
 induction l generalizing σ with
 | nil=>rfl
 | cons i l ih =>
   show (MT i σ).bind (fun x=>vH (l++m) (upd σ i.to x))=((MT i σ).bind fun x=>vH l (upd σ i.to x)).bind (vH m)
   cases MT i σ with
   | none=>rfl
   | some x=>exact ih _
theorem tG {l m:List Sl.Instr} {σ σ1 σ2:Int→Int} (h1:vH l σ=some σ1) (h2:vH m σ1=some σ2):vH (l++m) σ=some σ2:=by
 rw [Za,h1];exact h2
theorem Cc {i:Sl.Instr} {σ:Int→Int} {x:Int} (h:MT i σ=some x):vH [i] σ=some (upd σ i.to x):=by
 show (MT i σ).bind (fun x=>some (upd σ i.to x))=_
 rw [h];rfl
theorem Mp (to a b:Int) (σ:Int→Int):vH [⟨3,to,a,b,0⟩] σ=some (upd σ to (σ a+σ b)):=Cc rfl
theorem Im (to a b:Int) (σ:Int→Int):vH [⟨4,to,a,b,0⟩] σ=some (upd σ to (σ a - σ b)):=Cc rfl
theorem uO (to x c:Int) (σ:Int→Int):vH (sM to x c) σ=some (upd σ to (c*σ x)):=by
 unfold sM
 by_cases h0:c=0
 · rw [aF h0,Im,h0,rM,dV]
 rw [aD h0]
 by_cases h1:c=1∧to=x
 · rw [aF h1,h1.1,h1.2,cY,Il];rfl
 rw [aD h1]
 by_cases h2:c=1
 · rw [aF h2,h2,cY];rfl
 rw [aD h2]
 by_cases h3:c=-1
 · rw [aF h3,h3,fX,cY];rfl
 rw [aD h3]
 refine (Cc (x:=σ x*c) ?_).trans (by rw [cD])
 unfold MT
 rw [aD (show ¬((5:Int)=2) by decide),aD (show ¬((5:Int)=3) by decide),aD (show ¬((5:Int)=4) by decide),aF (.inl rfl),Ob (.inl rfl)]
theorem Zb (to c:Int) (σ:Int→Int) (hc:c≠0) (hd:c ∣ σ to):vH (xB to c) σ=some (upd σ to (σ to / c)):=by
 unfold xB
 by_cases h1:c=1
 · rw [aF h1,h1,Int.ediv_one,Il];rfl
 rw [aD h1]
 by_cases h2:c=-1
 · rw [aF h2,h2,Int.ediv_neg,Int.ediv_one];rfl
 rw [aD h2]
 refine Cc ?_
 unfold MT
 rw [aD (show ¬((6:Int)=2) by decide),aD (show ¬((6:Int)=3) by decide),aD (show ¬((6:Int)=4) by decide),aD (show ¬((6:Int)=5∨(6:Int)=7) by decide),aF (.inl rfl),Ob (.inr rfl)]
 exact aF (Int.emod_eq_zero_of_dvd hd)
theorem Sj (to g:Int) (hg:g≠0):∀ (m:Nat) (σ:Int→Int) (v:Int),σ to=g ^ m*v→vH ((List.replicate m (xB to g)).flatten) σ=some (upd σ to v)
 | 0,σ,v,h=>by
   rw [iN,cY] at h
   rw [←h,Il];rfl
 | m+1,σ,v,h=>by
   have e:σ to=g*(g ^ m*v):=by rw [h,fJ];ac_rfl
   rw [oE,rK]
   refine (tG (Zb to g σ hg ⟨_,e⟩) (Sj to g hg m _ v ?_)).trans ?_
   · rw [uA,e,mJ _ hg]
   rw [Vd]
def Ol (to c:Int):Int→Int→Nat→List Sl.Instr
 | fr,k,0=>sM to fr k
 | fr,k,e+1=>if 512<k*c∨k*c < -512 then sM to fr k++Ol to c to c e else Ol to c fr (k*c) e
def zV (to a c:Int) (e:Nat):List Sl.Instr:=
 if (c=0∧0<e)∨c=1∨c=-1 then sM to a (if c=-1∧e % 2=0 then 1 else c) else Ol to c a 1 e
theorem Om (to c:Int):∀ (e:Nat) (fr k:Int) (σ:Int→Int),vH (Ol to c fr k e) σ=some (upd σ to (σ fr*(k*c ^ e)))
 | 0,fr,k,σ=>by
   unfold Ol
   rw [uO,iN,gH,cD]
 | e+1,fr,k,σ=>by
   unfold Ol
   split
   · refine (tG (uO to fr k σ) (Om to c e to c _)).trans ?_
     rw [Vd,uA]
     congr 2
     rw [fJ];ac_rfl
   rw [Om to c e fr (k*c) σ]
   congr 2
   rw [fJ];ac_rfl
theorem Ec (e:Nat):(-1:Int) ^ e=if e % 2=0 then 1 else -1:=by
 induction e with
 | zero=>rfl
 | succ e ih =>
   rw [fJ,ih]
   by_cases h:e % 2=0
   · rw [aF h,aD (by omega)];rfl
   rw [aD h,aF (by omega)];rfl
theorem MU (to a c:Int) (e:Nat) (σ:Int→Int):vH (zV to a c e) σ=some (upd σ to (σ a*c ^ e)):=by
 unfold zV
 by_cases h:(c=0∧0<e)∨c=1∨c=-1
 · rw [aF h,uO]
   congr 2
   rw [cD]
   congr 1
   rcases h with ⟨rfl,h⟩ | rfl | rfl
   · rw [aD (fun h=>absurd h.1 sN),rL sE]
   · rw [aD (fun h=>absurd h.1 sN),Int.one_pow]
   rw [Ec]
   by_cases he:e % 2=0
   · rw [aF ⟨rfl,he⟩,aF he]
   rw [aD (fun h=>he h.2),aD he]
 rw [aD h,Om,cY]
def uF (wh:List R2) (k:Int):R2:=wh[k.toNat]?.getD default
def Az (wh:List R2) (k i:Int):Int:=bezS (uF wh k).a (uF wh k).b*(uF wh i).a+bezT (uF wh k).a (uF wh k).b*(uF wh i).b
def zW (wh:List R2) (k i:Int):Int:=(uF wh k).a*(uF wh i).b - (uF wh i).a*(uF wh k).b
def Bi (n:Int) (wh:List R2) (k:Int) (e:Nat) (i:Int):List Sl.Instr:=
 (if Az wh k i≠0∨e=0 then zV (3*n) k (Az wh k i) e++[⟨4,i,i,3*n,0⟩] else [])++(if zW wh k i=1 then [] else xB i (zW wh k i))
def yG (n:Int) (wh:List R2) (k:Int) (e:Nat):List Int→List Sl.Instr
 | []=>[]
 | i :: left=>Bi n wh k e i++yG n wh k e left
theorem Zc {n:Int} {wh:List R2} {k:Int} {e:Nat} {i:Int} {σ:Int→Int} {y:Int} (hk:k≠3*n) (hi:i≠3*n) (hd:zW wh k i≠0) (hy:σ i - σ k*Az wh k i ^ e=zW wh k i*y) :
 ∃ σ',vH (Bi n wh k e i) σ=some σ'∧σ' i=y∧∀ r,r≠i→r≠3*n→σ' r=σ r:=by
 obtain ⟨σ1,h1,h2,h3⟩:∃ σ1,vH (if Az wh k i≠0∨e=0 then zV (3*n) k (Az wh k i) e++[⟨4,i,i,3*n,0⟩] else []) σ=some σ1∧σ1 i=zW wh k i*y∧∀ r,r≠i→r≠3*n→σ1 r=σ r:=by
  by_cases h:Az wh k i≠0∨e=0
  · rw [aF h]
    refine ⟨_,tG (MU _ _ _ _ _) (Im _ _ _ _),?_,fun r h1 h2=>?_⟩
    · rw [uA,uA,tN _ _ hi,hy]
    rw [tN _ _ h1,tN _ _ h2]
  rw [aD h]
  refine ⟨σ,rfl,?_,fun _ _ _=>rfl⟩
  have hl:Az wh k i=0:=eE fun x=>h (.inl x)
  have he:e≠0:=fun x=>h (.inr x)
  rw [←hy,hl,rL he,bL,kV]
 unfold Bi
 by_cases h:zW wh k i=1
 · rw [aF h,bR]
   exact ⟨σ1,h1,by rw [h2,h,cY],h3⟩
 rw [aD h]
 refine ⟨_,tG h1 (Zb i (zW wh k i) σ1 hd ⟨y,h2⟩),?_,fun r g1 g2=>?_⟩
 · rw [uA,h2,mJ _ hd]
 rw [tN _ _ g1];exact h3 r g1 g2
theorem Sk {n:Int} {wh:List R2} {k:Int} {e:Nat} (hk:k≠3*n) (y:Int→Int):∀ (left:List Int) (σ:Int→Int),left.Nodup→k ∉ left→(∀ i∈left,i≠3*n∧zW wh k i≠0∧σ i - σ k*Az wh k i ^ e=zW wh k i*y i)→
 ∃ σ',vH (yG n wh k e left) σ=some σ'∧(∀ i∈left,σ' i=y i)∧∀ r,r ∉ left→r≠3*n→σ' r=σ r
 | [],σ,_,_,_=>⟨σ,rfl,fun i h=>(by cases h),fun _ _ _=>rfl⟩
 | i :: left,σ,hn,hkl,h=>by
   obtain ⟨hn1,hn2⟩:=qG.1 hn
   obtain ⟨g1,g2,g3⟩:=h i bF
   obtain ⟨σ1,a1,a2,a3⟩:=Zc hk g1 g2 g3
   have hki:k≠i:=fun e=>hkl (by rw [e];exact bF)
   obtain ⟨σ2,b1,b2,b3⟩:=Sk hk y left σ1 hn2 (fun x=>hkl (aY _ x)) (fun j hj=>by
    obtain ⟨k1,k2,k3⟩:=h j (aY _ hj)
    have hji:j≠i:=fun e=>hn1 (e▸hj)
    refine ⟨k1,k2,?_⟩
    rw [a3 j hji k1,a3 k hki hk];exact k3)
   refine ⟨σ2,tG a1 b1,fun j hj=>?_,fun r hr hr2=>?_⟩
   · rcases iG.1 hj with rfl | hj
     · rw [b3 j hn1 g1,a2]
     exact b2 j hj
   rw [b3 r (fun x=>hr (aY _ x)) hr2,a3 r (fun x=>hr (by rw [x];exact bF)) hr2]
def As (n u v:Int) (th:List Bool) (j:Nat):List Bool×List Sl.Instr:=
 let low:=decide (0<j) && th[j - 1]?.getD false && decide (u≠0)
 let own:=th[j]?.getD false && decide (v≠0)
 (th.set j (own || low),
  (if low then sM (3*n) (2*n+(j - 1)) u else []) ++
  (if own && low then sM (2*n+j) (2*n+j) v++[⟨3,2*n+j,2*n+j,3*n,0⟩] else if own then sM (2*n+j) (2*n+j) v else if low then sM (2*n+j) (3*n) 1 else []))
def Sm (n u v:Int):Nat→List Bool→List Bool×List Sl.Instr
 | 0,th=>(th,[])
 | m+1,th=>((Sm n u v m (As n u v th m).1).1,(As n u v th m).2++(Sm n u v m (As n u v th m).1).2)
def Gj (n u v:Int):Nat→Nat→List Bool→List Bool×List Sl.Instr
 | 0,_,th=>(th,[])
 | m+1,d,th=>((Gj n u v m (d+1) (Sm n u v (d+1) th).1).1,(Sm n u v (d+1) th).2++(Gj n u v m (d+1) (Sm n u v (d+1) th).1).2)
def xM (n u v:Int) (e:Nat):List Bool:=(Gj n u v e 1 ((List.replicate (e+1) false).set 0 true)).1
def yX (n u v k:Int) (e:Nat):List Sl.Instr:=sM (2*n) k 1++(Gj n u v e 1 ((List.replicate (e+1) false).set 0 true)).2
def JI (n:Int) (th:List Bool) (σ:Int→Int) (j:Nat) (x:Int):Prop:=(th[j]?.getD false=true→σ (2*n+j)=x)∧(th[j]?.getD false=false→x=0)
theorem Ki (n u v:Int) (th:List Bool) (j:Nat):(As n u v th j).1.length=th.length:=aG
theorem Lw (n u v:Int) (th:List Bool) {j i:Nat} (h:i≠j):(As n u v th j).1[i]?=th[i]?:=by
 show (th.set j _)[i]?=_
 rw [cC,aD (fun e=>h e.symm)]
theorem HU {n u v:Int} {th:List Bool} {j:Nat} {σ:Int→Int} {x y:Int} (hj:j<th.length) (hn:(j:Int)<n) (hx:JI n th σ j x) (hy:0<j→JI n th σ (j - 1) y) (hy0:j=0→y=0) :
 ∃ σ',vH (As n u v th j).2 σ=some σ'∧JI n (As n u v th j).1 σ' j (v*x+u*y)∧∀ r,r≠2*n+j→r≠3*n→σ' r=σ r:=by
 have hne:(2*n+j:Int)≠3*n:=sE
 have hset:∀ b:Bool,(th.set j b)[j]?.getD false=b:=fun b=>by rw [cC,aF rfl,aF hj];rfl
 have hown:(th[j]?.getD false && decide (v≠0))=false→v*x=0:=fun h=>by
  rcases qJ.1 h with h | h
  · rw [hx.2 h,bL]
  rw [eE fun h2=>mL h h2,dV]
 have hown1:(th[j]?.getD false && decide (v≠0))=true→σ (2*n+j)=x:=fun h=>hx.1 (qX.1 h).1
 have hlow:(decide (0<j) && th[j - 1]?.getD false && decide (u≠0))=false→u*y=0:=fun h=>by
  by_cases hj0:j=0
  · rw [hy0 hj0,bL]
  rcases qJ.1 h with h | h
  · rcases qJ.1 h with h | h
    · exact absurd sE (mL h)
    rw [(hy sE).2 h,bL]
  rw [eE fun h2=>mL h h2,dV]
 have hlow1:(decide (0<j) && th[j - 1]?.getD false && decide (u≠0))=true→σ (2*n+((j:Int) - 1))=y:=fun h=>by
  have h2:=(qX.1 h).1
  have h3:=qX.1 h2
  have hj1:0<j:=gP h3.1
  have:=(hy hj1).1 h3.2
  rw [show ((j:Int) - 1)=((j - 1:Nat):Int) by omega];exact this
 unfold As
 simp only
 generalize (decide (0<j) && th[j - 1]?.getD false && decide (u≠0))=low at *
 generalize (th[j]?.getD false && decide (v≠0))=own at *
 cases low <;> cases own
 · refine ⟨σ,rfl,⟨fun h=>?_,fun _=>?_⟩,fun _ _ _=>rfl⟩
   · rw [hset] at h;cases h
   rw [hown rfl,hlow rfl];rfl
 · refine ⟨_,uO _ _ _ _,⟨fun _=>?_,fun h=>?_⟩,fun r h1 h2=>tN _ _ h1⟩
   · rw [uA,hown1 rfl,hlow rfl,eV]
   rw [hset] at h;cases h
 · refine ⟨_,tG (m:=sM (2*n+j) (3*n) 1) (uO _ _ _ _) (uO _ _ _ _),⟨fun _=>?_,fun h=>?_⟩,fun r h1 h2=>?_⟩
   · rw [uA,uA,hlow1 rfl,hown rfl,jV,cY]
   · rw [hset] at h;cases h
   rw [tN _ _ h1,tN _ _ h2]
 have h9:=tG (uO (3*n) (2*n+(j - 1)) u σ) (tG (uO (2*n+j) (2*n+j) v _) (Mp (2*n+j) (2*n+j) (3*n) _))
 refine ⟨_,h9,⟨fun _=>?_,fun h=>?_⟩,fun r h1 h2=>?_⟩
 · rw [uA,uA,tN _ _ hne,tN _ _ (lE hne),uA,hown1 rfl,hlow1 rfl]
 · rw [hset] at h;cases h
 rw [tN _ _ h1,tN _ _ h1,tN _ _ h2]
def MV (u v:Int) (C:Nat→Int) (j:Nat):Int:=v*C j+u*(if j=0 then 0 else C (j - 1))
theorem Sn {n:Int} {th th':List Bool} {σ σ':Int→Int} {j:Nat} {x:Int} (h:JI n th σ j x) (ht:th'[j]?=th[j]?) (hs:σ' (2*n+j)=σ (2*n+j)):JI n th' σ' j x:=by
 unfold JI at *
 rw [ht,hs];exact h
theorem EO {n u v:Int} {C:Nat→Int}:∀ (m:Nat) (th:List Bool) (σ:Int→Int),m≤th.length→(m:Int)≤n→(∀ j,j<m→JI n th σ j (C j))→
 ∃ σ',vH (Sm n u v m th).2 σ=some σ'∧(Sm n u v m th).1.length=th.length∧(∀ j,j<m→JI n (Sm n u v m th).1 σ' j (MV u v C j))∧(∀ j,m≤j→(Sm n u v m th).1[j]?=th[j]?)∧(∀ r,(∀ j:Nat,j<m→r≠2*n+j)→r≠3*n→σ' r=σ r)
 | 0,th,σ,_,_,_=>⟨σ,rfl,rfl,fun j h=>sE,fun _ _=>rfl,fun _ _ _=>rfl⟩
 | m+1,th,σ,hl,hn,h=>by
   obtain ⟨σ1,a1,a2,a3⟩:=HU (u:=u) (v:=v) (y:=if m=0 then 0 else C (m - 1)) (show m<th.length by omega) sE (h m sE) (fun hm=>by rw [aD (by omega)];exact h (m - 1) sE) (fun hm=>aF hm)
   obtain ⟨σ2,b1,b2,b3,b4,b5⟩:=EO (u:=u) (v:=v) (C:=C) m (As n u v th m).1 σ1 (by rw [Ki];omega) sE (fun j hj=>Sn (h j sE) (Lw n u v th sE) (a3 _ sE sE))
   refine ⟨σ2,tG a1 b1,by rw [←Ki n u v th m];exact b2,fun j hj=>?_,fun j hj=>?_,fun r hr hr2=>?_⟩
   · rcases aK j m with hjm | hjm
     · exact b3 j hjm
     have e:j=m:=sE
     subst e
     exact Sn a2 (b4 j (aH _)) (b5 _ (fun i hi=>by omega) sE)
   · exact (b4 j sE).trans (Lw n u v th sE)
   rw [b5 r (fun j hj=>hr j sE) hr2,a3 r (hr m sE) hr2]
def cj (u v:Int):Nat→(Nat→Int)→Nat→Int
 | 0,C=>C
 | m+1,C=>cj u v m (MV u v C)
theorem Zd {n u v:Int}:∀ (m d:Nat) (th:List Bool) (σ:Int→Int) (C:Nat→Int),d+m≤th.length→(th.length:Int)≤n→(∀ j,d≤j→C j=0)→(∀ j,j<th.length→JI n th σ j (C j))→(∀ j,d≤j→th[j]?.getD false=false)→
 ∃ σ',vH (Gj n u v m d th).2 σ=some σ'∧(Gj n u v m d th).1.length=th.length∧(∀ j,j<th.length→JI n (Gj n u v m d th).1 σ' j (cj u v m C j))∧(∀ r,(∀ j:Nat,j<th.length→r≠2*n+j)→r≠3*n→σ' r=σ r)
 | 0,d,th,σ,C,_,_,_,h,_=>⟨σ,rfl,rfl,h,fun _ _ _=>rfl⟩
 | m+1,d,th,σ,C,hl,hn,hC,h,hf=>by
   obtain ⟨σ1,a1,a2,a3,a4,a5⟩:=EO (u:=u) (v:=v) (C:=C) (d+1) th σ sE sE (fun j hj=>h j sE)
   have hC':∀ j,d+1≤j→MV u v C j=0:=fun j hj=>by
    unfold MV
    rw [aD (by omega),hC j sE,hC (j - 1) sE,bL,bL];rfl
   have hf':∀ j,d+1≤j→(Sm n u v (d+1) th).1[j]?.getD false=false:=fun j hj=>by rw [a4 j hj];exact hf j sE
   obtain ⟨σ2,b1,b2,b3,b4⟩:=Zd (u:=u) (v:=v) m (d+1) (Sm n u v (d+1) th).1 σ1 (MV u v C) (by rw [a2];omega) (by rw [a2];exact hn) hC' (fun j hj=>by
    rcases aK j (d+1) with hjd | hjd
    · exact a3 j hjd
    exact ⟨fun x=>(by rw [hf' j hjd] at x;cases x),fun _=>hC' j hjd⟩) hf'
   refine ⟨σ2,tG a1 b1,by rw [←a2];exact b2,fun j hj=>b3 j (by rw [a2];exact hj),fun r hr hr2=>?_⟩
   rw [b4 r (fun j hj=>hr j (by rw [←a2];exact hj)) hr2,a5 r (fun j hj=>hr j sE) hr2]
def co (f:List Int) (j:Nat):Int:=f[j]?.getD 0
theorem On (p q:Int):∀ (f:List Int) (last:Int) (j:Nat),co (zD p q last f) j=p*co f j - q*(if j=0 then last else co f (j - 1))
 | [],last,0=>by show -(q*last)=p*0 - q*last;rw [bL];omega
 | [],last,j+1=>by show (0:Int)=p*0 - q*0;rw [bL,bL];rfl
 | c :: f,last,0=>rfl
 | c :: f,last,j+1=>by
   show co (zD p q c f) j=p*co f j - q*co (c :: f) j
   rw [On p q f c j]
   cases j <;> rfl
theorem HV (u v:Int) (e:Nat):co (vX u v (e+1))=MV u v (co (vX u v e)):=by
 funext j
 show co (zD v (-u) 0 (vX u v e)) j=_
 rw [On]
 unfold MV
 rw [fX,Int.sub_neg]
theorem MW (u v y:Int) (C:Nat→Int):MV u v (fun j=>y*C j)=fun j=>y*MV u v C j:=by
 funext j
 unfold MV
 rw [cF]
 split
 · rw [bL,bL];congr 1;ac_rfl
 congr 1 <;> ac_rfl
theorem EP (u v y:Int):∀ (m e:Nat),cj u v m (fun j=>y*co (vX u v e) j)=fun j=>y*co (vX u v (e+m)) j
 | 0,e=>rfl
 | m+1,e=>by
   show cj u v m (MV u v fun j=>y*co (vX u v e) j)=_
   rw [MW,←HV,EP u v y m (e+1),show e+1+m=e+(m+1) by omega]
theorem Oo (n u v:Int):∀ (m:Nat) (th:List Bool),(Sm n u v m th).1.length=th.length
 | 0,_=>rfl
 | m+1,th=>by show (Sm n u v m _).1.length=_;rw [Oo,Ki]
theorem Ze (n u v:Int):∀ (m d:Nat) (th:List Bool),(Gj n u v m d th).1.length=th.length
 | 0,_,_=>rfl
 | m+1,d,th=>by show (Gj n u v m _ _).1.length=_;rw [Ze,Oo]
theorem zE (n u v:Int) (e:Nat):(xM n u v e).length=e+1:=by unfold xM;rw [Ze,aG,aI]
theorem CU {n u v k:Int} {e:Nat} {σ:Int→Int} (he:(e:Int)<n) :
 ∃ σ',vH (yX n u v k e) σ=some σ'∧(∀ j,j≤e→JI n (xM n u v e) σ' j (σ k*co (vX u v e) j))∧∀ r,r<2*n→σ' r=σ r:=by
 have hl:((List.replicate (e+1) false).set 0 true).length=e+1:=by rw [aG,aI]
 have hget:∀ j:Nat,((List.replicate (e+1) false).set 0 true)[j]?.getD false=decide (j=0):=fun j=>by
  rw [cC]
  split
  · rename_i h;subst h
    rw [aF (by rw [aI];omega)];rfl
  rename_i h
  rw [eL,bQ (fun e=>h e.symm)]
  split <;> rfl
 have e0:∀ j:Nat,σ k*co (vX u v 0) j=if j=0 then σ k else 0:=fun j=>by
  cases j with
  | zero=>show σ k*1=_;rw [gH];rfl
  | succ j=>show σ k*0=_;rw [bL];rfl
 obtain ⟨σ',h1,h2,h3,h4⟩:=Zd (n:=n) (u:=u) (v:=v) e 1 ((List.replicate (e+1) false).set 0 true) (upd σ (2*n) (1*σ k)) (fun j=>σ k*co (vX u v 0) j) (by rw [hl];omega) (by rw [hl];omega) (fun j hj=>by simp only [e0];exact aD (by omega))
  (fun j hj=>by
   unfold JI
   rw [hget,e0]
   by_cases hj0:j=0
   · subst hj0
     refine ⟨fun _=>?_,fun h=>(by cases h)⟩
     show upd σ (2*n) (1*σ k) (2*n+((0:Nat):Int))=σ k
     rw [show (2*n+((0:Nat):Int))=2*n by omega,uA,cY]
   rw [bQ hj0,aD hj0]
   exact ⟨fun h=>(by cases h),fun _=>rfl⟩) (fun j hj=>by rw [hget];exact bQ sE)
 refine ⟨σ',tG (uO _ _ _ _) h1,fun j hj=>?_,fun r hr=>?_⟩
 · have:=h3 j (by rw [hl];omega)
   rw [EP,dC] at this
   exact this
 rw [h4 r (fun j _=>by omega) sE,tN _ _ sE]
def Ve (n:Int) (p:R2):Nat→List Sl.Instr
 | 0=>[]
 | j+1=>(if 0<j then sM (3*n) (n+((j:Int) - 1)) p.b else [])++(sM (n+j) (n+j) p.a++((if 0<j then [⟨4,n+j,n+j,3*n,0⟩] else [])++Ve n p j))
def In (n:Int) (p:R2) (e:Nat):List Sl.Instr:=sM (n+e) (n+((e:Int) - 1)) (-p.b)++Ve n p e
def Bm (n:Int):List Bool→Nat→List Sl.Instr
 | [],_=>[]
 | t :: ts,j=>(if t then [⟨3,n+j,n+j,2*n+j,0⟩] else [])++Bm n ts (j+1)
def xC (n:Int) (wh:List R2) (k:Int) (e:Nat):List Sl.Instr:=
 In n (uF wh k) e++(yX n (bezS (uF wh k).a (uF wh k).b) (bezT (uF wh k).a (uF wh k).b) k e++Bm n (xM n (bezS (uF wh k).a (uF wh k).b) (bezT (uF wh k).a (uF wh k).b) e) 0)
theorem Zf {n:Int} {p:R2} {c:Nat→Int}:∀ (m:Nat) (σ:Int→Int),(m:Int)≤n→(∀ j:Nat,j<m→σ (n+j)=c j)→
 ∃ σ',vH (Ve n p m) σ=some σ'∧(∀ j:Nat,j<m→σ' (n+j)=p.a*c j - p.b*(if j=0 then 0 else c (j - 1)))∧∀ r,(∀ j:Nat,j<m→r≠n+j)→r≠3*n→σ' r=σ r
 | 0,σ,_,_=>⟨σ,rfl,fun j h=>sE,fun _ _ _=>rfl⟩
 | m+1,σ,hm,h=>by
   obtain ⟨σ1,a1,a2,a3⟩:∃ σ1,vH ((if 0<m then sM (3*n) (n+((m:Int) - 1)) p.b else [])++(sM (n+m) (n+m) p.a++(if 0<m then [⟨4,n+m,n+m,3*n,0⟩] else []))) σ=some σ1∧σ1 (n+m)=p.a*c m - p.b*(if m=0 then 0 else c (m - 1))∧∀ r,r≠n+m→r≠3*n→σ1 r=σ r:=by
    by_cases hm0:0<m
    · rw [aF hm0,aF hm0,aD (by omega)]
      refine ⟨_,tG (uO _ _ _ _) (tG (uO _ _ _ _) (Im _ _ _ _)),?_,fun r h1 h2=>?_⟩
      · have e1:σ (n+((m:Int) - 1))=c (m - 1):=by
         rw [show ((m:Int) - 1)=((m - 1:Nat):Int) by omega];exact h (m - 1) sE
        rw [uA,uA,tN _ _ sE,tN _ _ sE,uA,h m sE,e1]
      rw [tN _ _ h1,tN _ _ h1,tN _ _ h2]
    rw [aD hm0,aD hm0,aF (by omega),fW,bR]
    refine ⟨_,uO _ _ _ _,?_,fun r h1 h2=>tN _ _ h1⟩
    rw [uA,h m sE,bL,kV]
   obtain ⟨σ2,b1,b2,b3⟩:=Zf (n:=n) (p:=p) (c:=c) m σ1 sE (fun j hj=>by rw [a3 _ sE sE];exact h j sE)
   refine ⟨σ2,?_,fun j hj=>?_,fun r hr hr2=>?_⟩
   · have:=tG a1 b1
     rw [bA,bA] at this
     exact this
   · rcases aK j m with hjm | hjm
     · exact b2 j hjm
     have e:j=m:=sE
     subst e
     rw [b3 _ (fun i hi=>by omega) sE];exact a2
   rw [b3 r (fun j hj=>hr j sE) hr2,a3 r (hr m sE) hr2]
theorem Oq {n:Int} (σ0:Int→Int):∀ (th:List Bool) (j0:Nat) (σ:Int→Int),((j0+th.length:Nat):Int)≤n→(∀ r,(∀ j:Nat,j<j0→r≠n+j)→σ r=σ0 r)→
 ∃ σ',vH (Bm n th j0) σ=some σ'∧(∀ j:Nat,j<th.length→σ' (n+(j0+j:Nat))=σ0 (n+(j0+j:Nat))+(if th[j]?.getD false=true then σ0 (2*n+(j0+j:Nat)) else 0))∧∀ r,(∀ j:Nat,j<th.length→r≠n+(j0+j:Nat))→σ' r=σ r
 | [],j0,σ,_,_=>⟨σ,rfl,fun j h=>(by simp at h),fun _ _=>rfl⟩
 | t :: th,j0,σ,hn,h0=>by
   rw [aW] at hn
   obtain ⟨σ1,a1,a2,a3⟩:∃ σ1,vH (if t then [⟨3,n+j0,n+j0,2*n+j0,0⟩] else []) σ=some σ1∧σ1 (n+j0)=σ0 (n+j0)+(if t=true then σ0 (2*n+j0) else 0)∧∀ r,r≠n+j0→σ1 r=σ r:=by
    have e1:σ (n+j0)=σ0 (n+j0):=h0 _ (fun j hj=>by omega)
    have e2:σ (2*n+j0)=σ0 (2*n+j0):=h0 _ (fun j hj=>by omega)
    cases t
    · exact ⟨σ,rfl,by rw [e1];exact (eV _).symm,fun _ _=>rfl⟩
    refine ⟨_,Mp _ _ _ _,?_,fun r hr=>tN _ _ hr⟩
    rw [uA,e1,e2];rfl
   obtain ⟨σ2,b1,b2,b3⟩:=Oq (n:=n) σ0 th (j0+1) σ1 sE (fun r hr=>by
    rw [a3 r (hr j0 sE)];exact h0 r (fun j hj=>hr j sE))
   refine ⟨σ2,tG a1 b1,fun j hj=>?_,fun r hr=>?_⟩
   · rw [aW] at hj
     cases j with
     | zero =>
       rw [b3 _ (fun j hj=>by omega)]
       exact a2
     | succ j =>
       have:=b2 j sE
       rw [show j0+1+j=j0+(j+1) by omega] at this
       exact this
   rw [b3 r (fun j hj=>by have:=hr (j+1) Wy;rw [show j0+1+j=j0+(j+1) by omega];exact this)]
   refine a3 r ?_
   have:=hr 0 Wy
   exact this
theorem MX {n:Int} {wh:List R2} {k:Int} {e:Nat} {σ:Int→Int} (f:List Int) (hf:f.length=e) (h1:1≤e) (he:(e:Int)<n) (hk:k<n) (hs:∀ j:Nat,j<e→σ (n+j)=co f j) :
 ∃ σ',vH (xC n wh k e) σ=some σ'∧(∀ j:Nat,j≤e→σ' (n+j)=co (zD (uF wh k).a (uF wh k).b 0 f) j+σ k*co (vX (bezS (uF wh k).a (uF wh k).b) (bezT (uF wh k).a (uF wh k).b) e) j)∧∀ r,r<n→σ' r=σ r:=by
 generalize hp:uF wh k=p
 generalize hu:bezS p.a p.b=u
 generalize hv:bezT p.a p.b=v
 unfold xC
 rw [hp,hu,hv]
 obtain ⟨σ1,a1,a2,a3⟩:=Zf (n:=n) (p:=p) (c:=co f) e (upd σ (n+e) (-p.b*σ (n+((e:Int) - 1)))) sE (fun j hj=>by rw [tN _ _ sE];exact hs j hj)
 have hA:vH (In n p e) σ=some σ1:=tG (uO _ _ _ _) a1
 have hB:∀ j:Nat,j≤e→σ1 (n+j)=co (zD p.a p.b 0 f) j:=fun j hj=>by
  rw [On]
  rcases aK j e with hje | hje
  · exact a2 j hje
  have e1:j=e:=sE
  subst e1
  rw [a3 _ (fun i hi=>by omega) sE,uA,aD (by omega)]
  have e2:co f j=0:=by unfold co;rw [bP sE];rfl
  have e3:σ (n+((j:Int) - 1))=co f (j - 1):=by
   rw [show ((j:Int) - 1)=((j - 1:Nat):Int) by omega];exact hs (j - 1) sE
  rw [e2,e3,bL,fX];omega
 have hC:∀ r,r<n→σ1 r=σ r:=fun r hr=>by rw [a3 r (fun j hj=>by omega) sE,tN _ _ sE]
 obtain ⟨σ2,b1,b2,b3⟩:=CU (u:=u) (v:=v) (k:=k) (σ:=σ1) he
 obtain ⟨σ3,c1,c2,c3⟩:=Oq (n:=n) σ2 (xM n u v e) 0 σ2 (by rw [zE];omega) (fun _ _=>rfl)
 refine ⟨σ3,tG hA (tG b1 c1),fun j hj=>?_,fun r hr=>?_⟩
 · have h2:=c2 j (by rw [zE];omega)
   rw [dC] at h2
   rw [h2,b3 _ sE,hB j hj]
   congr 1
   obtain ⟨g1,g2⟩:=b2 j hj
   rw [hC k hk] at g1 g2
   cases ht:(xM n u v e)[j]?.getD false with
   | true=>rw [aF rfl];exact g1 ht
   | false=>rw [aD (by decide)];exact (g2 ht).symm
 rw [c3 r (fun j hj=>by omega),b3 r sE,hC r hr]
def yH (n:Int) (wh:List R2):List Int→List Sl.Instr
 | []=>[]
 | k :: left=>yG n wh k left.length left++yH n wh left
def uX (n:Int) (wh:List R2):List Int→List Sl.Instr
 | []=>[]
 | [k]=>sM n k 1
 | k :: i :: left=>uX n wh (i :: left)++xC n wh k (i :: left).length
theorem SL {t:Int} {F G:List Int} (h:F.length=G.length) (j:Nat):co (Ea t F G) j=co F j - t*co G j:=by
 unfold co Ea
 rw [List.getElem?_zipWith]
 rcases aK j F.length with hj | hj
 · rw [aA hj,aA (show j<G.length by omega)];rfl
 rw [bP hj,bP (show G.length≤j by omega)]
 show (0:Int)=0 - t*0
 rw [bL];rfl
theorem So {n:Int} {wh:List R2}:∀ (o:List Int) (f:List Int) (σ:Int→Int),o.Nodup→o≠[]→(∀ k∈o,0≤k∧k<n)→(o.length:Int)≤n→
 (∀ k∈o,Int.gcd (uF wh k).a (uF wh k).b=1∧bezS (uF wh k).a (uF wh k).b*(uF wh k).a+bezT (uF wh k).a (uF wh k).b*(uF wh k).b=1)→(∀ k∈o,∀ i∈o,k≠i→zW wh k i≠0)→f.length=o.length→(∀ k∈o,σ k=ev f (uF wh k).a (uF wh k).b)→
 ∃ σ',vH (yH n wh o++uX n wh o) σ=some σ'∧(∀ j:Nat,j<f.length→σ' (n+j)=co f j)∧∀ r,r<n→r ∉ o→σ' r=σ r
 | [],f,σ,_,h,_,_,_,_,_,_=>absurd rfl h
 | [k],f,σ,_,_,ho,_,_,_,hf,hv=>by
   obtain ⟨c,rfl⟩:∃ c,f=[c]:=by
    match f,hf with
    | [c],_=>exact ⟨c,rfl⟩
   have hk:=ho k tR
   refine ⟨_,(uO n k 1 σ:vH (sM n k 1) σ=_),fun j hj=>?_,fun r hr hr2=>tN _ _ sE⟩
   have hj0:j=0:=by simpa using hj
   subst hj0
   show upd σ n (1*σ k) (n+((0:Nat):Int))=c
   rw [show n+((0:Nat):Int)=n by omega,uA,hv k tR,cY]
   show c*_ ^ 0+_*0=c
   rw [iN,gH,bL,eV]
 | k :: i :: left,f,σ,hn,_,ho,hon,hg,hd,hf,hv=>by
   obtain ⟨hn1,hn2⟩:=qG.1 hn
   obtain ⟨hk0,hkn⟩:=ho k bF
   obtain ⟨hgk,hbk⟩:=hg k bF
   generalize hrest:i :: left=rest at *
   have hrl:1≤rest.length:=by rw [←hrest];simp
   rw [aW] at hf hon
   obtain ⟨g,g1,g2,g3⟩:=HT hgk hbk f rest.length hf
   have hvk:=hv k bF
   obtain ⟨σ1,a1,a2,a3⟩:=Sk (n:=n) (wh:=wh) (k:=k) (e:=rest.length) sE (fun i=>ev g (uF wh i).a (uF wh i).b) rest σ hn2 hn1 (fun i hi=>by
    have:=ho i (aY _ hi)
    refine ⟨by omega,hd k bF i (aY _ hi) (fun e=>hn1 (e▸hi)),?_⟩
    rw [hvk,hv i (aY _ hi)]
    have e2:=g3 (uF wh i).a (uF wh i).b
    have e3:zW wh k i=(uF wh k).a*(uF wh i).b - (uF wh k).b*(uF wh i).a:=by unfold zW;rw [cD (uF wh i).a]
    rw [e3]
    exact e2)
   obtain ⟨σ2,b1,b2,b3⟩:=So rest g σ1 hn2 (by intro e;rw [e] at hrl;simp at hrl) (fun k hk=>ho k (aY _ hk)) sE (fun k hk=>hg k (aY _ hk)) (fun k hk i hi=>hd k (aY _ hk) i (aY _ hi)) g1 (fun i hi=>a2 i hi)
   have hk2:σ2 k=σ k:=by rw [b3 k hkn hn1,a3 k hn1 sE]
   obtain ⟨σ3,c1,c2,c3⟩:=MX (wh:=wh) (σ:=σ2) g g1 hrl sE hkn (fun j hj=>b2 j sE)
   refine ⟨σ3,?_,fun j hj=>?_,fun r hr hr2=>?_⟩
   · have e1:yH n wh (k :: rest)++uX n wh (k :: rest)=yG n wh k rest.length rest++((yH n wh rest++uX n wh rest)++xC n wh k rest.length):=by
      have e2:uX n wh (k :: rest)=uX n wh rest++xC n wh k rest.length:=by rw [←hrest];rfl
      rw [e2]
      show (yG n wh k rest.length rest++yH n wh rest)++_=_
      simp only [bA]
     rw [e1]
     exact tG a1 (tG b1 c1)
   · rw [c2 j sE,←g2,hk2,hvk,SL (by rw [hf,Cs])]
     omega
   rw [c3 r hr,b3 r hr (fun x=>hr2 (aY _ x)),a3 r (fun x=>hr2 (aY _ x)) sE]
def Ct (o:List Int) (n:Nat):Prop:=o.length=n∧(∀ x∈o,0≤x∧x<n)∧o.Nodup
instance (o:List Int) (n:Nat):Decidable (Ct o n):=inferInstanceAs (Decidable (_∧_))
theorem Kj {q:PV} (h:1≤q.ins∧q.ins≤q.regs∧q.regs≤128∧q.code.length≤16384∧1≤q.outs.length∧q.outs.length≤128) (ho:∀ r∈q.outs,0≤r∧r<q.regs) (hc:∀ i∈q.code,sP i q.regs=true):sH q=true:=by
 have h1:wP q=true:=by
  unfold wP
  rw [aU,aS,eJ]
  exact ⟨by omega,fun r hr=>by rw [aS];exact ho r hr⟩
 have h2:Bw q=none:=by
  unfold Bw
  rw [gI]
  intro i hi
  rw [hc i hi];rfl
 unfold sH uD
 rw [aD (by rw [h1];decide),h2];rfl
structure Good (R:Int) (L d:Nat) (l:List Sl.Instr):Prop where
 fit:∀ i∈l,sP i R=true
 len:l.length≤L
 dv:Vc l≤d
theorem Zg (l m:List Sl.Instr):Vc (l++m)=Vc l+Vc m:=by unfold Vc;rw [List.filter_append,aC]
theorem Good.nil (R:Int):Good R 0 0 []:=⟨fun i h=>(by cases h),aH _,aH _⟩
abbrev iA:=@Good.nil
theorem Good.append {R:Int} {L d L' d':Nat} {l m:List Sl.Instr} (h:Good R L d l) (k:Good R L' d' m):Good R (L+L') (d+d') (l++m):=
 ⟨fun i hi=>(gW.1 hi).elim (h.fit i) (k.fit i),by rw [aC];have:=h.len;have:=k.len;omega,by rw [Zg];have:=h.dv;have:=k.dv;omega⟩
theorem Good.mono {R:Int} {L d L' d':Nat} {l:List Sl.Instr} (h:Good R L d l) (h1:L≤L') (h2:d≤d'):Good R L' d' l:=⟨h.fit,aV h.len h1,aV h.dv h2⟩
theorem Good.one {R:Int} {i:Sl.Instr} (h:sP i R=true):Good R 1 (if Yz i then 1 else 0) [i]:=
 ⟨fun j hj=>by rw [eQ.1 hj];exact h,aH _,by unfold Vc;by_cases hd:Yz i <;> simp [hd]⟩
abbrev oV:=@Good.one
theorem EQ {op to a b R:Int} (ho:op=3∨op=4) (h1:0≤to∧to<R) (h2:0≤a∧a<R) (h3:0≤b∧b<R):sP ⟨op,to,a,b,0⟩ R=true:=by
 unfold sP
 rw [aU,aU,aS,eJ]
 refine ⟨⟨(show 1≤op∧op≤8∧0≤to∧to<R∧(op=3∨op=4∨b=0) by omega),?_⟩,fun r hr=>?_⟩
 · unfold sT
   rw [aD (show ¬(op=5∨op=6) by omega),aD (show ¬(op=7∨op=8) by omega)];rfl
 rw [aS]
 unfold sS at hr
 rw [aF (show op=3∨op=4 from ho)] at hr
 rcases iG.1 hr with rfl | hr
 · exact h2
 rw [eQ.1 hr];exact h3
theorem Eu {op to a R:Int} (ho:op=1∨op=2) (h1:0≤to∧to<R) (h2:0≤a∧a<R):sP ⟨op,to,a,0,0⟩ R=true:=by
 unfold sP
 rw [aU,aU,aS,eJ]
 refine ⟨⟨(show 1≤op∧op≤8∧0≤to∧to<R∧(op=3∨op=4∨(0:Int)=0) by omega),?_⟩,fun r hr=>?_⟩
 · unfold sT
   rw [aD (show ¬(op=5∨op=6) by omega),aD (show ¬(op=7∨op=8) by omega)];rfl
 rw [aS]
 unfold sS at hr
 rw [aD (show ¬(op=3∨op=4) by omega),aF (show 1≤op∧op≤8 by omega)] at hr
 rw [eQ.1 hr];exact h2
theorem Kk {op to a c R:Int} (ho:op=5∨op=6) (h1:0≤to∧to<R) (h2:0≤a∧a<R) (hc:c≠0∧-512≤c∧c≤512):sP ⟨op,to,a,0,c⟩ R=true:=by
 unfold sP
 rw [aU,aU,aS,eJ]
 refine ⟨⟨(show 1≤op∧op≤8∧0≤to∧to<R∧(op=3∨op=4∨(0:Int)=0) by omega),?_⟩,fun r hr=>?_⟩
 · unfold sT
   rw [aF (show op=5∨op=6 from ho),aS];exact hc
 rw [aS]
 unfold sS at hr
 rw [aD (show ¬(op=3∨op=4) by omega),aF (show 1≤op∧op≤8 by omega)] at hr
 rw [eQ.1 hr];exact h2
theorem Io {R to a b:Int} (h1:0≤to∧to<R) (h2:0≤a∧a<R) (h3:0≤b∧b<R):Good R 1 0 [⟨3,to,a,b,0⟩]:=(oV (EQ (.inl rfl) h1 h2 h3)).mono (aH _) (mW (aD (show ¬((3:Int)=6∨(3:Int)=8) by decide)))
theorem Ed {R to a b:Int} (h1:0≤to∧to<R) (h2:0≤a∧a<R) (h3:0≤b∧b<R):Good R 1 0 [⟨4,to,a,b,0⟩]:=(oV (EQ (.inr rfl) h1 h2 h3)).mono (aH _) (mW (aD (show ¬((4:Int)=6∨(4:Int)=8) by decide)))
theorem uP {R to x c:Int} (h1:0≤to∧to<R) (h2:0≤x∧x<R) (hc:-512≤c∧c≤512):Good R 1 0 (sM to x c):=by
 unfold sM
 split
 · exact Ed h1 h2 h2
 rename_i h0
 split
 · exact (iA R).mono sE sE
 split
 · exact (oV (Eu (.inl rfl) h1 h2)).mono (aH _) (mW (aD (show ¬((1:Int)=6∨(1:Int)=8) by decide)))
 split
 · exact (oV (Eu (.inr rfl) h1 h2)).mono (aH _) (mW (aD (show ¬((2:Int)=6∨(2:Int)=8) by decide)))
 exact (oV (Kk (.inl rfl) h1 h2 ⟨h0,hc⟩)).mono (aH _) (mW (aD (show ¬((5:Int)=6∨(5:Int)=8) by decide)))
theorem Sp {R to c:Int} (h1:0≤to∧to<R) (h0:c≠0) (hc:-512≤c∧c≤512):Good R 1 (if c=1 then 0 else 1) (xB to c):=by
 unfold xB
 split
 · exact (iA R).mono sE sE
 split
 · exact (oV (Eu (.inr rfl) h1 h1)).mono (aH _) Rn
 exact (oV (Kk (.inr rfl) h1 h1 ⟨h0,hc⟩)).mono (aH _) Rn
theorem Sq {R to c:Int} (h1:0≤to∧to<R) (h0:c≠0) (hc:-512≤c∧c≤512):∀ m:Nat,Good R m (if c=1 then 0 else m) (List.replicate m (xB to c)).flatten
 | 0=>(iA R).mono (aH _) (aM _)
 | m+1=>by
   rw [oE,rK]
   refine ((Sp h1 h0 hc).append (Sq h1 h0 hc m)).mono sE ?_
   split <;> omega
theorem Kl {R to c:Int} (h1:0≤to∧to<R) (hc:-512≤c∧c≤512):∀ (e:Nat) (fr k:Int),0≤fr∧fr<R→-512≤k∧k≤512→Good R (e+1) 0 (Ol to c fr k e)
 | 0,fr,k,h2,hk=>uP h1 h2 hk
 | e+1,fr,k,h2,hk=>by
   unfold Ol
   split
   · exact ((uP h1 h2 hk).append (Kl h1 hc e to c h1 hc)).mono sE sE
   exact (Kl h1 hc e fr (k*c) h2 sE).mono sE sE
theorem HW {R to a c:Int} (h1:0≤to∧to<R) (h2:0≤a∧a<R) (hc:-512≤c∧c≤512) (e:Nat):Good R (e+1) 0 (zV to a c e):=by
 unfold zV
 split
 · refine (uP h1 h2 ?_).mono sE sE
   split <;> omega
 exact Kl h1 hc e a 1 h2 sE
theorem ER {u v a b:Int} (h:u.natAbs+v.natAbs≤17) (hn:near a b):-512≤u*a+v*b∧u*a+v*b≤512:=by
 unfold near at hn
 have h1:(u*a).natAbs≤u.natAbs*16:=by rw [eX];exact oD _ sE
 have h2:(v*b).natAbs≤v.natAbs*16:=by rw [eX];exact oD _ sE
 omega
theorem SM {a b c d:Int} (h:near a b) (k:near c d):-512≤a*d - c*b∧a*d - c*b≤512:=by
 unfold near at h k
 have h1:(a*d).natAbs≤16*16:=by rw [eX];exact fQ sE sE
 have h2:(c*b).natAbs≤16*16:=by rw [eX];exact fQ sE sE
 omega
structure Wh (wh:List R2) (o:List Int):Prop where
 near:∀ k∈o,near (uF wh k).a (uF wh k).b
 cop:∀ k∈o,Int.gcd (uF wh k).a (uF wh k).b=1
 bez:∀ k∈o,bezS (uF wh k).a (uF wh k).b*(uF wh k).a+bezT (uF wh k).a (uF wh k).b*(uF wh k).b=1
 small:∀ k∈o,(bezS (uF wh k).a (uF wh k).b).natAbs+(bezT (uF wh k).a (uF wh k).b).natAbs≤17
 det:∀ k∈o,∀ i∈o,k≠i→zW wh k i≠0
theorem Wh.tail {wh:List R2} {k:Int} {o:List Int} (h:Wh wh (k :: o)):Wh wh o:=
 ⟨fun i hi=>h.near i (aY _ hi),fun i hi=>h.cop i (aY _ hi),fun i hi=>h.bez i (aY _ hi),fun i hi=>h.small i (aY _ hi),
  fun k hk i hi=>h.det k (aY _ hk) i (aY _ hi)⟩
theorem Vf {n:Int} {wh:List R2} {k i:Int} (e:Nat) (hk:0≤k∧k<n) (hi:0≤i∧i<n) (h1:near (uF wh k).a (uF wh k).b) (h2:near (uF wh i).a (uF wh i).b) (h3:(bezS (uF wh k).a (uF wh k).b).natAbs+(bezT (uF wh k).a (uF wh k).b).natAbs≤17) (h4:zW wh k i≠0) :
 Good (3*n+1) (e+3) 1 (Bi n wh k e i):=by
 have hl:=ER h3 h2
 have hd:=SM h1 h2
 unfold Bi
 have e1:Good (3*n+1) (e+2) 0 (if Az wh k i≠0∨e=0 then zV (3*n) k (Az wh k i) e++[⟨4,i,i,3*n,0⟩] else []):=by
  split
  · exact (HW sE sE hl e).append (Ed sE sE sE)
  exact (iA _).mono sE sE
 have e2:Good (3*n+1) 1 1 (if zW wh k i=1 then [] else xB i (zW wh k i)):=by
  split
  · exact (iA _).mono sE sE
  exact (Sp sE h4 hd).mono (aH _) Rn
 exact (e1.append e2).mono sE sE
theorem Ot {n:Int} {wh:List R2} {k:Int} (e:Nat) (hk:0≤k∧k<n) (h1:near (uF wh k).a (uF wh k).b) (h3:(bezS (uF wh k).a (uF wh k).b).natAbs+(bezT (uF wh k).a (uF wh k).b).natAbs≤17) :
 ∀ left:List Int,(∀ i∈left,0≤i∧i<n)→(∀ i∈left,near (uF wh i).a (uF wh i).b∧zW wh k i≠0)→Good (3*n+1) (left.length*(e+3)) left.length (yG n wh k e left)
 | [],_,_=>(iA _).mono (aM _) (aM _)
 | i :: left,hi,h=>by
   have h5:=h i bF
   refine ((Vf e hk (hi i bF) h1 h5.1 h3 h5.2).append (Ot e hk h1 h3 left (fun j hj=>hi j (aY _ hj)) (fun j hj=>h j (aY _ hj)))).mono ?_ ?_
   · rw [aW,oK];omega
   rw [aW];omega
def fg:Nat→Nat
 | 0=>0
 | m+1=>m+fg m
theorem Ip {n:Int} {wh:List R2}:∀ o:List Int,o.length≤15→(∀ i∈o,0≤i∧i<n)→o.Nodup→Wh wh o→Good (3*n+1) (238*o.length) (fg o.length) (yH n wh o)
 | [],_,_,_,_=>(iA _).mono (aM _) (aM _)
 | k :: left,hl,hr,hn,hw=>by
   obtain ⟨hn1,hn2⟩:=qG.1 hn
   rw [aW] at hl
   have h1:=Ot (n:=n) (wh:=wh) left.length (hr k bF) (hw.near k bF) (hw.small k bF) left (fun i hi=>hr i (aY _ hi)) (fun i hi=>⟨hw.near i (aY _ hi),hw.det k bF i (aY _ hi) (fun e=>hn1 (e▸hi))⟩)
   have h2:=Ip left sE (fun i hi=>hr i (aY _ hi)) hn2 hw.tail
   refine (h1.append h2).mono ?_ ?_
   · rw [aW]
     have:left.length*(left.length+3)≤14*17:=fQ sE sE
     omega
   exact aH _
theorem CV {n u v:Int} {th:List Bool} {j:Nat} (hj:(j:Int)<n) (hu:-512≤u∧u≤512) (hv:-512≤v∧v≤512):Good (3*n+1) 3 0 (As n u v th j).2:=by
 unfold As
 simp only
 by_cases hj0:0<j
 · have h1:Good (3*n+1) 1 0 (sM (3*n) (2*n+(j - 1)) u):=uP sE sE hu
   have h2:Good (3*n+1) 1 0 (sM (2*n+j) (2*n+j) v):=uP sE sE hv
   have h3:Good (3*n+1) 1 0 (sM (2*n+j) (3*n) 1):=uP sE sE sE
   have h4:Good (3*n+1) 1 0 [(⟨3,2*n+j,2*n+j,3*n,0⟩:Sl.Instr)]:=Io sE sE sE
   generalize (decide (0<j) && th[j - 1]?.getD false && decide (u≠0))=low
   generalize (th[j]?.getD false && decide (v≠0))=own
   cases low <;> cases own
   · exact (iA _).mono sE sE
   · exact h2.mono sE sE
   · exact (h1.append h3).mono sE sE
   exact (h1.append (h2.append h4)).mono sE sE
 have h2:Good (3*n+1) 1 0 (sM (2*n+j) (2*n+j) v):=uP sE sE hv
 rw [bQ hj0]
 generalize (th[j]?.getD false && decide (v≠0))=own
 cases own
 · exact (iA _).mono sE sE
 exact h2.mono sE sE
theorem Zh {n u v:Int} (hu:-512≤u∧u≤512) (hv:-512≤v∧v≤512):∀ (m:Nat) (th:List Bool),(m:Int)≤n→Good (3*n+1) (3*m) 0 (Sm n u v m th).2
 | 0,_,_=>iA _
 | m+1,th,h=>((CV sE hu hv).append (Zh hu hv m _ sE)).mono sE sE
theorem Sr {n u v:Int} (hu:-512≤u∧u≤512) (hv:-512≤v∧v≤512) (hn:n≤15):∀ (m d:Nat) (th:List Bool),((d+m:Nat):Int)≤n→Good (3*n+1) (45*m) 0 (Gj n u v m d th).2
 | 0,_,_,_=>iA _
 | m+1,d,th,h=>((Zh hu hv (d+1) th sE).append (Sr hu hv hn m (d+1) _ sE)).mono sE sE
theorem Zi {n u v k:Int} {e:Nat} (hu:-512≤u∧u≤512) (hv:-512≤v∧v≤512) (hn:n≤15) (he:(e:Int)<n) (hk:0≤k∧k<n):Good (3*n+1) (1+45*e) 0 (yX n u v k e):=
 (uP sE sE sE).append (Sr hu hv hn e 1 _ sE)
theorem Ss {n:Int} {p:R2} (hp:near p.a p.b):∀ m:Nat,(m:Int)≤n→Good (3*n+1) (3*m) 0 (Ve n p m)
 | 0,_=>iA _
 | j+1,h=>by
   unfold near at hp
   unfold Ve
   have h1:Good (3*n+1) 1 0 (if 0<j then sM (3*n) (n+((j:Int) - 1)) p.b else []):=by
    split
    · exact uP sE sE sE
    exact (iA _).mono sE sE
   have h2:Good (3*n+1) 1 0 (sM (n+j) (n+j) p.a):=uP sE sE sE
   have h3:Good (3*n+1) 1 0 (if 0<j then [(⟨4,n+j,n+j,3*n,0⟩:Sl.Instr)] else []):=by
    split
    · exact Ed sE sE sE
    exact (iA _).mono sE sE
   exact (h1.append (h2.append (h3.append (Ss hp j sE)))).mono sE sE
theorem Lx {n:Int}:∀ (th:List Bool) (j:Nat),((j+th.length:Nat):Int)≤n→Good (3*n+1) th.length 0 (Bm n th j)
 | [],_,_=>iA _
 | t :: th,j,h=>by
   rw [aW] at h
   have h1:Good (3*n+1) 1 0 (if t then [(⟨3,n+j,n+j,2*n+j,0⟩:Sl.Instr)] else []):=by
    split
    · exact Io sE sE sE
    exact (iA _).mono sE sE
   exact (h1.append (Lx th (j+1) sE)).mono Wy sE
theorem HX {n:Int} {wh:List R2} {k:Int} {e:Nat} (hn:n≤15) (h1:1≤e) (he:(e:Int)<n) (hk:0≤k∧k<n) (hp:near (uF wh k).a (uF wh k).b) (hs:(bezS (uF wh k).a (uF wh k).b).natAbs+(bezT (uF wh k).a (uF wh k).b).natAbs≤17):Good (3*n+1) 700 0 (xC n wh k e):=by
 have a1:=uP (R:=3*n+1) (to:=n+e) (x:=n+((e:Int) - 1)) (c:=-(uF wh k).b) sE sE Wz
 have a2:=Ss (n:=n) hp e sE
 have a3:=Zi (n:=n) (u:=bezS (uF wh k).a (uF wh k).b) (v:=bezT (uF wh k).a (uF wh k).b) (k:=k) (e:=e) sE sE hn he hk
 have a4:=Lx (n:=n) (xM n (bezS (uF wh k).a (uF wh k).b) (bezT (uF wh k).a (uF wh k).b) e) 0 (by rw [zE];omega)
 have hl:=zE n (bezS (uF wh k).a (uF wh k).b) (bezT (uF wh k).a (uF wh k).b) e
 exact ((a1.append a2).append (a3.append a4)).mono (by rw [hl];omega) sE
theorem Iq {n:Int} {wh:List R2} (hn:n≤15):∀ o:List Int,(o.length:Int)≤n→(∀ i∈o,0≤i∧i<n)→Wh wh o→Good (3*n+1) (700*o.length) 0 (uX n wh o)
 | [],_,_,_=>iA _
 | [k],_,hr,_=>by
   have:=hr k bF
   exact (uP sE sE sE).mono tR (aH _)
 | k :: i :: left,hl,hr,hw=>by
   rw [aW] at hl
   have h1:=Iq hn (i :: left) sE (fun j hj=>hr j (aY _ hj)) hw.tail
   have h2:=HX (n:=n) (wh:=wh) (k:=k) (e:=(i :: left).length) hn tR sE (hr k bF) (hw.near k bF) (hw.small k bF)
   exact (h1.append h2).mono (by rw [aW (a:=k)];omega) sE
def zX (m:Nat):List R2→Nat→List Sl.Instr
 | [],_=>[]
 | p :: l,k=>(List.replicate m (xB k (Int.gcd p.a p.b))).flatten++zX m l (k+1)
def tC (p:R2):R2:=⟨p.a.tdiv (Int.gcd p.a p.b),p.b.tdiv (Int.gcd p.a p.b)⟩
def Ly (l:List R2) (o:List Int):List Sl.Instr:=zX (l.length - 1) l 0++(yH l.length (l.map tC) o++uX l.length (l.map tC) o)
def sR (l:List R2) (o:List Int):PV:=⟨l.length,3*l.length+1,Ly l o,(List.range l.length).map fun j:Nat=>(l.length:Int)+j⟩
theorem Ee {p:R2} (h:Od p):1≤Int.gcd p.a p.b∧Int.gcd p.a p.b≤16:=by
 obtain ⟨h1,h2⟩:=h
 have hg0:0<Int.gcd p.a p.b:=Nat.pos_of_ne_zero fun h1=>h2 (Int.gcd_eq_zero_iff.mp h1)
 refine ⟨hg0,?_⟩
 unfold near at h1
 by_cases ha:p.a=0
 · have hb:p.b≠0:=fun hb=>h2 ⟨ha,hb⟩
   have:=rF sE (show Int.gcd p.a p.b ∣ p.b.natAbs from Nat.gcd_dvd_right _ _)
   omega
 have:=rF sE (show Int.gcd p.a p.b ∣ p.a.natAbs from Nat.gcd_dvd_left _ _)
 omega
theorem Ir {n:Int} (m:Nat):∀ (l:List R2) (k:Nat),((k+l.length:Nat):Int)≤n→(∀ p∈l,Od p)→Good (3*n+1) (l.length*m) (m*Kh l) (zX m l k)
 | [],_,_,_=>(iA _).mono (aM _) (aM _)
 | p :: l,k,h,hp=>by
   rw [aW] at h
   have hg:=Ee (hp p bF)
   have h1:=Sq (R:=3*n+1) (to:=(k:Int)) (c:=(Int.gcd p.a p.b:Int)) sE sE sE m
   have h2:=Ir (n:=n) m l (k+1) sE (fun q hq=>hp q (aY _ hq))
   refine (h1.append h2).mono ?_ ?_
   · rw [aW,oK];omega
   have e:Kh (p :: l)=(if Int.gcd p.a p.b=1 then 0 else 1)+Kh l:=by
    unfold Kh
    rw [List.filter_cons]
    by_cases hh:Int.gcd p.a p.b=1
    · rw [aD (by simp [hh]),aF hh,dC]
    rw [aF (by simp [hh]),aD hh,aW,Nat.add_comm]
   rw [e,Nat.mul_add]
   by_cases hh:Int.gcd p.a p.b=1
   · rw [aF (by omega),aF hh];omega
   rw [aD (by omega),aD hh];omega
theorem ES (l:List R2) {k:Int} (h0:0≤k) (h:k<l.length):uF (l.map tC) k=tC (l[k.toNat]?.getD default):=by
 unfold uF
 rw [bN,aA (show k.toNat<l.length by omega)];rfl
theorem wT {p:R2} (h:Od p):p.a=Int.gcd p.a p.b*(tC p).a∧p.b=Int.gcd p.a p.b*(tC p).b∧Int.gcd (tC p).a (tC p).b=1∧Od (tC p):=by
 obtain ⟨g1,g2⟩:=Ee h
 have e1:p.a.tdiv (Int.gcd p.a p.b)*Int.gcd p.a p.b=p.a:=kD (sB p.a p.b)
 have e2:p.b.tdiv (Int.gcd p.a p.b)*Int.gcd p.a p.b=p.b:=kD (rO p.a p.b)
 have q1:=wR p.a (Int.gcd p.a p.b)
 have q2:=wR p.b (Int.gcd p.a p.b)
 refine ⟨by rw [cD];exact e1.symm,by rw [cD];exact e2.symm,?_,?_,?_⟩
 · show Nat.gcd (p.a.tdiv (Int.gcd p.a p.b)).natAbs (p.b.tdiv (Int.gcd p.a p.b)).natAbs=1
   rw [show (p.a.tdiv (Int.gcd p.a p.b)).natAbs=p.a.natAbs / Int.gcd p.a p.b from mK _ _,show (p.b.tdiv (Int.gcd p.a p.b)).natAbs=p.b.natAbs / Int.gcd p.a p.b from mK _ _]
   exact Nat.coprime_div_gcd_div_gcd g1
 · have h1:=h.1
   unfold near at *
   show _≤p.a.tdiv _∧p.a.tdiv _≤_∧_≤p.b.tdiv _∧p.b.tdiv _≤_
   omega
 intro ⟨z1,z2⟩
 apply h.2
 have z1:p.a.tdiv (Int.gcd p.a p.b)=0:=z1
 have z2:p.b.tdiv (Int.gcd p.a p.b)=0:=z2
 rw [z1,dV] at e1
 rw [z2,dV] at e2
 exact ⟨e1.symm,e2.symm⟩
theorem MY {l:List R2} (hR:tL l) {i j:Nat} (hij:i<j) (hj:j<l.length):(l[i]?.getD default).a*(l[j]?.getD default).b - (l[j]?.getD default).a*(l[i]?.getD default).b≠0:=by
 obtain ⟨h1,h2,h3,h4⟩:=hR
 intro h
 apply h4
 obtain ⟨p1,p2⟩:=h3 i sE
 obtain ⟨q1,q2⟩:=h3 j hj
 refine ⟨j,hj,i,hij,p1,q1,(MF _ _ _ _).2 ?_⟩
 unfold SE
 rw [aD (fun h=>h.elim p2 q2)]
 exact h
theorem Zj {l:List R2} (hR:tL l) {o:List Int} (ho:∀ k∈o,0≤k∧k<l.length):Wh (l.map tC) o:=by
 have hok:∀ k∈o,Od (l[k.toNat]?.getD default):=fun k hk=>hR.2.2.1 _ (by have:=ho k hk;omega)
 have hpt:∀ k∈o,uF (l.map tC) k=tC (l[k.toNat]?.getD default):=fun k hk=>ES l (ho k hk).1 (ho k hk).2
 have hb:∀ k∈o,bezS (uF (l.map tC) k).a (uF (l.map tC) k).b*(uF (l.map tC) k).a+bezT (uF (l.map tC) k).a (uF (l.map tC) k).b*(uF (l.map tC) k).b=1∧(bezS (uF (l.map tC) k).a (uF (l.map tC) k).b).natAbs+(bezT (uF (l.map tC) k).a (uF (l.map tC) k).b).natAbs≤17:=fun k hk=>by
  rw [hpt k hk]
  obtain ⟨_,_,w3,w4⟩:=wT (hok k hk)
  obtain ⟨b1,b2,_⟩:=Et w4.1 w4.2
  rw [w3] at b1
  exact ⟨b1,b2⟩
 refine ⟨fun k hk=>by rw [hpt k hk];exact (wT (hok k hk)).2.2.2.1,fun k hk=>by rw [hpt k hk];exact (wT (hok k hk)).2.2.1,fun k hk=>(hb k hk).1,fun k hk=>(hb k hk).2,fun k hk i hi hne=>?_⟩
 have hd:((l[k.toNat]?.getD default).a*(l[i.toNat]?.getD default).b - (l[i.toNat]?.getD default).a*(l[k.toNat]?.getD default).b)≠0:=by
  have h1:=ho k hk
  have h2:=ho i hi
  rcases aK k.toNat i.toNat with h | h
  · exact MY hR h sE
  have:=MY hR (show i.toNat<k.toNat by omega) sE
  intro h3;apply this;omega
 intro h0
 apply hd
 unfold zW at h0
 rw [hpt k hk,hpt i hi] at h0
 obtain ⟨a1,a2,_⟩:=wT (hok k hk)
 obtain ⟨c1,c2,_⟩:=wT (hok i hi)
 generalize (l[k.toNat]?.getD default)=p at *
 generalize (l[i.toNat]?.getD default)=q at *
 have key:p.a*q.b - q.a*p.b=((tC p).a*(tC q).b - (tC q).a*(tC p).b)*((Int.gcd p.a p.b:Int)*(Int.gcd q.a q.b:Int)):=by
  rw [kN]
  calc p.a*q.b - q.a*p.b=(Int.gcd p.a p.b*(tC p).a)*(Int.gcd q.a q.b*(tC q).b) - (Int.gcd q.a q.b*(tC q).a)*(Int.gcd p.a p.b*(tC p).b):=by rw [←a1,←a2,←c1,←c2]
   _=_:=by congr 1 <;> ac_rfl
 rw [key,h0,dV]
theorem Km {l:List R2} {o:List Int} (hR:tL l) (ho:Ct o l.length):Good (3*l.length+1) 16384 (fg l.length+(l.length - 1)*Kh l) (Ly l o):=by
 obtain ⟨o1,o2,o3⟩:=ho
 have hl:=hR.2.1
 have hw:=Zj hR o2
 have hok:∀ p∈l,Od p:=fun p hp=>by
  obtain ⟨i,hi,rfl⟩:=fL.1 hp
  have:=hR.2.2.1 i hi
  rw [aA hi] at this
  exact this
 have h1:=Ir (n:=l.length) (l.length - 1) l 0 sE hok
 have h2:=Ip (n:=l.length) (wh:=l.map tC) o sE o2 o3 hw
 have h3:=Iq (n:=l.length) (wh:=l.map tC) sE o sE o2 hw
 refine (h1.append (h2.append h3)).mono ?_ ?_
 · have:l.length*(l.length - 1)≤15*14:=fQ sE sE
   omega
 rw [o1];omega
theorem Gk {l:List R2} {o:List Int} (hR:tL l) (ho:Ct o l.length):sH (sR l o)=true:=by
 have hg:=Km hR ho
 have hl:=hR.1
 have hl2:=hR.2.1
 refine Kj ⟨?_,?_,?_,hg.len,?_,?_⟩ ?_ hg.fit
 · show (1:Int)≤l.length;omega
 · show (l.length:Int)≤3*l.length+1;omega
 · show (3*l.length+1:Int)≤128;omega
 · show 1≤((List.range l.length).map _).length;rw [aP,bS];exact hl
 · show ((List.range l.length).map _).length≤128;rw [aP,bS];omega
 intro r hr
 obtain ⟨j,hj,rfl⟩:=dJ.1 hr
 have:=iM.1 hj
 show 0≤(l.length:Int)+j∧(l.length:Int)+j<3*l.length+1
 omega
def Vg:List Sl.Instr→List Int→Option (List Int)
 | [],rs=>some rs
 | i :: l,rs=>(wA i rs).bind fun x=>Vg l (rs.set i.to.toNat x)
theorem MZ (l:List Sl.Instr) (i:Sl.Instr) (rs:List Int):Vg (l++[i]) rs=(Vg l rs).bind fun r=>(wA i r).map fun x=>r.set i.to.toNat x:=by
 induction l generalizing rs with
 | nil =>
   show (wA i rs).bind (fun x=>some (rs.set i.to.toNat x))=(wA i rs).map _
   cases wA i rs <;> rfl
 | cons j l ih =>
   show (wA j rs).bind (fun x=>Vg (l++[i]) (rs.set j.to.toNat x))=((wA j rs).bind fun x=>Vg l (rs.set j.to.toNat x)).bind _
   cases wA j rs with
   | none=>rfl
   | some x=>exact ih _
theorem At (p:PV) (zs:List Int):∀ k,k≤p.code.length→wS p zs k=Vg (p.code.take k) zs
 | 0,_=>by rw [cM];rfl
 | k+1,hk=>by
   have htk:p.code.take (k+1)=p.code.take k++[p.code[(k:Int).toNat]?.getD default]:=by
    rw [cB,aE,aA sE];rfl
   rw [htk,MZ,←At p zs k sE]
   rfl
def Bq (j:Nat) (rs:List (List Int)):List Int:=rs.map fun r=>r[j]?.getD 0
def Flat (N:Nat) (rs:List (List Int)):Prop:=∀ r∈rs,r.length=N
theorem yI (j:Nat) (rs:List (List Int)):(Bq j rs).length=rs.length:=by unfold Bq;rw [aP]
theorem Ef {j k:Nat} {rs:List (List Int)}:(Bq j rs)[k]?.getD 0=(rs[k]?.getD [])[j]?.getD 0:=by
 unfold Bq
 rw [bN]
 cases rs[k]? <;> rfl
theorem Mq (j k:Nat) (rs:List (List Int)) (x:List Int):Bq j (rs.set k x)=(Bq j rs).set k (x[j]?.getD 0):=by
 unfold Bq
 rw [List.map_set]
theorem yJ {N k:Nat} {rs:List (List Int)} (h:Flat N rs) (hk:k<rs.length):(rs[k]?.getD []).length=N:=by
 rw [aA hk];exact h _ (bI hk)
theorem Ou {l:List Int} {f:Int→Int} {j:Nat} (h:j<l.length):(l.map f)[j]?.getD 0=f (l[j]?.getD 0):=by
 rw [bN,aA h];rfl
theorem Zk {l m:List Int} {f:Int→Int→Int} {j:Nat} (h:j<l.length) (h2:j<m.length):(List.zipWith f l m)[j]?.getD 0=f (l[j]?.getD 0) (m[j]?.getD 0):=by
 rw [List.getElem?_zipWith,aA h,aA h2];rfl
theorem Vh {i:Sl.Instr} {rs:List (List Int)} {N:Nat} (he:Flat N rs) (ha:i.a.toNat<rs.length) (hb:i.op=3∨i.op=4→i.b.toNat<rs.length) :
 (∀ x,wQ i rs=some x→x.length=N∧∀ j,j<N→wA i (Bq j rs)=some (x[j]?.getD 0))∧(wQ i rs=none→∃ j,j<N∧wA i (Bq j rs)=none):=by
 have la:=yJ he ha
 unfold wQ wA
 simp only [Ef]
 by_cases h2:i.op=2
 · simp only [aF h2]
   refine ⟨fun x h=>?_,fun h=>by cases h⟩
   cases h
   refine ⟨by rw [aP];exact la,fun j hj=>?_⟩
   rw [Ou sE,fX,cY]
 simp only [aD h2]
 by_cases h3:i.op=3
 · have lb:=yJ he (hb (.inl h3))
   simp only [aF h3]
   refine ⟨fun x h=>?_,fun h=>by cases h⟩
   cases h
   refine ⟨by rw [iQ];omega,fun j hj=>?_⟩
   rw [Zk sE sE,cY]
 simp only [aD h3]
 by_cases h4:i.op=4
 · have lb:=yJ he (hb (.inr h4))
   simp only [aF h4]
   refine ⟨fun x h=>?_,fun h=>by cases h⟩
   cases h
   refine ⟨by rw [iQ];omega,fun j hj=>?_⟩
   rw [Zk sE sE,fX,cY];rfl
 simp only [aD h4]
 by_cases h5:i.op=5∨i.op=7
 · simp only [aF h5]
   refine ⟨fun x h=>?_,fun h=>by cases h⟩
   cases h
   refine ⟨by rw [aP];exact la,fun j hj=>?_⟩
   rw [Ou sE,cD]
 simp only [aD h5]
 by_cases h6:i.op=6∨i.op=8
 · simp only [aF h6]
   by_cases hd:xE (cst i) (rs[i.a.toNat]?.getD [])
   · rw [aF hd]
     refine ⟨fun x h=>?_,fun h=>by cases h⟩
     cases h
     refine ⟨by rw [aP];exact la,fun j hj=>?_⟩
     rw [aF (hd j sE),Ou sE]
   rw [aD hd]
   refine ⟨fun x h=>(by cases h),fun _=>?_⟩
   unfold xE at hd
   rw [Classical.not_forall] at hd
   obtain ⟨j,hd⟩:=hd
   rw [Classical.not_imp] at hd
   exact ⟨j,by omega,aD hd.2⟩
 simp only [aD h6]
 refine ⟨fun x h=>?_,fun h=>by cases h⟩
 cases h
 exact ⟨la,fun j hj=>rfl⟩
theorem flat_set {N k:Nat} {rs:List (List Int)} {x:List Int} (h:Flat N rs) (hx:x.length=N):Flat N (rs.set k x):=fun r hr=>by
 rcases eN hr with h1 | h1
 · exact h r h1
 rw [h1];exact hx
def Ov (n:Nat) (i:Sl.Instr):Prop:=i.a.toNat<n∧(i.op=3∨i.op=4→i.b.toNat<n)
theorem Zl {N:Nat}:∀ (l:List Sl.Instr) (rs:List (List Int)),Flat N rs→(∀ i∈l,Ov rs.length i)→
 (∀ r',xP l rs=some r'→Flat N r'∧r'.length=rs.length∧∀ j,j<N→Vg l (Bq j rs)=some (Bq j r'))∧(xP l rs=none→∃ j,j<N∧Vg l (Bq j rs)=none)
 | [],rs,he,_=>⟨fun r' h=>by cases h;exact ⟨he,rfl,fun j _=>rfl⟩,fun h=>by cases h⟩
 | i :: l,rs,he,hi=>by
   obtain ⟨h1,h2⟩:=Vh he (hi i tR).1 (hi i tR).2
   unfold xP Vg
   cases hd:wQ i rs with
   | none =>
     refine ⟨fun r' h=>(by cases h),fun _=>?_⟩
     obtain ⟨j,hj,hz⟩:=h2 hd
     exact ⟨j,hj,by rw [hz];rfl⟩
   | some x =>
     obtain ⟨hx,hc⟩:=h1 x hd
     obtain ⟨g1,g2⟩:=Zl l (rs.set i.to.toNat x) (flat_set he hx) (fun q hq=>by rw [aG];exact hi q (by simp [hq]))
     refine ⟨fun r' h=>?_,fun h=>?_⟩
     · obtain ⟨k1,k2,k3⟩:=g1 r' h
       refine ⟨k1,by rw [k2,aG],fun j hj=>?_⟩
       rw [hc j hj]
       show Vg l ((Bq j rs).set i.to.toNat (x[j]?.getD 0))=_
       rw [←Mq];exact k3 j hj
     obtain ⟨j,hj,hz⟩:=g2 h
     refine ⟨j,hj,?_⟩
     rw [hc j hj]
     show Vg l ((Bq j rs).set i.to.toNat (x[j]?.getD 0))=_
     rw [←Mq];exact hz
theorem Vi {i:Sl.Instr} {regs:Int} {n:Nat} (h:sP i regs=true) (hn:(n:Int)=regs):Ov n i:=by
 obtain ⟨m1,m2,m3,m4,m5⟩:=tE h
 exact ⟨by omega,fun h34=>by have:=m4 h34;omega⟩
theorem Ev {p:PV} {gs:List (List Int)} {N:Nat} (hN:Flat N gs) (h1:1≤gs.length):Flat N (uI p gs):=fun r hr=>by
 unfold uI at hr
 obtain ⟨k,_,rfl⟩:=dJ.1 hr
 split
 · rename_i hk;exact yJ hN hk
 rw [aI];exact yJ hN h1
theorem Is {p:PV} {gs:List (List Int)} (hz:gs.length≤p.regs.toNat) (j:Nat):Bq j (uI p gs)=tZ p (Bq j gs):=by
 apply gF
 intro k
 have hl:(tZ p (Bq j gs)).length=p.regs.toNat:=by unfold tZ;rw [aC,aI,yI];omega
 have hl2:(Bq j (uI p gs)).length=p.regs.toNat:=by rw [yI,vM]
 rcases aK k p.regs.toNat with hk | hk
 · have e:∀ (l:List Int),k<l.length→l[k]?=some (l[k]?.getD 0):=fun l h=>by rw [aA h];rfl
   rw [e _ sE,e (tZ p (Bq j gs)) sE]
   congr 1
   rw [Ef,Bx hk]
   unfold tZ
   split
   · rename_i h
     rw [bB (by rw [yI];exact h),Ef]
   rename_i h
   rw [bT (by rw [yI];omega),yI]
   have e0:∀ (n m:Nat),(List.replicate n (0:Int))[m]?.getD 0=0:=fun n m=>by
    rw [eL];split <;> rfl
   rw [e0,e0]
 rw [bP sE,bP sE]
theorem Eg {p:PV} {gs os:List (List Int)} {N:Nat} (hR:sH p=true) (hg:(gs.length:Int)=p.ins) (hN:Flat N gs) (ho:os.length=p.outs.length) (hf:Flat N os)
 (h:∀ j,j<N→xH p (Bq j gs)=some (Bq j os)):sQ p gs=some os:=by
 obtain ⟨f1,f2,f3,f4,f5,f6,f7,f8⟩:=sK hR
 have hfp:=Ev (p:=p) hN sE
 unfold sQ
 rw [xQ p gs _ (aH _),bC]
 have hq:=Zl p.code (uI p gs) hfp (fun i hi=>Vi (f8 i hi) DN)
 have h9:∀ j,j<N→(Vg p.code (Bq j (uI p gs))).map (vK p)=some (Bq j os):=fun j hj=>by
  have h1:=h j hj
  unfold xH at h1
  rw [At p _ _ (aH _),bC,←Is sE] at h1
  exact h1
 cases hr:xP p.code (uI p gs) with
 | none =>
   obtain ⟨j,hj,hz⟩:=hq.2 hr
   have h1:=h9 j hj
   rw [hz] at h1
   cases h1
 | some s =>
   obtain ⟨q1,q2,q3⟩:=hq.1 s hr
   show some (wG p s)=some os
   congr 1
   unfold wG
   apply fB
   · rw [aP,ho]
   intro k g1 g2
   rw [aP] at g1
   rw [fA]
   have hrk:=f7 p.outs[k] (bI g1)
   have ls:=yJ q1 (k:=p.outs[k].toNat) (by rw [q2,vM];omega)
   have lo:=hf _ (bI g2)
   apply fB
   · omega
   intro j j1 j2
   have h1:=h9 j sE
   rw [q3 j sE] at h1
   have h2:vK p (Bq j s)=Bq j os:=jD h1
   have h3:=congrArg (fun l:List Int=>l[k]?.getD 0) h2
   simp only [Ef] at h3
   unfold vK at h3
   rw [bN,aA g1,aA g2] at h3
   simp only [fO,dK,Ef] at h3
   rw [aA j1,aA j2] at h3
   exact h3
def Ag (R:Int) (σ:Int→Int) (rs:List Int):Prop:=∀ r,0≤r→r<R→σ r=rs[r.toNat]?.getD 0
theorem SN {i:Sl.Instr} {R:Int} {σ:Int→Int} {rs:List Int} (hm:sP i R=true) (h:Ag R σ rs):MT i σ=wA i rs:=by
 obtain ⟨m1,m2,m3,m4,m5⟩:=tE hm
 unfold MT wA
 simp only [h i.a m3.1 m3.2]
 by_cases h34:i.op=3∨i.op=4
 · have:=m4 h34
   rw [h i.b this.1 this.2]
 have h3:¬i.op=3:=fun e=>h34 (.inl e)
 have h4:¬i.op=4:=fun e=>h34 (.inr e)
 simp only [h3,h4,jR]
theorem XB {R:Int} {σ:Int→Int} {rs:List Int} {t x:Int} (h:Ag R σ rs) (hl:(rs.length:Int)=R) (ht:0≤t∧t<R):Ag R (upd σ t x) (rs.set t.toNat x):=fun r h0 h1=>by
 rw [cC]
 by_cases hr:r=t
 · subst hr
   rw [uA,aF rfl,aF (by omega)];rfl
 rw [tN _ _ hr,aD (by omega)];exact h r h0 h1
theorem Ow {R:Int}:∀ (l:List Sl.Instr) (σ σ':Int→Int) (rs:List Int),(∀ i∈l,sP i R=true)→(rs.length:Int)=R→Ag R σ rs→vH l σ=some σ'→∃ rs',Vg l rs=some rs'∧(rs'.length:Int)=R∧Ag R σ' rs'
 | [],σ,σ',rs,_,hl,h,he=>by cases he;exact ⟨rs,rfl,hl,h⟩
 | i :: l,σ,σ',rs,hm,hl,h,he=>by
   have hmi:=hm i bF
   obtain ⟨m1,m2,m3⟩:=tE hmi
   obtain ⟨x,hx,he2⟩:=pM.1 (show (MT i σ).bind (fun x=>vH l (upd σ i.to x))=some σ' from he)
   obtain ⟨rs',g1,g2,g3⟩:=Ow l (upd σ i.to x) σ' (rs.set i.to.toNat x) (fun j hj=>hm j (aY _ hj)) (by rw [aG];exact hl) (XB h hl m2) he2
   refine ⟨rs',?_,g2,g3⟩
   show (wA i rs).bind (fun x=>Vg l (rs.set i.to.toNat x))=some rs'
   rw [←SN hmi h,hx]
   exact g1
theorem Lz (m:Nat) (v:Nat→Int):∀ (l:List R2) (k:Nat) (σ:Int→Int),(∀ p∈l,Int.gcd p.a p.b≠0)→(∀ i,i<l.length→σ ((k+i:Nat):Int)=(Int.gcd (l[i]?.getD default).a (l[i]?.getD default).b:Int) ^ m*v (k+i))→
 ∃ σ',vH (zX m l k) σ=some σ'∧(∀ i,i<l.length→σ' ((k+i:Nat):Int)=v (k+i))∧∀ r:Int,r<k→σ' r=σ r
 | [],k,σ,_,_=>⟨σ,rfl,fun i h=>by simp at h,fun _ _=>rfl⟩
 | p :: l,k,σ,hg,h=>by
   have h0:=h 0 tR
   obtain ⟨σ',a1,a2,a3⟩:=Lz m v l (k+1) (upd σ (k:Int) (v k)) (fun q hq=>hg q (aY _ hq)) (fun i hi=>by
    have:=h (i+1) Wy
    rw [tN _ _ sE,show k+1+i=k+(i+1) by omega]
    exact this)
   refine ⟨σ',tG (Sj (k:Int) (Int.gcd p.a p.b:Int) (by have:=hg p bF;omega) m σ (v k) h0) a1,fun i hi=>?_,fun r hr=>?_⟩
   · cases i with
     | zero =>
       show σ' ((k+0:Nat):Int)=v (k+0)
       rw [jU,a3 _ sE,uA]
     | succ i =>
       rw [aW] at hi
       have:=a2 i sE
       rw [show k+1+i=k+(i+1) by omega] at this
       exact this
   rw [a3 r sE,tN _ _ sE]
theorem NA {l:List R2} {o:List Int} {f:List Int} (hR:tL l) (ho:Ct o l.length) (hf:f.length=l.length):xH (sR l o) (l.map fun p=>ev f p.a p.b)=some f:=by
 have hg:=Km hR ho
 have hw:=Zj hR ho.2.1
 have hl:=hR.1
 have hok:∀ i,i<l.length→Od (l[i]?.getD default):=hR.2.2.1
 have hokm:∀ p∈l,Od p:=fun p hp=>by
  obtain ⟨i,hi,rfl⟩:=fL.1 hp
  have:=hok i hi
  rw [aA hi] at this
  exact this
 generalize hrs:tZ (sR l o) (l.map fun p=>ev f p.a p.b)=rs
 have hzl:(l.map fun p=>ev f p.a p.b).length=l.length:=aP _
 have hregs:(sR l o).regs=3*l.length+1:=rfl
 have hrl:(rs.length:Int)=3*l.length+1:=by
  rw [←hrs];unfold tZ
  rw [aC,aI,hzl,hregs];omega
 have hr0:∀ i,i<l.length→rs[i]?.getD 0=ev f (l[i]?.getD default).a (l[i]?.getD default).b:=fun i hi=>by
  rw [←hrs];unfold tZ
  rw [bB (by rw [hzl];exact hi),bN,aA hi];rfl
 obtain ⟨c,f',hcf⟩:∃ c f',f=c :: f':=by
  cases f with
  | nil=>rw [cH] at hf;omega
  | cons c f'=>exact ⟨c,f',rfl⟩
 have hfl:f'.length=l.length - 1:=by rw [hcf,aW] at hf;omega
 obtain ⟨σ1,a1,a2,a3⟩:=Lz (l.length - 1) (fun i=>ev f (uF (l.map tC) (i:Int)).a (uF (l.map tC) (i:Int)).b) l 0 (fun r=>rs[r.toNat]?.getD 0) (fun p hp=>by have:=Ee (hokm p hp);omega) (fun i hi=>by
  simp only [dC]
  rw [aE,hr0 i hi,ES l sE sE,aE]
  obtain ⟨w1,w2,_⟩:=wT (hok i hi)
  have hgp:=Ee (hok i hi)
  generalize (l[i]?.getD default)=p at *
  have:=SI (g:=(Int.gcd p.a p.b:Int)) (tC p).a (tC p).b c f' sE
  rw [←w1,←w2,hfl,←hcf] at this
  exact this)
 have hv:∀ k∈o,σ1 k=ev f (uF (l.map tC) k).a (uF (l.map tC) k).b:=fun k hk=>by
  have h1:=ho.2.1 k hk
  have:=a2 k.toNat sE
  simp only [dC] at this
  rw [show ((k.toNat:Nat):Int)=k by omega] at this
  exact this
 have hol:=ho.1
 obtain ⟨σ2,b1,b2,b3⟩:=So (n:=l.length) (wh:=l.map tC) o f σ1 ho.2.2 (by intro e;rw [e,cH] at hol;omega) ho.2.1 sE (fun k hk=>⟨hw.cop k hk,hw.bez k hk⟩) hw.det sE hv
 obtain ⟨rs',c1,c2,c3⟩:=Ow (Ly l o) (fun r=>rs[r.toNat]?.getD 0) σ2 rs hg.fit hrl (fun r _ _=>rfl) (tG a1 b1)
 unfold xH
 rw [At _ _ _ (aH _),bC,hrs]
 show (Vg (Ly l o) rs).map (vK (sR l o))=some f
 rw [c1]
 show some (vK (sR l o) rs')=some f
 congr 1
 unfold vK sR
 simp only
 apply fB
 · rw [aP,aP,bS,hf]
 intro j g1 g2
 rw [fA,fA,iV,←c3 _ sE sE,b2 j g2]
 unfold co
 rw [aA g2];rfl
theorem Zm {n j:Nat} (h:j<n) (a b:Int):ev (tW n j) a b=a ^ j*b ^ (n - 1 - j):=EN a b n j h
theorem Zn {l:List R2} {o:List Int} (hR:tL l) (ho:Ct o l.length):tQ (sR l o) l:=by
 have hpo:(sR l o).outs.length=l.length:=by show ((List.range l.length).map _).length=_;rw [aP,bS]
 refine ⟨Gk hR ho,rfl,hpo,?_⟩
 have hul:∀ j,(tW l.length j).length=l.length:=fun j=>by unfold tW;rw [aG,aI]
 refine Eg (N:=l.length) (Gk hR ho) (by rw [Gh];rfl) (fun r hr=>?_) (by rw [aP,bS,hpo]) (fun r hr=>?_) fun j hj=>?_
 · unfold vJ at hr
   obtain ⟨p,hp,rfl⟩:=dJ.1 hr
   unfold wH;rw [aP,bS]
 · obtain ⟨i,hi,rfl⟩:=dJ.1 hr
   exact hul i
 have e1:Bq j (vJ l)=l.map fun p=>ev (tW l.length j) p.a p.b:=by
  unfold Bq vJ
  rw [iW]
  apply fT
  intro p hp
  show (wH p.a p.b l.length)[j]?.getD 0=_
  rw [Zm hj]
  unfold wH
  rw [bN,eR hj];rfl
 have e2:Bq j ((List.range l.length).map (tW l.length))=tW l.length j:=by
  apply fB
  · rw [yI,aP,bS,hul]
  intro i g1 g2
  rw [yI,aP,bS] at g1
  have e3:∀ (a b:Nat),b<l.length→(tW l.length a)[b]?.getD 0=if a=b then 1 else 0:=fun a b hb=>by
   unfold tW
   rw [cC,eL]
   by_cases hab:a=b
   · rw [aF hab,aF hab,aF (by rw [aI];omega)];rfl
   rw [aD hab,aD hab,aF hb];rfl
  have e4:=e3 i j hj
  have e5:=e3 j i g1
  rw [aA g2] at e5
  have e6:(Bq j ((List.range l.length).map (tW l.length)))[i]?.getD 0=(tW l.length i)[j]?.getD 0:=by
   rw [Ef,bN,eR g1];rfl
  rw [aA (by rw [yI,aP,bS];exact g1)] at e6
  simp only [dK] at e5 e6
  rw [e6,e4,e5]
  by_cases hij:i=j
  · rw [aF hij,aF hij.symm]
  rw [aD hij,aD (fun h=>hij h.symm)]
 rw [e1,e2]
 exact NA hR ho (hul j)
end Go.Proofs.YtfdcckcadfhpeaaGreatDoor
end
