/- uK of the proof (part 6): what the rows' text needs of the texts that lead to it. -/
import Derived.Test.YtngphgeghfdjbaaGreatDoorMBe
set_option linter.unusedVariables false
set_option linter.unusedSimpArgs false
set_option linter.unusedSectionVars false
set_option maxHeartbeats 4000000
noncomputable section
set_option maxRecDepth 100000
namespace Go.Proofs.YtngphgeghfdjbaaGreatDoor
open Go Go.Sl
structure PH where
 ins:Int
 regs:Int
 ac:Option Addr
 cn:Nat
 cc:Nat
 ao:Option Addr
 on:Nat
 oc:Nat
instance:Inhabited PH:=⟨⟨0,0,none,0,0,none,0,0⟩⟩
instance:Cells PH:=⟨4,fun x=>[.int .i64 x.ins,.int .i64 x.regs,.slice x.ac x.cn x.cc,.slice x.ao x.on x.oc],fun _=>rfl,fun _=>rfl⟩
def Iu (pn:Nat) (l:List PH):Bool:=l.any (fun p=>decide (80<p.regs)) || decide (600<(l.map (·.cn)).sum) || decide (15<pn)
theorem IJ {pn:Nat} {l:List PH} {k:Nat} (hk:k<l.length) (h:80<(l[k]?.getD default).regs):Iu pn l=true:=by
 have h2:l.any (fun p=>decide (80<p.regs))=true:=by
  rw [List.any_eq_true]
  rw [aB hk,hJ] at h
  exact ⟨l[k],dJ hk,cL h⟩
 unfold Iu
 rw [h2]
 rfl
theorem NR {pn:Nat} {l:List PH} (h:∀ p∈l,¬80<p.regs):Iu pn l=decide (600<(((l.map (·.cn)).sum:Nat):Int)∨15<(pn:Int)):=by
 have h2:l.any (fun p=>decide (80<p.regs))=false:=by
  rw [List.any_eq_false]
  intro p hp
  simpa using h p hp
 unfold Iu
 rw [h2,Bool.false_or]
 rw [Bool.eq_iff_iff]
 simp only [mB,aT]
 omega
theorem IK (x y z:PH) {C:Nat} (hx:x.cn≤C) (hy:y.cn≤C) (hz:z.cn≤C) (k:Nat):(([x,y,z]:List PH)[k]?.getD default).cn≤C:=by
 match k with
 | 0=>exact hx
 | 1=>exact hy
 | 2=>exact hz
 | k+3=>exact aU _
theorem DG (x y z:PH) {C:Nat} (hx:x.cn≤C) (hy:y.cn≤C) (hz:z.cn≤C) (k:Nat) (hk:k≤3):((([x,y,z]:List PH).take k).map (·.cn)).sum≤3*C:=by
 match k,hk with
 | 0,_=>exact aU _
 | 1,_=>show x.cn+0≤3*C;omega
 | 2,_=>show x.cn+(y.cn+0)≤3*C;omega
 | 3,_=>show x.cn+(y.cn+(z.cn+0))≤3*C;omega
theorem Xm (x y z:PH) (k:Nat) (hk:k<3):((([x,y,z]:List PH).take (k+1)).map (·.cn)).sum=((([x,y,z]:List PH).take k).map (·.cn)).sum+(([x,y,z]:List PH)[k]?.getD default).cn:=by
 match k,hk with
 | 0,_=>show x.cn+0=0+x.cn;omega
 | 1,_=>show x.cn+(y.cn+0)=x.cn+0+y.cn;omega
 | 2,_=>show x.cn+(y.cn+(z.cn+0))=x.cn+(y.cn+0)+z.cn;omega
theorem DH (x y z:PH) {q:PH→Prop} (k:Nat) (hk:k<3) (h:∀ p∈([x,y,z]:List PH).take k,q p) (h1:q (([x,y,z]:List PH)[k]?.getD default)):∀ p∈([x,y,z]:List PH).take (k+1),q p:=by
 intro p hp
 rw [dE,fI] at hp
 rcases hp with hp | hp
 · exact h p hp
 have hk':k<([x,y,z]:List PH).length:=hk
 rw [aB hk'] at hp h1
 have e:p=([x,y,z]:List PH)[k]:=by simpa using hp
 rw [e];exact h1
theorem c17 (G:Imm) (k1 k2:Int) (pa:Option Addr) (pn pc:Nat) (x y z:PH) (hx:x.cn≤1099511627776) (hy:y.cn≤1099511627776) (hz:z.cn≤1099511627776) :
 Does Tryz.prog 17 [.agg #[.int .i64 k1,.int .i64 k2,.slice pa pn pc,.int .i64 x.ins,.int .i64 x.regs,.slice x.ac x.cn x.cc,.slice x.ao x.on x.oc,.int .i64 y.ins,.int .i64 y.regs,.slice y.ac y.cn y.cc,.slice y.ao y.on y.oc,.int .i64 z.ins,.int .i64 z.regs,.slice z.ac z.cn z.cc,.slice z.ao z.on z.oc]] G [] (fun v G' Ho=>v=.bool (Iu pn [x,y,z])∧G'=G∧Ho=[]):=by
 refine D0 Tryz.func17 Tryz.ntmps17 fun w=>?_
 refine aK 2 [] ?_
 refine cV 0 fun b1=>?_
 refine aJ 12 [] ?_
 refine aN (eL 0 T.agg26 rfl rfl rfl rfl) ?_
 refine aA 1 [] ?_
 refine aN (eL 0 T.agg26 rfl rfl rfl rfl) ?_
 refine aA 1 [] ?_
 refine aN (eL 0 T.agg26 rfl rfl rfl rfl) ?_
 refine fF (α:=PH) 1 [⟨_,_,_,_,_,_,_,_⟩,⟨_,_,_,_,_,_,_,_⟩,⟨_,_,_,_,_,_,_,_⟩] rfl T.sl122 T.el26 rfl rfl rfl rfl rfl fun b2=>?_
 refine bJ 5 [] ?_
 refine gC (ι:=Nat×Nat) (fun (k,n)=>([(14,.int .i64 (k:Int)),(3,.int .i64 (n:Int)),(13,.int .i64 (↑(List.length [PH.mk (PH.ins x) (PH.regs x) (PH.ac x) (PH.cn x) (PH.cc x) (PH.ao x) (PH.on x) (PH.oc x),PH.mk (PH.ins y) (PH.regs y) (PH.ac y) (PH.cn y) (PH.cc y) (PH.ao y) (PH.on y) (PH.oc y),PH.mk (PH.ins z) (PH.regs z) (PH.ac z) (PH.cn z) (PH.cc z) (PH.ao z) (PH.on z) (PH.oc z)]):Int)),(12,.slice (some (Addr.mk b2 0 none)) (List.length [PH.mk (PH.ins x) (PH.regs x) (PH.ac x) (PH.cn x) (PH.cc x) (PH.ao x) (PH.on x) (PH.oc x),PH.mk (PH.ins y) (PH.regs y) (PH.ac y) (PH.cn y) (PH.cc y) (PH.ao y) (PH.on y) (PH.oc y),PH.mk (PH.ins z) (PH.regs z) (PH.ac z) (PH.cn z) (PH.cc z) (PH.ao z) (PH.on z) (PH.oc z)]) 3),(1,.pointer (some ⟨b1,0,none⟩))],[(1,some b2,tK (α:=PH) 26 ([PH.mk (PH.ins x) (PH.regs x) (PH.ac x) (PH.cn x) (PH.cc x) (PH.ao x) (PH.on x) (PH.oc x),PH.mk (PH.ins y) (PH.regs y) (PH.ac y) (PH.cn y) (PH.cc y) (PH.ao y) (PH.on y) (PH.oc y),PH.mk (PH.ins z) (PH.regs z) (PH.ac z) (PH.cn z) (PH.cc z) (PH.ao z) (PH.on z) (PH.oc z)]) ([])),(0,some b1,.cells #[.int .i64 k1,.int .i64 k2,.slice pa pn pc,.int .i64 (PH.ins x),.int .i64 (PH.regs x),.slice (PH.ac x) (PH.cn x) (PH.cc x),.slice (PH.ao x) (PH.on x) (PH.oc x),.int .i64 (PH.ins y),.int .i64 (PH.regs y),.slice (PH.ac y) (PH.cn y) (PH.cc y),.slice (PH.ao y) (PH.on y) (PH.oc y),.int .i64 (PH.ins z),.int .i64 (PH.regs z),.slice (PH.ac z) (PH.cn z) (PH.cc z),.slice (PH.ao z) (PH.on z) (PH.oc z)] 28)])) (fun (k,n)=>k≤3∧n=((([x,y,z]:List PH).take k).map (·.cn)).sum∧∀ p∈([x,y,z]:List PH).take k,¬80<p.regs) (fun (k,n)=>3 - k) ((0,0)) (⟨aU _,rfl,fun p h=>absurd h tS⟩) fun ⟨k,n⟩=>fun hk=>?_
 obtain ⟨hk3,hn,hno⟩:=hk
 refine cF 6 [] ?_
 refine dN (fun hc1=>?_) fun hc1=>?_
 refine aK 6 [] ?_
 refine aN (dI T.sl122 rfl rfl sV) ?_
 rotate_left
 refine aK 10 [] ?_
 apply bZ 5 29 34 rfl
 intro hg1
 refine aA 9 [0] ?_
 exact cU 5 0
 intro hg1
 refine aA 5 [] ?_
 exact cU 5 0
 refine aW 4 [] ?_
 refine bO ?_
 rotate_left
 · have hk2:k<3:=by
    have h:(k:Int)<3:=hc1
    omega
   have hcn:=IK x y z hx hy hz (k:Int).toNat
   have hs3:n≤3*1099511627776:=by rw [hn];exact DG x y z hx hy hz k hk3
   refine aN (On (α:=PH) (xs:=[x,y,z]) (junk:=[]) 1 T.agg26 rfl rfl (show 0≤(k:Int)∧(k:Int)<(([x,y,z]:List PH).length:Int) from ⟨by omega,hc1⟩)) ?_
   refine aQ 2 rfl T.zero26 fun b3=>?_
   refine bJ 20 [2,2,2] ?_
   refine dN (fun hc2=>?_) fun hc2=>?_
   refine bE 11 [] ?_
   refine bO ?_
   rotate_left
   refine bE 7 [] ?_
   rotate_left
   · exact ⟨congrArg Value.bool (IJ (l:=[x,y,z]) (k:=k) hk2 hc2).symm,rfl,rfl⟩
   refine cZ 14 rfl (show _=Value.int .i64 ((k+1:Nat):Int) from rfl) ?_
   refine cZ 3 rfl (show _=Value.int .i64 ((n+([x,y,z][(k:Int).toNat]?.getD default).cn:Nat):Int) from rfl) ?_
   refine cS ((k+1,n+([x,y,z][(k:Int).toNat]?.getD default).cn)) ?_ ?_
   · exact ⟨hk2,by rw [hn];exact (Xm x y z k hk2).symm,DH x y z (q:=fun p=>¬80<p.regs) k hk2 hno hc2⟩
   show 3 - (k+1)<3 - k
   omega
 have hk2:k=3:=by
  have h:¬(k:Int)<3:=hc1
  omega
 subst hk2
 rw [show Iu pn [x,y,z]=_ from NR (pn:=pn) (l:=[x,y,z]) hno,hn]
 exact ⟨rfl,rfl,rfl⟩
def uY (k:Nat):List (List Int):=(List.range k).map (uS k)
theorem zB (k:Nat):(uY k).length=k:=by unfold uY;rw [bX,iJ]
theorem DI (k j:Nat):(uS k j).length=k:=by unfold uS;rw [aH,aE]
theorem Bv (k:Nat):Even 4 k (uY k):=fun zs hz=>by
 unfold uY at hz
 obtain ⟨j,hj,rfl⟩:=dY.1 hz
 exact ⟨DI k j,Dq k j 4 sV⟩
def Pe (p:PV):Prop:=∀ i∈p.code,¬(i.op=6∨i.op=8)
instance (p:PV):Decidable (Pe p):=inferInstanceAs (Decidable (∀ i∈p.code,_))
theorem IL {i:Sl.Instr} (rs:List (List Int)) (h:¬(i.op=6∨i.op=8)):∃ x,yF i rs=some x:=by
 unfold yF
 by_cases h1:i.op=2
 · exact ⟨_,aR h1⟩
 by_cases h2:i.op=3
 · exact ⟨_,by simp only [h1,eS];rw [aR h2]⟩
 by_cases h3:i.op=4
 · exact ⟨_,by simp only [h1,h2,eS];rw [aR h3]⟩
 by_cases h4:i.op=5∨i.op=7
 · exact ⟨_,by simp only [h1,h2,h3,eS];rw [aR h4]⟩
 exact ⟨_,by simp only [h1,h2,h3,h4,h,eS];rfl⟩
theorem Lk {p:PV} (h:Pe p) (gs:List (List Int)):∀ k:Nat,k≤p.code.length→∃ rs,yD p gs k=some rs
 | 0,_=>⟨_,rfl⟩
 | k+1,hk=>by
   obtain ⟨rs,h1⟩:=Lk h gs k sV
   have hm:p.code[(k:Int).toNat]?.getD default∈p.code:=by
    rw [aF,aB sV];exact dJ _
   obtain ⟨x,h2⟩:=IL rs (h _ hm)
   exact ⟨_,Dl (x:=rs) h1 h2⟩
theorem Fe {p:PV} (h:Pe p) (gs:List (List Int)):∃ os,tR p gs=some os:=by
 obtain ⟨rs,h1⟩:=Lk h gs _ (aG _)
 exact ⟨_,by unfold tR;rw [h1];rfl⟩
def vQ (p:PV) (k:Int) (l:List R2):Prop:=p.ins=k∧p.outs.length=l.length∧Pe p∧tR p (uY k.toNat)=some (l.map fun q=>vI q.a q.b k.toNat)
instance (p:PV) (k:Int) (l:List R2):Decidable (vQ p k l):=inferInstanceAs (Decidable (_∧_))
theorem Us {os:List (List Int)} {l:List R2} {k:Nat} (hl:os.length=l.length):(os=l.map fun q=>vI q.a q.b k)↔∀ t:Nat,t<l.length→os[t]?.getD []=vI (l[t]?.getD default).a (l[t]?.getD default).b k:=by
 constructor
 · intro h t ht
   rw [h,cK,aB ht];rfl
 intro h
 refine fL fun i=>?_
 rcases aM i l.length with h1 | h1
 · have:=h i h1
   rw [aB sV,hJ] at this
   rw [aB sV,cK,this,aB h1];rfl
 rw [cQ sV,cQ (by rw [bX];omega)]
theorem Zv {xs ys:List Int} {k:Nat} (h1:xs.length=k) (h2:ys.length=k):xs=ys↔∀ t:Nat,t<k→xs[t]?.getD 0=ys[t]?.getD 0:=by
 constructor
 · intro h t _;rw [h]
 intro h
 refine fL fun i=>?_
 rcases aM i k with h3 | h3
 · have:=h i h3
   rw [aB sV,aB sV] at this ⊢
   exact congrArg some this
 rw [cQ sV,cQ sV]
theorem Ff (a b:Int) (k:Nat):(vI a b k).length=k:=by unfold vI;rw [bX,iJ]
def uK (k:Int):Prop:=1≤k∧k≤8
instance (k:Int):Decidable (uK k):=inferInstanceAs (Decidable (_∧_))
def Bw (l:List R2):Prop:=∀ i:Nat,i<l.length→uO (l[i]?.getD default).a (l[i]?.getD default).b
def zC (l:List R2):Prop:=∃ i:Nat,i<l.length∧((l[i]?.getD default).a=0∧(l[i]?.getD default).b=0)
open Classical in
def tY (k1 k2:Int) (l:List R2):Int:=
 if ¬(uK k1∧uK k2) then 70 else if ¬Bw l then 70 else if ¬((l.length:Int)=k1+k2 - 1) then 71 else if zC l∨Twin l then 71 else 0
theorem Aq {k1 k2:Int} {l:List R2} (h:¬(uK k1∧uK k2)):tY k1 k2 l=70:=by unfold tY;rw [aR h]
theorem Ll {k1 k2:Int} {l:List R2} (h:¬Bw l):tY k1 k2 l=70:=by
 unfold tY
 by_cases h1:¬(uK k1∧uK k2)
 · rw [aR h1]
 rw [aL h1,aR h]
theorem Hq {k1 k2:Int} {l:List R2} (h1:uK k1∧uK k2) (h2:Bw l) (h:¬((l.length:Int)=k1+k2 - 1)):tY k1 k2 l=71:=by
 unfold tY;rw [aL (fun h=>h h1),aL (fun h=>h h2),aR h]
theorem zY {k1 k2:Int} {l:List R2} (h1:uK k1∧uK k2) (h2:Bw l) (h:zC l∨Twin l):tY k1 k2 l=71:=by
 unfold tY;rw [aL (fun h=>h h1),aL (fun h=>h h2)]
 by_cases h3:¬((l.length:Int)=k1+k2 - 1)
 · rw [aR h3]
 rw [aL h3,aR h]
theorem Ut {k1 k2:Int} {l:List R2} (h1:uK k1∧uK k2) (h2:Bw l) (h3:(l.length:Int)=k1+k2 - 1) (h:¬(zC l∨Twin l)):tY k1 k2 l=0:=by
 unfold tY;rw [aL (fun h=>h h1),aL (fun h=>h h2),aL (fun h=>h h3),aL h]
theorem Bx {k1 k2:Int} {l:List R2} (h:tY k1 k2 l=0):uK k1∧uK k2∧(l.length:Int)=k1+k2 - 1∧wG l:=by
 by_cases h1:uK k1∧uK k2
 · by_cases h2:Bw l
   · by_cases h3:(l.length:Int)=k1+k2 - 1
     · by_cases h4:zC l∨Twin l
       · rw [zY h1 h2 h4] at h;omega
       refine ⟨h1.1,h1.2,h3,?_,?_,fun i hi=>⟨h2 i hi,fun h5=>h4 (.inl ⟨i,hi,h5⟩)⟩,fun h5=>h4 (.inr h5)⟩
       · have:=h1.1.1;have:=h1.2.1;omega
       have:=h1.1.2;have:=h1.2.2;omega
     rw [Hq h1 h2 h3] at h;omega
   rw [Ll h2] at h;omega
 rw [Aq h1] at h;omega
open Classical in
def uG (k1 k2:Int) (l:List R2) (x y z:PV):Int×Int:=
 if ¬tY k1 k2 l=0 then (0,tY k1 k2 l)
 else if ¬tG x=true then (1,80) else if ¬vQ x k1 l then (1,180)
 else if ¬tG y=true then (2,80) else if ¬vQ y k2 l then (2,180)
 else if ¬tG z=true then (3,80) else if ¬vB z l then (3,180) else (0,0)
end Go.Proofs.YtngphgeghfdjbaaGreatDoor
namespace Go.Proofs.YtngphgeghfdjbaaGreatDoor
open Go Go.Sl Go.ChangeShapes Go.WideShapes Go.RowKit Go.Joins
theorem IM {H:Type} (d:DataW H):1≤Rows.uptoBulk d:=by
 cases d with
 | lit l=>cases l <;> simp [Rows.uptoBulk]
 | nil=>simp [Rows.uptoBulk]
 | ptr d=>simp [Rows.uptoBulk]
 | slice elems spare=>simp [Rows.uptoBulk]
 | agg parts=>simp [Rows.uptoBulk]
 | iface t d=>simp [Rows.uptoBulk]
 | map tP=>simp [Rows.uptoBulk]
 | held h=>simp [Rows.uptoBulk]
theorem IN {H:Type} (l:List (DataW H)):l.length≤Rows.uptoBulkAll l:=by
 induction l with
 | nil=>simp [Rows.uptoBulkAll]
 | cons x r ih=>have:=IM x;simp only [Rows.uptoBulkAll,bQ];omega
theorem Dr {H:Type} (l r:List (DataW H)):l.length≤Rows.uptoBulk (.slice l r):=by
 have:=IN l
 simp only [Rows.uptoBulk];omega
theorem Ln:Tryz.prog.underlying 3=some (.int .i64):=tC
theorem Ds:Tryz.prog.cellsOf 3=1:=tC
theorem NS:Tryz.prog.cellsOf 22=1:=tC
theorem NT:Tryz.prog.cellsOf 23=1:=tC
theorem NU:Tryz.prog.cellsOf 24=1:=tC
theorem Rl:Tryz.prog.cellsOf 26=4:=tC
theorem NV:Tryz.prog.cellsOf 28=15:=tC
theorem Zw:Tryz.prog.cellsOf 51=2:=tC
theorem Zx:Tryz.prog.cellsOf 211=5:=tC
section
variable {H:Type} {enc:TypeId×Value→H}
theorem QR {P:Program} {W:World} {E Ti:TypeId} {f0 f1:Field} (hi:P.underlying Ti=some (.int .i64)) (hs:P.underlying E=some (.struct #[f0,f1]))
 (h0:f0.type=Ti∧f0.offset=0) (h1:f1.type=Ti∧f1.offset=1) (hc:P.cellsOf Ti=1) (hcE:P.cellsOf E=2) :
 XD (α:=R2) enc P W E (fun _ _=>True):=fun n cs x h=>by
 obtain ⟨xs,m,_,_,hl,hxl,hf⟩:=pO hs h
 rw [hcE] at hl
 match cs,hl with
 | [v0,v1],_ =>
   have hxl':xs.length=2:=hxl
   match xs,hxl' with
   | [y0,y1],_ =>
     have k0:=hf 0 f0 rfl;have k1:=hf 1 f1 rfl
     rw [h0.1,h0.2,hc] at k0;rw [h1.1,h1.2,hc] at k1
     obtain ⟨a0,e0,_,_⟩:=gI hi k0
     obtain ⟨a1,e1,_,_⟩:=gI hi k1
     simp at e0 e1
     exact ⟨⟨a0,a1⟩,by rw [e0,e1];rfl,trivial⟩
theorem DJ {W:World} {n:Nat} {v:Value} {d:DataW H×List MemPlace} (h:DataW.trod enc Tryz.prog W 0 (fun _=>true) true n 22 [v]=some d) :
 ∃ (a:Option Addr) (c:Nat) (l:List R2),v=.slice a l.length c∧Arr (xK W) a l∧l.length≤c∧l.length≤Rows.uptoBulk d.1:=by
 obtain ⟨a,c,xs,e,hA,hl,hd⟩:=Kz (α:=R2) Tryz.underlying22 Zw tF (QR Ln Tryz.underlying51 ⟨rfl,rfl⟩ ⟨rfl,rfl⟩ Ds Zw) h
 simp only [iL,and_true] at e
 refine ⟨a,c,xs,e,hA,hl,?_⟩
 rcases hd with ⟨_,rfl⟩ | ⟨l,r,e,hl,_⟩
 · exact aU _
 rw [e,←hl];exact Dr l r
theorem Dt {W:World} {n:Nat} {v0 v1 v2 v3:Value} {y:DataW H×List MemPlace} (h:DataW.trod enc Tryz.prog W 0 (fun _=>true) true n 26 [v0,v1,v2,v3]=some y) :
 ∃ (p:PV) (ac ao:Option Addr) (cc co:Nat),[v0,v1,v2,v3]=[.int .i64 p.ins,.int .i64 p.regs,.slice ac p.code.length cc,.slice ao p.outs.length co]∧Arr (xK W) ac p.code∧Arr (xK W) ao p.outs∧
  p.code.length≤Rows.uptoBulk y.1∧p.outs.length≤Rows.uptoBulk y.1:=by
 obtain ⟨xs,m,_,e,hl,hxl,hf⟩:=pO Tryz.underlying26 h
 have hxl':xs.length=4:=hxl
 match xs,hxl' with
 | [y0,y1,y2,y3],_ =>
   have h0:DataW.trod enc Tryz.prog W 0 (fun _=>true) true m 3 (List.take (Tryz.prog.cellsOf 3) (List.drop 0 [v0,v1,v2,v3]))=some y0:=hf 0 _ rfl
   have h1:DataW.trod enc Tryz.prog W 0 (fun _=>true) true m 3 (List.take (Tryz.prog.cellsOf 3) (List.drop 1 [v0,v1,v2,v3]))=some y1:=hf 1 _ rfl
   have h2:DataW.trod enc Tryz.prog W 0 (fun _=>true) true m 23 (List.take (Tryz.prog.cellsOf 23) (List.drop 2 [v0,v1,v2,v3]))=some y2:=hf 2 _ rfl
   have h3:DataW.trod enc Tryz.prog W 0 (fun _=>true) true m 24 (List.take (Tryz.prog.cellsOf 24) (List.drop 3 [v0,v1,v2,v3]))=some y3:=hf 3 _ rfl
   rw [Ds] at h0
   rw [Ds] at h1
   rw [NT] at h2
   rw [NU] at h3
   obtain ⟨k0,e0,_,_⟩:=gI Ln h0
   obtain ⟨k1,e1,_,_⟩:=gI Ln h1
   obtain ⟨a2,c2,xs,e2,ha2,hl2,hd2⟩:=Kz (α:=Sl.Instr) Tryz.underlying23 Zx tF (CJ Ln Tryz.underlying211 ⟨rfl,rfl⟩ ⟨rfl,rfl⟩ ⟨rfl,rfl⟩ ⟨rfl,rfl⟩ ⟨rfl,rfl⟩ Ds Zx) h2
   obtain ⟨a3,c3,ys,e3,ha3,hl3,hd3⟩:=Kz (α:=Int) Tryz.underlying24 Ds tF (MQ Ln) h3
   replace e0:[v0]=[.int .i64 k0]:=e0
   replace e1:[v1]=[.int .i64 k1]:=e1
   replace e2:[v2]=[.slice a2 xs.length c2]:=e2
   replace e3:[v3]=[.slice a3 ys.length c3]:=e3
   simp only [iL,and_true] at e0 e1 e2 e3
   subst e0 e1 e2 e3
   have b2:xs.length≤Rows.uptoBulk y2.1:=by
    rcases hd2 with ⟨_,rfl⟩ | ⟨l,r,e,hl,_⟩
    · exact aU _
    rw [e,←hl];exact Dr l r
   have b3:ys.length≤Rows.uptoBulk y3.1:=by
    rcases hd3 with ⟨_,rfl⟩ | ⟨l,r,e,hl,_⟩
    · exact aU _
    rw [e,←hl];exact Dr l r
   refine ⟨⟨k0,k1,xs,ys⟩,a2,a3,c2,c3,rfl,ha2,ha3,?_,?_⟩
   · rw [e]
     simp only [Rows.uptoBulk,Rows.uptoBulkAll,bY,jH]
     omega
   rw [e]
   simp only [Rows.uptoBulk,Rows.uptoBulkAll,bY,jH]
   omega
theorem DK {W:World} {r:Reach} {b0:Nat} {v:Value} {d:DataW H} {ps:List MemPlace} (hv:Value.okWide Tryz.prog W r b0 28 v) (h:DataW.Trod enc Tryz.prog W 0 (fun _=>true) true 28 v d ps) :
 ∃ (k1 k2:Int) (pl:List R2) (pa:Option Addr) (pc:Nat) (xp yp zp:PV) (xac xao yac yao zac zao:Option Addr) (xcc xoc ycc yoc zcc zoc:Nat),
  v=.agg #[.int .i64 k1,.int .i64 k2,.slice pa pl.length pc,.int .i64 xp.ins,.int .i64 xp.regs,.slice xac xp.code.length xcc,.slice xao xp.outs.length xoc,.int .i64 yp.ins,.int .i64 yp.regs,.slice yac yp.code.length ycc,.slice yao yp.outs.length yoc,.int .i64 zp.ins,.int .i64 zp.regs,.slice zac zp.code.length zcc,.slice zao zp.outs.length zoc]∧Arr (xK W) pa pl∧pl.length≤pc∧pl.length≤Rows.uptoBulk d∧
  Arr (xK W) xac xp.code∧Arr (xK W) xao xp.outs∧xp.code.length≤Rows.uptoBulk d∧xp.outs.length≤Rows.uptoBulk d∧Arr (xK W) yac yp.code∧Arr (xK W) yao yp.outs∧yp.code.length≤Rows.uptoBulk d∧yp.outs.length≤Rows.uptoBulk d∧Arr (xK W) zac zp.code∧Arr (xK W) zao zp.outs∧zp.code.length≤Rows.uptoBulk d∧zp.outs.length≤Rows.uptoBulk d:=by
 obtain ⟨cs,rfl,hsz⟩:=okWide_struct Tryz.underlying28 hv
 obtain ⟨n,h⟩:=h
 rw [NV] at hsz
 obtain ⟨a0,a1,a2,a3,a4,a5,a6,a7,a8,a9,a10,a11,a12,a13,a14,rfl⟩:∃ a0 a1 a2 a3 a4 a5 a6 a7 a8 a9 a10 a11 a12 a13 a14:Value,cs=#[a0,a1,a2,a3,a4,a5,a6,a7,a8,a9,a10,a11,a12,a13,a14]:=by
  match cs,hsz with
  | ⟨[a0,a1,a2,a3,a4,a5,a6,a7,a8,a9,a10,a11,a12,a13,a14]⟩,_=>exact ⟨a0,a1,a2,a3,a4,a5,a6,a7,a8,a9,a10,a11,a12,a13,a14,rfl⟩
 obtain ⟨xs,m,_,e,hl,hxl,hf⟩:=pO Tryz.underlying28 h
 have hxl':xs.length=6:=hxl
 match xs,hxl' with
 | [y0,y1,y2,y3,y4,y5],_ =>
   have h0:DataW.trod enc Tryz.prog W 0 (fun _=>true) true m 3 (List.take (Tryz.prog.cellsOf 3) (List.drop 0 [a0,a1,a2,a3,a4,a5,a6,a7,a8,a9,a10,a11,a12,a13,a14]))=some y0:=hf 0 _ rfl
   have h1:DataW.trod enc Tryz.prog W 0 (fun _=>true) true m 3 (List.take (Tryz.prog.cellsOf 3) (List.drop 1 [a0,a1,a2,a3,a4,a5,a6,a7,a8,a9,a10,a11,a12,a13,a14]))=some y1:=hf 1 _ rfl
   have h2:DataW.trod enc Tryz.prog W 0 (fun _=>true) true m 22 (List.take (Tryz.prog.cellsOf 22) (List.drop 2 [a0,a1,a2,a3,a4,a5,a6,a7,a8,a9,a10,a11,a12,a13,a14]))=some y2:=hf 2 _ rfl
   have h3:DataW.trod enc Tryz.prog W 0 (fun _=>true) true m 26 (List.take (Tryz.prog.cellsOf 26) (List.drop 3 [a0,a1,a2,a3,a4,a5,a6,a7,a8,a9,a10,a11,a12,a13,a14]))=some y3:=hf 3 _ rfl
   have h4:DataW.trod enc Tryz.prog W 0 (fun _=>true) true m 26 (List.take (Tryz.prog.cellsOf 26) (List.drop 7 [a0,a1,a2,a3,a4,a5,a6,a7,a8,a9,a10,a11,a12,a13,a14]))=some y4:=hf 4 _ rfl
   have h5:DataW.trod enc Tryz.prog W 0 (fun _=>true) true m 26 (List.take (Tryz.prog.cellsOf 26) (List.drop 11 [a0,a1,a2,a3,a4,a5,a6,a7,a8,a9,a10,a11,a12,a13,a14]))=some y5:=hf 5 _ rfl
   rw [Ds] at h0
   rw [Ds] at h1
   rw [NS] at h2
   rw [Rl] at h3
   rw [Rl] at h4
   rw [Rl] at h5
   obtain ⟨k1,e0,_,_⟩:=gI Ln h0
   obtain ⟨k2,e1,_,_⟩:=gI Ln h1
   obtain ⟨pa,pc,pl,e2,hpa,hpc,hpb⟩:=DJ (v:=a2) h2
   obtain ⟨xp,xac,xao,xcc,xoc,e3,hxc,hxo,hx1,hx2⟩:=Dt (v0:=a3) (v1:=a4) (v2:=a5) (v3:=a6) h3
   obtain ⟨yp,yac,yao,ycc,yoc,e4,hyc,hyo,hy1,hy2⟩:=Dt (v0:=a7) (v1:=a8) (v2:=a9) (v3:=a10) h4
   obtain ⟨zp,zac,zao,zcc,zoc,e5,hzc,hzo,hz1,hz2⟩:=Dt (v0:=a11) (v1:=a12) (v2:=a13) (v3:=a14) h5
   replace e0:[a0]=[.int .i64 k1]:=e0
   replace e1:[a1]=[.int .i64 k2]:=e1
   simp only [iL,and_true] at e0 e1 e3 e4 e5
   obtain ⟨e30,e31,e32,e33⟩:=e3
   obtain ⟨e40,e41,e42,e43⟩:=e4
   obtain ⟨e50,e51,e52,e53⟩:=e5
   subst e0 e1 e2 e30 e31 e32 e33 e40 e41 e42 e43 e50 e51 e52 e53
   have ed:d=.agg [y0.1,y1.1,y2.1,y3.1,y4.1,y5.1]:=(Prod.mk.inj e).1
   have hb:Rows.uptoBulk y2.1≤Rows.uptoBulk d∧Rows.uptoBulk y3.1≤Rows.uptoBulk d∧Rows.uptoBulk y4.1≤Rows.uptoBulk d∧Rows.uptoBulk y5.1≤Rows.uptoBulk d:=by
    rw [ed]
    simp only [Rows.uptoBulk,Rows.uptoBulkAll]
    omega
   exact ⟨k1,k2,pl,pa,pc,xp,yp,zp,xac,xao,yac,yao,zac,zao,xcc,xoc,ycc,yoc,zcc,zoc,rfl,hpa,hpc,by omega,hxc,hxo,by omega,by omega,hyc,hyo,by omega,by omega,hzc,hzo,by omega,by omega⟩
end
end Go.Proofs.YtngphgeghfdjbaaGreatDoor
namespace Go.Proofs.YtngphgeghfdjbaaGreatDoor
open Go Go.Sl
def ev:List Int→Int→Int→Int
 | [],_,_=>0
 | c :: f,a,b=>c*b ^ f.length+a*ev f a b
def QS (l:List R2):Nat:=(l.filter fun p=>decide (Int.gcd p.a p.b≠1)).length
def PI (i:Sl.Instr):Prop:=i.op=6∨i.op=8
instance (i:Sl.Instr):Decidable (PI i):=inferInstanceAs (Decidable (_∨_))
def UA (i:Sl.Instr):Prop:=(i.op=6∨i.op=5)∧(512<i.c∨i.c < -512)
instance (i:Sl.Instr):Decidable (UA i):=inferInstanceAs (Decidable (_∧_))
def UB (c:List Sl.Instr):Nat:=(c.filter fun i=>decide (PI i)).length
def ZU (p:PV) (l:List R2):Prop:=(∀ i∈p.code,¬UA i)∧(UB p.code:Int)≤(l.length:Int)*((l.length:Int) - 1) / 2+((l.length:Int) - 1)*(QS l:Int)
instance (p:PV) (l:List R2):Decidable (ZU p l):=inferInstanceAs (Decidable (_∧_))
def QT (a b s:Int):Bool:=((Int.gcd a b:Int) - s*a).tmod b == 0
def UC (a b:Int):Nat→Nat→Nat
 | 0,k=>k
 | n+1,k=>if QT a b (k:Int) || QT a b (-(k:Int)) then k else UC a b n (k+1)
def QU (a b:Int):Nat:=UC a b 16 0
def QV (a b:Int):Int:=if b=0 then a.tdiv (Int.gcd a b) else if QT a b (QU a b:Int) then (QU a b:Int) else -(QU a b:Int)
def UD (a b:Int):Int:=if b=0 then 0 else ((Int.gcd a b:Int) - QV a b*a).tdiv b
def upd (σ:Int→Int) (r v:Int):Int→Int:=fun x=>if x=r then v else σ x
def Sm (wh:List R2) (k:Int):R2:=wh[k.toNat]?.getD default
def ZV (wh:List R2) (k i:Int):Int:=(Sm wh k).a*(Sm wh i).b - (Sm wh i).a*(Sm wh k).b
def nxP (u v:Int) (C:Nat→Int) (j:Nat):Int:=v*C j+u*(if j=0 then 0 else C (j - 1))
def Je (u v:Int):Nat→(Nat→Int)→Nat→Int
 | 0,C=>C
 | m+1,C=>Je u v m (nxP u v C)
def co (f:List Int) (j:Nat):Int:=f[j]?.getD 0
def QW (o:List Int) (n:Nat):Prop:=o.length=n∧(∀ x∈o,0≤x∧x<n)∧o.Nodup
instance (o:List Int) (n:Nat):Decidable (QW o n):=inferInstanceAs (Decidable (_∧_))
structure Good (R:Int) (L d:Nat) (l:List Sl.Instr):Prop where
 fit:∀ i∈l,xF i R=true
 len:l.length≤L
 dv:UB l≤d
structure Wh (wh:List R2) (o:List Int):Prop where
 uO:∀ k∈o,uO (Sm wh k).a (Sm wh k).b
 KS:∀ k∈o,Int.gcd (Sm wh k).a (Sm wh k).b=1
 bez:∀ k∈o,QV (Sm wh k).a (Sm wh k).b*(Sm wh k).a+UD (Sm wh k).a (Sm wh k).b*(Sm wh k).b=1
 Au:∀ k∈o,(QV (Sm wh k).a (Sm wh k).b).natAbs+(UD (Sm wh k).a (Sm wh k).b).natAbs≤17
 det:∀ k∈o,∀ i∈o,k≠i→ZV wh k i≠0
theorem IP (G:Imm) (c:Int) (h:0≤c∧c≤64) :
 Does Tryz.prog 317 [.int .i64 c] G [] (fun v G' Ho=>∃ r:IV,v=.agg (Cells.enc r).toArray∧Big G' r (p2 c.toNat)∧Ho=[]):=by
 obtain ⟨n,rfl⟩:=Int.eq_ofNat_of_zero_le h.1
 rw [aF]
 exact ZF G n sV
section
attribute [local irreducible] sX pb tQ tN p2 cst
end
theorem NW:pw 5≤pb 3:=by unfold pw pb;decide
theorem DM {m k:Nat} {x y:Int} (hx:(x.natAbs:Int)<pb m) (hy:(y.natAbs:Int)<pb k):((x*y).natAbs:Int)<pb (m+k):=by
 rw [nC,cJ,Wy]
 have h1:=aY (bM hy) (show (0:Int)≤x.natAbs by omega)
 have h2:=kR hx (xC k)
 omega
theorem Below.mono {m k:Nat} {zs:List Int} (h:Below m zs) (hk:m≤k):Below k zs:=fun z hz=>jB (h z hz) (Ov hk)
section
attribute [local irreducible] sX pb tQ tN p2 cst
end
theorem Iv (G:Imm) (p:PV) (ac ao:Option Addr) (cc co:Nat) (hc:Arr G ac p.code) (ho:Arr G ao p.outs) (h1:p.code.length≤1099511627776) (h2:p.outs.length≤1099511627776) (hR:tG p=true) :
 Does Tryz.prog 124 [.agg #[.int .i64 p.ins,.int .i64 p.regs,.slice ac p.code.length cc,.slice ao p.outs.length co]] G [] (fun v G' Ho=>v=.tuple #[.int .i64 (vH p).1,.int .i64 0]∧G'=G∧Ho=[]):=by
 have hf:(vH p).2=false:=by unfold tG at hR;simpa using hR
 have h:=TI G p ac ao cc co hc ho h1 h2
 rw [hf] at h
 exact h
theorem DN {x y:Int} (h:tQ x y=0):x=y:=by
 unfold tQ at h
 split at h
 · omega
 split at h <;> omega
theorem DP {za zb:List Int} {i:Nat} (h:za.take i=zb.take i) (h1:i<za.length) (h2:i<zb.length) (he:za[i]?.getD 0=zb[i]?.getD 0):za.take (i+1)=zb.take (i+1):=by
 rw [aB h1,aB h2] at he
 rw [dE,dE,h,aB h1,aB h2]
 have e:za[i]=zb[i]:=he
 rw [e]
theorem Uu (m n:Nat):Below m (List.replicate n 0):=fun z hz=>by rw [jN hz];exact xC m
section
attribute [local irreducible] sX pb tQ tN p2 cst vH
theorem ZW (G:Imm) (p:PV) (ac ao:Option Addr) (cc co:Nat) (hc:Arr G ac p.code) (ho:Arr G ao p.outs) (h1:p.code.length≤1099511627776) (h2:p.outs.length≤1099511627776) (hR:tG p=true) (n:Int) (hn:n=p.ins) :
 Does Tryz.prog 291 [.agg #[.int .i64 p.ins,.int .i64 p.regs,.slice ac p.code.length cc,.slice ao p.outs.length co],.int .i64 n] G [] (fun v G' Ho=>v=.int .i64 0∧G'=G∧Ho=[]):=by
 refine D0 Tryz.func291 Tryz.ntmps291 fun w=>?_
 refine aK 2 [] ?_
 refine cV 0 fun b1=>?_
 refine aJ 6 [0] ?_
 refine bW rfl (Iv _ p _ _ _ _ hc ho h1 h2 hR) ?_
 refine aW 36 [0,0,0] ?_
 refine bO ?_
 exact ⟨rfl,rfl,rfl⟩
theorem ZX (G:Imm) (a b:Option Addr) (ca cb:Nat) (la lb:List IV) (za zb:List Int) (ha:Arr G a la) (hb:Arr G b lb) (hA:Bigs G la za) (hB:Bigs G lb zb) (h1:la.length≤1048576) (h2:lb.length≤1048576) (m:Nat) (hm:m≤268435456) (ba:Below m za) (bb:Below m zb) :
 Does Tryz.prog 255 [.slice a la.length ca,.slice b lb.length cb] G [] (fun v G' Ho=>∃ k:Int,v=.int .i64 k∧(k=0↔za=zb)∧G'=G∧Ho=[]):=by
 have e1:=hA.1
 have e2:=hB.1
 refine D0 Tryz.func255 Tryz.ntmps255 fun w=>?_
 by_cases hn:la.length=lb.length
 · refine cF 41 [0,0] ?_
   refine gC (ι:=Nat) (fun i=>([(22,.int .i64 (i:Int)),(21,.int .i64 (la.length:Int)),(20,.slice a (List.length la) ca),(1,.slice b (List.length lb) cb)],[])) (fun i=>i≤la.length∧za.take i=zb.take i) (fun i=>la.length - i) (0) (⟨aU _,rfl⟩) fun i=>fun hk=>?_
   obtain ⟨hi,hz⟩:=hk
   rcases aM i la.length with hia | hia
   · have hx9:=hA.at (k:=(i:Int)) sV
     have hy9:=hB.at (k:=(i:Int)) sV
     have hx5:=aO (iR hx9 (ba.at _)) (aO hm (show 268435456≤1073741824 by decide))
     have hy5:=aO (iR hy9 (bb.at _)) (aO hm (show 268435456≤1073741824 by decide))
     refine aK 14 [1] ?_
     refine dP (α:=IV) T.sl39 ?_
     refine mM T.agg89 ?_
     refine aQ 0 rfl T.zero89 fun b1=>?_
     refine bJ 5 [0] ?_
     refine eB [0] [] T.mixed [[0,0],[1],[2]] ?_
     refine jC (α:=IV) 3 T.sl39 ?_
     refine pN 4 T.agg89 ?_
     refine fE 5 ?_
     refine bW rfl (c57 _ _ _ _ _ hx9 hy9 hx5 hy5) ?_
     refine dW ?_
     refine eJ [[6]] ?_
     refine dV ?_
     refine oJ 7 [] ?_
     refine dN (fun hc1=>?_) fun hc1=>?_
     refine bE 12 [] ?_
     refine bO ?_
     rotate_left
     refine bE 7 [] ?_
     rotate_left
     · exact ⟨_,rfl,⟨fun h=>absurd h hc1,fun h=>absurd (Cj (by rw [h])) hc1⟩,rfl,rfl⟩
     refine cS (i+1) ?_ ?_
     · exact ⟨by omega,DP hz sV sV (DN (bD.1 hc1))⟩
     omega
   have hii:i=la.length:=sV
   subst hii
   refine bE 18 [0] ?_
   refine bO ?_
   refine ⟨0,rfl,⟨fun _=>?_,fun _=>rfl⟩,rfl,rfl⟩
   rw [dD sV,dD sV] at hz
   exact hz
 have hne:za≠zb:=fun h=>hn (by rw [e1,e2,h])
 by_cases hlt:la.length<lb.length
 · refine bE 26 [1] ?_
   refine bO ?_
   exact ⟨-1,rfl,⟨fun h=>absurd h tF,fun h=>absurd h hne⟩,rfl,rfl⟩
 refine bE 37 [0,1] ?_
 refine bO ?_
 exact ⟨1,rfl,⟨fun h=>absurd h tF,fun h=>absurd h hne⟩,rfl,rfl⟩
theorem ZY (G:Imm) (a b:Option Addr) (ca cb:Nat) (la lb:List IV) (za zb:List Int) (ha:Arr G a la) (hb:Arr G b lb) (hA:Bigs G la za) (hB:Bigs G lb zb) (h1:la.length≤1048576) (h2:lb.length≤1048576) (m:Nat) (hm:m≤268435456) (ba:Below m za) (bb:Below m zb) :
 Does Tryz.prog 213 [.slice a la.length ca,.slice b lb.length cb] G [] (fun v G' Ho=>v=.bool (decide (za=zb))∧G'=G∧Ho=[]):=by
 refine D0 Tryz.func213 Tryz.ntmps213 fun w=>?_
 refine aK 9 [] ?_
 refine bV 0 rfl (ZX G _ _ _ _ _ _ za zb ha hb hA hB h1 h2 m hm ba bb) fun v1 G1 Ho1 hle1 hp=>?_
 obtain ⟨k1,rfl,hk1,rfl,rfl⟩:=hp
 refine aW 5 [] ?_
 refine bO ?_
 exact ⟨by rw [fX.2 hk1],rfl,rfl⟩
end
def Flat (N:Nat) (rs:List (List Int)):Prop:=∀ r∈rs,r.length=N
theorem flat_set {N k:Nat} {rs:List (List Int)} {x:List Int} (h:Flat N rs) (hx:x.length=N):Flat N (rs.set k x):=fun r hr=>by
 rcases gX hr with h1 | h1
 · exact h r h1
 rw [h1];exact hx
def LL (n k:Nat):Nat:=(n+k - 1) / k
def blkP (n1 n2 k1 k2:Nat):Nat:=max (LL n1 k1) (LL n2 k2)
def vT (n1 n2 k1 k2:Nat) (th:Int):Prop:=max th 1<(min n1 n2:Nat)∧blkP n1 n2 k1 k2<max n1 n2
instance (n1 n2 k1 k2:Nat) (th:Int):Decidable (vT n1 n2 k1 k2 th):=inferInstanceAs (Decidable (_∧_))
structure TL where
 lv:Nat
 ca:Nat
 pr:Nat
 st:Nat
def foreP (k1 k2 n st:Nat) (th:Int) (n1 n2:Nat):TL:=
 if h:vT n1 n2 k1 k2 th then
  let t:=foreP k1 k2 n st th (blkP n1 n2 k1 k2) (blkP n1 n2 k1 k2)
  ⟨1+n*t.lv,n+n*t.ca,n*t.pr,st+n*t.st⟩
 else ⟨0,0,n1*n2,0⟩
termination_by max n1 n2
decreasing_by
 have:=h.2
 omega
theorem Lo {k1 k2 n st n1 n2:Nat} {th:Int} (h:vT n1 n2 k1 k2 th):foreP k1 k2 n st th n1 n2=⟨1+n*(foreP k1 k2 n st th (blkP n1 n2 k1 k2) (blkP n1 n2 k1 k2)).lv,n+n*(foreP k1 k2 n st th (blkP n1 n2 k1 k2) (blkP n1 n2 k1 k2)).ca,n*(foreP k1 k2 n st th (blkP n1 n2 k1 k2) (blkP n1 n2 k1 k2)).pr,st+n*(foreP k1 k2 n st th (blkP n1 n2 k1 k2) (blkP n1 n2 k1 k2)).st⟩:=by
 rw [foreP,dif_pos h]
theorem Hr {k1 k2 n st n1 n2:Nat} {th:Int} (h:¬vT n1 n2 k1 k2 th):foreP k1 k2 n st th n1 n2=⟨0,0,n1*n2,0⟩:=by
 rw [foreP,dif_neg h]
def zD (k1 k2 n:Nat) (th:Int) (n1 n2 lv:Nat):List (Nat×Nat):=
 if h:vT n1 n2 k1 k2 th then (blkP n1 n2 k1 k2,lv) :: zD k1 k2 n th (blkP n1 n2 k1 k2) (blkP n1 n2 k1 k2) (lv*n) else []
termination_by max n1 n2
decreasing_by
 have:=h.2
 omega
theorem Fg {k1 k2 n n1 n2 lv:Nat} {th:Int} (h:vT n1 n2 k1 k2 th):zD k1 k2 n th n1 n2 lv=(blkP n1 n2 k1 k2,lv) :: zD k1 k2 n th (blkP n1 n2 k1 k2) (blkP n1 n2 k1 k2) (lv*n):=by rw [zD,dif_pos h]
theorem Fh {k1 k2 n n1 n2 lv:Nat} {th:Int} (h:¬vT n1 n2 k1 k2 th):zD k1 k2 n th n1 n2 lv=[]:=by rw [zD,dif_neg h]
structure FS where
 c:Nat
 la:Nat
 lv:Nat
 ca:Nat
 st:Nat
def uT (n st:Nat) (s:FS) (x:Nat×Nat):FS:=⟨x.2*n,x.1*x.1,s.lv+x.2,s.ca+x.2*n,s.st+x.2*st⟩
theorem Hs (k1 k2 n st:Nat) (th:Int):∀ (N n1 n2 lv:Nat) (s:FS),max n1 n2≤N→s.c=lv→s.la=n1*n2→
 (let r:=(zD k1 k2 n th n1 n2 lv).foldl (uT n st) s
  let t:=foreP k1 k2 n st th n1 n2
  r.lv=s.lv+lv*t.lv∧r.ca=s.ca+lv*t.ca∧r.st=s.st+lv*t.st∧r.c*r.la=lv*t.pr)
 | N,n1,n2,lv,s,hN,hc,hl=>by
   by_cases h:vT n1 n2 k1 k2 th
   · have hlt:=h.2
     obtain ⟨N',rfl⟩:∃ N',N=N'+1:=⟨N - 1,by omega⟩
     have ih:=Hs k1 k2 n st th N' (blkP n1 n2 k1 k2) (blkP n1 n2 k1 k2) (lv*n) (uT n st s (blkP n1 n2 k1 k2,lv)) sV rfl rfl
     rw [Fg h,Lo h,List.foldl_cons]
     generalize foreP k1 k2 n st th (blkP n1 n2 k1 k2) (blkP n1 n2 k1 k2)=t at ih ⊢
     generalize (zD k1 k2 n th _ _ (lv*n)).foldl (uT n st) (uT n st s (blkP n1 n2 k1 k2,lv))=r at ih ⊢
     obtain ⟨g1,g2,g3,g4⟩:=ih
     refine ⟨?_,?_,?_,?_⟩
     · rw [g1];show s.lv+lv+lv*n*t.lv=s.lv+lv*(1+n*t.lv)
       rw [oD,qO,nX];omega
     · rw [g2];show s.ca+lv*n+lv*n*t.ca=s.ca+lv*(n+n*t.ca)
       rw [oD,nX lv n t.ca];omega
     · rw [g3];show s.st+lv*st+lv*n*t.st=s.st+lv*(st+n*t.st)
       rw [oD,nX lv n t.st];omega
     show r.c*r.la=lv*(n*t.pr)
     rw [g4,nX]
   rw [Fh h,Hr h]
   exact ⟨rfl,rfl,rfl,by show s.c*s.la=lv*(n1*n2);rw [hc,hl]⟩
def zK (k1 k2:Nat) (th:Int) (n1 n2:Nat):Nat:=
 if h:vT n1 n2 k1 k2 th then zK k1 k2 th (blkP n1 n2 k1 k2) (blkP n1 n2 k1 k2)+1 else 0
termination_by max n1 n2
decreasing_by
 have:=h.2
 omega
theorem Fi {k1 k2 n1 n2:Nat} {th:Int} (h:vT n1 n2 k1 k2 th):zK k1 k2 th n1 n2=zK k1 k2 th (blkP n1 n2 k1 k2) (blkP n1 n2 k1 k2)+1:=by rw [zK,dif_pos h]
theorem By {k1 k2 n1 n2:Nat} {th:Int} (h:¬vT n1 n2 k1 k2 th):zK k1 k2 th n1 n2=0:=by rw [zK,dif_neg h]
theorem Rm (n:Nat):LL n 1=n:=by unfold LL;rw [Nat.div_one];omega
theorem NX {k1 k2:Nat} (h1:1≤k1) (h2:1≤k2) (h:k1=1∨k2=1) (th:Int) (n:Nat):zK k1 k2 th n n=0:=By fun g=>by
 have:=g.2
 unfold blkP at this
 rcases h with rfl | rfl
 · rw [Rm] at this;omega
 rw [Rm n] at this;omega
theorem Zy {n c k N:Nat} (hc:1≤c) (hk:c≤k) (h:n≤c*N):LL n k≤N:=by
 unfold LL
 refine Nat.le_of_lt_succ ((qK sV).2 ?_)
 have h1:N*c≤N*k:=iO _ hk
 have h2:(N+1)*k=N*k+k:=Nat.add_one_mul N k
 have h3:c*N=N*c:=iD _ _
 show n+k - 1<(N+1)*k
 omega
theorem Uv {c k1 k2:Nat} (hc:2≤c) (h1:c≤k1) (h2:c≤k2) (th:Int):∀ (j n1 n2:Nat),max n1 n2≤c ^ j→zK k1 k2 th n1 n2≤j
 | 0,n1,n2,h=>by
   rw [By fun g=>by
    have:=g.1
    rw [Nat.pow_zero] at h
    omega]
   exact aG _
 | j+1,n1,n2,h=>by
   by_cases g:vT n1 n2 k1 k2 th
   · rw [Fi g]
     have hp:c ^ (j+1)=c*c ^ j:=by rw [jY,iD]
     have e1:=Zy (n:=n1) (N:=c ^ j) sV h1 sV
     have e2:=Zy (n:=n2) (N:=c ^ j) sV h2 sV
     have:=Uv hc h1 h2 th j (blkP n1 n2 k1 k2) (blkP n1 n2 k1 k2) (by unfold blkP;omega)
     omega
   rw [By g];omega
theorem Zz {k1 k2 n n1 n2:Nat} {th:Int} (h1:1≤k1) (h1':k1≤8) (h2:1≤k2) (h2':k2≤8) (hn:k1+k2=n+1) (hm:max n1 n2≤2048):n ^ zK k1 k2 th n1 n2≤31381059609:=by
 have key:∀ c j N:Nat,2≤c→c≤k1→c≤k2→2048≤c ^ j→n≤N→1≤N→N ^ j≤31381059609→n ^ zK k1 k2 th n1 n2≤31381059609:=fun c j N hc g1 g2 hj hN hN1 hb=>by
  have hd:=Uv hc g1 g2 th j n1 n2 sV
  exact aO (aO (iN hN _) (eT hN1 hd)) hb
 rcases (show min k1 k2=1∨min k1 k2=2∨min k1 k2=3∨min k1 k2=4∨min k1 k2=5∨min k1 k2=6∨min k1 k2=7∨min k1 k2=8 by omega) with h | h | h | h | h | h | h | h
 · have hd:zK k1 k2 th n1 n2≤1:=by
    by_cases g:vT n1 n2 k1 k2 th
    · rw [Fi g,NX h1 h2 sV];exact aG _
    rw [By g];omega
   have hle:n ^ zK k1 k2 th n1 n2≤8 ^ 1:=aO (iN (show n≤8 by omega) _) (eT sV hd)
   omega
 · exact key 2 11 9 sV sV sV tF sV sV tF
 · exact key 3 7 10 sV sV sV tF sV sV tF
 · exact key 4 6 11 sV sV sV tF sV sV tF
 · exact key 5 5 12 sV sV sV tF sV sV tF
 · exact key 6 5 13 sV sV sV tF sV sV tF
 · exact key 7 4 14 sV sV sV tF sV sV tF
 exact key 8 4 15 sV sV sV tF sV sV tF
theorem Lp {k1 k2 n st:Nat} {th:Int} (hn:k1+k2=n+1) (h1:1≤k1) (h2:1≤k2):∀ (N n1 n2:Nat),max n1 n2≤N→
 (foreP k1 k2 n st th n1 n2).lv+1≤n ^ zK k1 k2 th n1 n2∧(foreP k1 k2 n st th n1 n2).ca+2≤2*n ^ zK k1 k2 th n1 n2∧(foreP k1 k2 n st th n1 n2).st=st*(foreP k1 k2 n st th n1 n2).lv∧(foreP k1 k2 n st th n1 n2).pr≤n ^ zK k1 k2 th n1 n2*(max n1 n2*max n1 n2)
 | N,n1,n2,hN=>by
   by_cases g:vT n1 n2 k1 k2 th
   · have hlt:=g.2
     obtain ⟨N',rfl⟩:∃ N',N=N'+1:=⟨N - 1,by omega⟩
     have hn2:2≤n:=by
      refine Nat.le_of_not_lt fun hlt2=>?_
      have e1:k1=1:=sV
      have e2:k2=1:=sV
      subst e1 e2
      unfold blkP at hlt
      rw [Rm,Rm] at hlt
      omega
     obtain ⟨g1,g2,g3,g4⟩:=Lp (st:=st) (th:=th) hn h1 h2 N' (blkP n1 n2 k1 k2) (blkP n1 n2 k1 k2) sV
     rw [Lo g,Fi g,jY]
     generalize foreP k1 k2 n st th (blkP n1 n2 k1 k2) (blkP n1 n2 k1 k2)=t at g1 g2 g3 g4
     generalize n ^ zK k1 k2 th (blkP n1 n2 k1 k2) (blkP n1 n2 k1 k2)=p at g1 g2 g4
     refine ⟨?_,?_,?_,?_⟩
     · show 1+n*t.lv+1≤p*n
       have:=iO n g1
       rw [oD,qO] at this
       rw [iD p n];omega
     · show n+n*t.ca+2≤2*(p*n)
       have:=iO n g2
       rw [oD,show n*(2*p)=2*(p*n) by rw [iD p n];ac_rfl] at this
       omega
     · show st+n*t.st=st*(1+n*t.lv)
       rw [g3,oD,qO,show n*(st*t.lv)=st*(n*t.lv) by ac_rfl]
     show n*t.pr≤p*n*(max n1 n2*max n1 n2)
     have e1:=iO n g4
     rw [Nat.max_self] at e1
     have e2:blkP n1 n2 k1 k2*blkP n1 n2 k1 k2≤max n1 n2*max n1 n2:=iX sV sV
     have e3:=iO (n*p) e2
     rw [iD p n,nX n p (blkP n1 n2 k1 k2*_)] at *
     omega
   rw [Hr g,By g,Nat.pow_zero]
   refine ⟨aG _,aG _,(Nat.mul_zero st).symm,?_⟩
   show n1*n2≤1*(max n1 n2*max n1 n2)
   rw [oC]
   exact iX sV sV
theorem Pf (n st:Nat):∀ (l:List (Nat×Nat)) (s:FS),s.lv≤(l.foldl (uT n st) s).lv∧s.ca≤(l.foldl (uT n st) s).ca∧s.st≤(l.foldl (uT n st) s).st
 | [],s=>⟨aG _,aG _,aG _⟩
 | x :: l,s=>by
   obtain ⟨h1,h2,h3⟩:=Pf n st l (uT n st s x)
   rw [List.foldl_cons]
   exact ⟨aO (sR _ _) h1,aO (sR _ _) h2,aO (sR _ _) h3⟩
theorem Pg {n st k:Nat} {l:List (Nat×Nat)} {x:Nat×Nat} (s:FS) (h:l[k]?=some x):(l.take (k+1)).foldl (uT n st) s=uT n st ((l.take k).foldl (uT n st) s) x:=by
 rw [dE,h,List.foldl_append];rfl
theorem DQ {n st:Nat} (l:List (Nat×Nat)) (k:Nat) (s:FS):((l.take k).foldl (uT n st) s).lv≤(l.foldl (uT n st) s).lv∧((l.take k).foldl (uT n st) s).ca≤(l.foldl (uT n st) s).ca∧((l.take k).foldl (uT n st) s).st≤(l.foldl (uT n st) s).st:=by
 have:=Pf n st (l.drop k) ((l.take k).foldl (uT n st) s)
 rwa [←List.foldl_append,dA] at this
theorem Ph {k1 k2 n:Nat} {th:Int}:∀ (N n1 n2 lv:Nat),max n1 n2≤N→∀ x∈zD k1 k2 n th n1 n2 lv,x.1≤N
 | N,n1,n2,lv,hN,x,hx=>by
   by_cases h:vT n1 n2 k1 k2 th
   · have hlt:=h.2
     obtain ⟨N',rfl⟩:∃ N',N=N'+1:=⟨N - 1,by omega⟩
     rw [Fg h] at hx
     rcases dF.1 hx with rfl | hx
     · show blkP n1 n2 k1 k2≤N'+1
       omega
     exact sB (Ph N' _ _ _ sV x hx)
   rw [Fh h] at hx;cases hx
theorem Ht {k1 k2 n st n1 n2:Nat} {th:Int} (h1:1≤k1) (h1':k1≤8) (h2:1≤k2) (h2':k2≤8) (hn:k1+k2=n+1) (hm:max n1 n2≤2048) (hst:st≤49152) :
 (foreP k1 k2 n st th n1 n2).lv≤31381059609∧(foreP k1 k2 n st th n1 n2).ca≤62762119218∧(foreP k1 k2 n st th n1 n2).pr≤131621703842267136∧(foreP k1 k2 n st th n1 n2).st≤1542441841852416:=by
 obtain ⟨g1,g2,g3,g4⟩:=Lp (st:=st) (th:=th) hn h1 h2 _ n1 n2 (aG _)
 have hp:=Zz (th:=th) h1 h1' h2 h2' hn hm
 generalize n ^ zK k1 k2 th n1 n2=p at g1 g2 g4 hp
 refine ⟨by omega,by omega,aO g4 (aO (iX hp (iX hm hm)) tF),?_⟩
 rw [g3]
 exact aO (iX hst (show (foreP k1 k2 n st th n1 n2).lv≤31381059608 by omega)) tF
def LevAt (k1 k2 n:Nat) (th:Int) (n1 n2 k a b lv:Nat):Prop:=
 k≤(zD k1 k2 n th n1 n2 1).length∧(zD k1 k2 n th n1 n2 1).drop k=zD k1 k2 n th a b lv∧max a b≤2048∧lv*n ^ zK k1 k2 th a b≤31381059609
theorem LevAt.start {k1 k2 n n1 n2:Nat} {th:Int} (h1:1≤k1) (h1':k1≤8) (h2:1≤k2) (h2':k2≤8) (hn:k1+k2=n+1) (hm:max n1 n2≤2048):LevAt k1 k2 n th n1 n2 0 n1 n2 1:=
 ⟨aU _,iZ,hm,by rw [oC];exact Zz h1 h1' h2 h2' hn hm⟩
theorem LevAt.lv {k1 k2 n n1 n2 k a b lv:Nat} {th:Int} (h:LevAt k1 k2 n th n1 n2 k a b lv) (hn:1≤n):lv≤31381059609:=
 aO (pU _ (oB hn)) h.2.2.2
theorem LevAt.here {k1 k2 n n1 n2 k a b lv:Nat} {th:Int} (h:LevAt k1 k2 n th n1 n2 k a b lv) (he:vT a b k1 k2 th):(zD k1 k2 n th n1 n2 1)[k]?=some (blkP a b k1 k2,lv):=by
 have:=h.2.1
 rw [Fg he] at this
 rw [←gT k,←eV,this];rfl
theorem LevAt.next {k1 k2 n n1 n2 k a b lv:Nat} {th:Int} (h:LevAt k1 k2 n th n1 n2 k a b lv) (he:vT a b k1 k2 th):LevAt k1 k2 n th n1 n2 (k+1) (blkP a b k1 k2) (blkP a b k1 k2) (lv*n):=by
 have h0:=h.here he
 have h2:=he.2
 have h3:=h.2.2.1
 refine ⟨(aS.1 h0).1,?_,by omega,?_⟩
 · have:=h.2.1
   rw [Fg he] at this
   rw [←lE,this];rfl
 have:=h.2.2.2
 rw [Fi he,jY] at this
 rw [nX,iD n];exact this
theorem LevAt.done {k1 k2 n n1 n2 k a b lv:Nat} {th:Int} (h:LevAt k1 k2 n th n1 n2 k a b lv) (he:¬vT a b k1 k2 th):k=(zD k1 k2 n th n1 n2 1).length:=by
 have:=h.2.1
 rw [Fh he] at this
 have h1:=List.drop_eq_nil_iff.1 this
 have:=h.1
 omega
theorem Pj {k1 k2 a b:Nat} {th:Int} (he:vT a b k1 k2 th):zK k1 k2 th (blkP a b k1 k2) (blkP a b k1 k2)<zK k1 k2 th a b:=by rw [Fi he];omega
def Lq (l:List (Nat×Nat)):List Int:=l.flatMap fun x=>[(x.1:Int),(x.2:Int)]
theorem Hu (l:List (Nat×Nat)):(Lq l).length=2*l.length:=by
 induction l with
 | nil=>rfl
 | cons x l ih =>
   show ([(x.1:Int),(x.2:Int)]++Lq l).length=_
   rw [aI,ih,bQ]
   show 2+2*l.length=2*(l.length+1)
   omega
theorem Lr {l:List (Nat×Nat)} {k:Nat} {x:Nat×Nat} (h:l[k]?=some x):Lq (l.take (k+1))=Lq (l.take k)++[(x.1:Int),(x.2:Int)]:=by
 unfold Lq
 rw [dE,h,List.flatMap_append];rfl
theorem AA {k1 k2 n:Nat} {th:Int}:∀ (N n1 n2 lv:Nat),max n1 n2≤N→(zD k1 k2 n th n1 n2 lv).length≤N
 | N,n1,n2,lv,hN=>by
   by_cases h:vT n1 n2 k1 k2 th
   · have hlt:=h.2
     obtain ⟨N',rfl⟩:∃ N',N=N'+1:=⟨N - 1,by omega⟩
     rw [Fg h,bQ]
     exact Nat.succ_le_succ (AA N' _ _ _ sV)
   rw [Fh h];exact aU _
structure U8 where
 v:Int
 deriving DecidableEq
instance:Inhabited U8:=⟨⟨0⟩⟩
instance:Cells U8:=⟨1,fun n=>[.int .u8 n.v],fun _=>rfl,fun _=>rfl⟩
structure RS where
 k:Nat
 wr:Bool
def nx (B:List U8) (s:RS) (g:Int→Bool):Int×RS:=
 if s.wr=true∨s.k=B.length∨g (B[s.k]?.getD default).v=false then (0,⟨s.k,true⟩) else ((B[s.k]?.getD default).v,⟨s.k+1,false⟩)
def ZZ (op c:Int):Bool:=
 if op=5∨op=6 then decide ((c≠0∧-512≤c)∧c≤512) else if op=7∨op=8 then decide (1≤c∧c≤64) else decide (c=0)
def i16 (h l:Int):Int:=if 32768≤h*256+l then h*256+l - 65536 else h*256+l
def hiC (op h:Int):Bool:=(List.range 256).any fun l=>ZZ op (i16 h (l:Int))
structure UV where
 k1:Int
 k2:Int
 pl:List R2
 x:PV
 y:PV
 z:PV
section
attribute [local irreducible] sX pb tQ tN
theorem Hv {G:Imm} {l:List IV} {zs:List Int} {r:IV} {z:Int} (h:Bigs G l zs) (hr:Big G r z):Bigs G (l++[r]) (zs++[z]):=by
 have e1:=h.1
 refine ⟨by rw [aI,aI,e1];rfl,fun i hi=>?_⟩
 rw [aI,kL] at hi
 rcases aM i l.length with h3 | h3
 · rw [bH h3,bH sV];exact h.2 i h3
 have h4:i=l.length:=sV
 subst h4
 rw [cM (aG _),cM sV,e1,jX];exact hr
def AB (P:Nat→Int) (n:Nat):List Int:=(List.range n).map P
theorem Ls (P:Nat→Int) (n:Nat):AB P (n+1)=AB P n++[P n]:=by unfold AB;rw [List.range_succ,qH];rfl
theorem PJ (G:Imm) (a:Option Addr) (c:Nat) (xs:List IV) (g:Nat) (fst:List Value) (P:Nat→Int) (hg:wC Tryz.prog g) (ha:Arr G a xs) (hl:xs.length≤1048576)
 (hf:∀ k:Nat,k<xs.length→∀ G',G.le G'→Does Tryz.prog g (fst++[.agg (Cells.enc (xs[((k:Nat):Int).toNat]?.getD default)).toArray]++[]) G' [] (fun v G'' Ho=>∃ r:IV,v=.agg (Cells.enc r).toArray∧Big G'' r (P k)∧Ho=[])) :
 Does Tryz.prog 318 [.slice a xs.length c,.func (.func g) fst.toArray #[]] G [] (fun v G' Ho=>∃ (s:Option Addr) (r:List IV) (d:Nat),v=.slice s r.length d∧Arr G' s r∧r.length≤d∧Bigs G' r (AB P xs.length)∧Ho=[]):=by
 refine D0 Tryz.func318 Tryz.ntmps318 fun w=>?_
 refine fO 9 (tK 89 ([]:List IV) []) ?_
 refine cF 19 [] ?_
 refine jQ (ι:=Nat×Imm×List IV×(Option Addr×Nat×List Value)) (fun (k,Gx,r,(o,d,j))=>([(10,.int .i64 (k:Int)),(5,.slice o r.length d),(9,.int .i64 (xs.length:Int)),(8,.slice a (List.length xs) c),(4,.slice none 0 0),(1,.func (Go.Fn.func g) (List.toArray fst) #[])],[(9,o.map (·.block),tK 89 r j)])) (fun (k,Gx,r,(o,d,j))=>Gx) (fun (k,Gx,r,(o,d,j))=>k≤xs.length∧G.le Gx∧r.length=k∧Bigs Gx r (AB P k)∧OwnA o d r j) (fun (k,Gx,r,(o,d,j))=>xs.length - k) ((0,G,[],(none,0,[]))) (⟨aU _,cA _,rfl,⟨rfl,fun i h=>absurd h tS⟩,eW⟩) rfl ⟨rfl,rfl,rfl,rfl,rfl,rfl,trivial⟩ ⟨rfl,trivial⟩ fun ⟨k,Gx,r,(o,d,j)⟩=>fun hk=>?_
 obtain ⟨hk1,hk2,hk3,hk4,hk5⟩:=hk
 replace ha:=ha.up hk2
 rcases aM k xs.length with hkl | hkl
 · refine aK 13 [1] ?_
   refine dP (α:=IV) T.sl39 ?_
   refine mM T.agg89 ?_
   refine aQ 10 rfl T.zero89 fun b1=>?_
   refine aJ 7 [10,10] ?_
   refine iG (fst:=fst) (cap:=[]) 20 rfl hg rfl rfl (hf k hkl _ hk2) (uH trivial) fun v1 G1 Ho1 hle1 hp=>?_
   obtain ⟨r1,rfl,hr1,rfl⟩:=hp
   refine fF (α:=IV) 11 [(r1)] rfl T.sl39 T.el89 rfl rfl rfl rfl rfl fun b2=>?_
   refine kO (α:=IV) 9 T.sl39 T.el89 (fZ 11 rfl) fun a1 c1 junk1 ho1=>?_
   refine aW 8 [] ?_
   refine cZ 10 rfl (show _=Value.int .i64 ((k+1:Nat):Int) from rfl) ?_
   refine cS ((k+1,G1,r++[r1],(a1,c1,junk1))) ?_ ?_
   · refine ⟨hkl,aZ hk2 hle1,by rw [aI,hk3];rfl,?_,ho1⟩
     rw [Ls];exact Hv (hk4.up hle1) hr1
   show xs.length - (k+1)<xs.length - k
   omega
 have hkl:k=xs.length:=sV
 subst hkl
 refine bE 19 [0] ?_
 refine eE 9 rfl hk5 fun G8 hle8 hA8=>?_
 refine bO ?_
 exact ⟨o,r,d,rfl,hA8,hk5.le,hk4.up hle8,rfl⟩
theorem UE (G:Imm) (a:Option Addr) (c:Nat) (xs:List IV) (g bk:Nat) (cap:List Value) (P:Nat→Int) (hg:wC Tryz.prog g) (ha:Arr G a xs) (hl:xs.length≤1048576)
 (hf:∀ k:Nat,k<xs.length→∀ G',G.le G'→Does Tryz.prog g ([]++[.agg (Cells.enc (xs[((k:Nat):Int).toNat]?.getD default)).toArray]++cap) G' [(0,some bk,.cells #[.int .i64 ((k:Int) - 1)] 3)] (fun v G'' Ho=>∃ r:IV,v=.agg (Cells.enc r).toArray∧Big G'' r (P k)∧Ho=[(0,some bk,.cells #[.int .i64 (((k+1:Nat):Int) - 1)] 3)])) :
 Does Tryz.prog 318 [.slice a xs.length c,.func (.func g) #[] cap.toArray] G [(0,some bk,.cells #[.int .i64 (-1)] 3)] (fun v G' Ho=>∃ (s:Option Addr) (r:List IV) (d:Nat),v=.slice s r.length d∧Arr G' s r∧r.length≤d∧Bigs G' r (AB P xs.length)∧Ho=[(0,some bk,.cells #[.int .i64 ((xs.length:Int) - 1)] 3)]):=by
 refine D0 Tryz.func318 Tryz.ntmps318 fun w=>?_
 refine fO 9 (tK 89 ([]:List IV) []) ?_
 refine cF 19 [] ?_
 refine sM 0 (.cells #[.int .i64 (((0:Nat):Int) - 1)] 3) rfl rfl ?_
 refine jQ (ι:=Nat×Imm×List IV×(Option Addr×Nat×List Value)) (fun (k,Gx,r,(o,d,j))=>([(10,.int .i64 (k:Int)),(5,.slice o r.length d),(9,.int .i64 (xs.length:Int)),(8,.slice a (List.length xs) c),(4,.slice none 0 0),(1,.func (Go.Fn.func g) #[] (List.toArray cap))],[(0,some bk,.cells #[.int .i64 ((k:Int) - 1)] 3),(9,o.map (·.block),tK 89 r j)])) (fun (k,Gx,r,(o,d,j))=>Gx) (fun (k,Gx,r,(o,d,j))=>k≤xs.length∧G.le Gx∧r.length=k∧Bigs Gx r (AB P k)∧OwnA o d r j) (fun (k,Gx,r,(o,d,j))=>xs.length - k) ((0,G,[],(none,0,[]))) (⟨aU _,cA _,rfl,⟨rfl,fun i h=>absurd h tS⟩,eW⟩) rfl ⟨rfl,rfl,rfl,rfl,rfl,rfl,trivial⟩ ⟨rfl,rfl,trivial⟩ fun ⟨k,Gx,r,(o,d,j)⟩=>fun hk=>?_
 obtain ⟨hk1,hk2,hk3,hk4,hk5⟩:=hk
 replace ha:=ha.up hk2
 rcases aM k xs.length with hkl | hkl
 · refine aK 13 [1] ?_
   refine dP (α:=IV) T.sl39 ?_
   refine mM T.agg89 ?_
   refine aQ 10 rfl T.zero89 fun b1=>?_
   refine aJ 7 [10,10] ?_
   refine iG (fst:=[]) (cap:=cap) 0 rfl hg rfl rfl (hf k hkl _ hk2) (uH ⟨rfl,trivial⟩) fun v1 G1 Ho1 hle1 hp=>?_
   obtain ⟨r1,rfl,hr1,rfl⟩:=hp
   refine fF (α:=IV) 11 [(r1)] rfl T.sl39 T.el89 rfl rfl rfl rfl rfl fun b2=>?_
   refine kO (α:=IV) 9 T.sl39 T.el89 (fZ 11 rfl) fun a1 c1 junk1 ho1=>?_
   refine aW 8 [] ?_
   refine cZ 10 rfl (show _=Value.int .i64 ((k+1:Nat):Int) from rfl) ?_
   refine cS ((k+1,G1,r++[r1],(a1,c1,junk1))) ?_ ?_
   · refine ⟨hkl,aZ hk2 hle1,by rw [aI,hk3];rfl,?_,ho1⟩
     rw [Ls];exact Hv (hk4.up hle1) hr1
   show xs.length - (k+1)<xs.length - k
   omega
 have hkl:k=xs.length:=sV
 subst hkl
 refine bE 19 [0] ?_
 refine eE 9 rfl hk5 fun G8 hle8 hA8=>?_
 refine dL (.inr rfl) (Ho:=[(0,some bk,.cells #[.int .i64 ((xs.length:Int) - 1)] 3)]) rfl (.tmp rfl) ⟨rfl,trivial⟩ ?_
 exact ⟨o,r,d,rfl,hA8,hk5.le,hk4.up hle8,rfl⟩
end
section
attribute [local irreducible] sX pb tQ tN
theorem Pm {G:Imm} {b:Nat} {cs:List Value} {T:TypeId} {fz:Nat×Nat} (h:G b=some (.cells cs.toArray T fz)) (k:Nat) {v:Value} (hv:cs[k]?=some v):G.cell b k=some v:=by
 simp only [Imm.cell,h];simpa using hv
theorem Rn (xs:List Int) (f:Int→Int):AB (fun k=>f (xs[k]?.getD 0)) xs.length=xs.map f:=by
 unfold AB
 apply jS
 · rw [bX,bX,iJ]
 intro i h1 h2
 rw [bX] at h2
 rw [iW,mG,iW,aB h2];rfl
theorem AC (xs ys:List Int) (f:Int→Int→Int) (h:xs.length=ys.length):AB (fun k=>f (xs[k]?.getD 0) (ys[k]?.getD 0)) xs.length=List.zipWith f xs ys:=by
 unfold AB
 apply jS
 · rw [bX,iJ,iP,h,oQ]
 intro i h1 h2
 rw [iP] at h2
 rw [iW,mG,oE,aB (show i<xs.length by omega),aB (show i<ys.length by omega)];rfl
def Fj (G':Imm) (v:Value) (zs:List Int):Prop:=∃ (s:Option Addr) (r:List IV) (d:Nat),v=.slice s r.length d∧Arr G' s r∧r.length≤d∧Bigs G' r zs
theorem Du {G:Imm} {l:List IV} {xs:List Int} {m:Nat} (h:Bigs G l xs) (hm:Below m xs) {k:Nat} (hk:k<l.length):(l[k]?.getD default).n≤m:=iR (h.2 k hk) (hm.at k)
theorem aa (G:Imm) (a:Option Addr) (c:Nat) (l:List IV) (xs:List Int) (m:Nat) (ha:Arr G a l) (hb:Bigs G l xs) (hm:Below m xs) (hmm:m≤268435456) (hl:l.length≤1048576) :
 Does Tryz.prog 293 [.slice a l.length c] G [] (fun v G' Ho=>Fj G' v (xs.map fun x=>-x)∧Ho=[]):=by
 have hf:∀ k:Nat,k<l.length→∀ G',G.le G'→Does Tryz.prog 55 ([]++[.agg (Cells.enc (l[(k:Int).toNat]?.getD default)).toArray]++[]) G' [] (fun v G'' Ho=>∃ r:IV,v=.agg (Cells.enc r).toArray∧Big G'' r (-(xs[k]?.getD 0))∧Ho=[]):=fun k hk G' hG=>by
  have h1:=Du hb hm hk
  exact (c55 G' _ _ ((hb.2 k hk).up hG) sV).mono fun v G'' Ho _ ⟨r,e1,e2,e3,e4⟩=>⟨r,e1,e2,e4⟩
 have h180:=PJ G a c l 55 [] (fun k=>-(xs[k]?.getD 0)) T.fn55 ha hl hf
 rw [hb.1,Rn xs (fun x=>-x),←hb.1] at h180
 refine D0 Tryz.func293 Tryz.ntmps293 fun w=>?_
 refine aK 8 [] ?_
 refine bV 0 rfl (h180) fun v1 G1 Ho1 hle1 hp=>?_
 obtain ⟨s1,r1,d1,rfl,hA1,hl81,hB1,rfl⟩:=hp
 replace ha:=ha.up hle1
 replace hb:=hb.up hle1
 refine aW 4 [] ?_
 refine bO ?_
 exact ⟨⟨_,_,_,rfl,hA1,hl81,hB1⟩,rfl⟩
theorem ae (G:Imm) (bk bf bb h:Nat) (x:IV) (k:Nat) (a':Option Addr) (c':Nat) (ys:List IV) (R:Int) (hgh:wC Tryz.prog h) (hy:Arr G a' ys) (hk:k<ys.length) (hkl:k≤1048576) (hf:G bf=some (.cells [.func (.func h) #[] #[]].toArray 361)) (hb:G bb=some (.cells [.slice a' ys.length c'].toArray 39))
 (hh:Does Tryz.prog h ([]++[.agg (Cells.enc x).toArray,.agg (Cells.enc (ys[((k:Nat):Int).toNat]?.getD default)).toArray]++[]) G [] (fun v G'' Ho=>∃ r:IV,v=.agg (Cells.enc r).toArray∧Big G'' r R∧Ho=[])) :
 Does Tryz.prog 335 [.agg (Cells.enc x).toArray,.pointer (some ⟨bk,0,none⟩),.pointer (some ⟨bf,0,none⟩),.pointer (some ⟨bb,0,none⟩)] G [(0,some bk,.cells #[.int .i64 ((k:Int) - 1)] 3)]
  (fun v G' Ho=>∃ r:IV,v=.agg (Cells.enc r).toArray∧Big G' r R∧Ho=[(0,some bk,.cells #[.int .i64 (((k+1:Nat):Int) - 1)] 3)]):=by
 have hfc:=Pm hf 0 rfl
 have hbc:=Pm hb 0 rfl
 have e:(k:Int).toNat=(((k:Int) - 1)+1).toNat:=sV
 rw [e] at hh
 refine D0 Tryz.func335 Tryz.ntmps335 fun w=>?_
 refine aK 2 [] ?_
 refine cV 1 fun b1=>?_
 refine aQ 2 rfl T.zero89 fun b2=>?_
 refine bJ 10 [0,0] ?_
 refine oL [1,2,0] [(2,7),(0,6),(2,6),(1,6)] T.mixed rfl ?_
 refine gD 0 [] rfl (dZ T.one361 rfl sW) ?_
 refine eJ [[1,1]] ?_
 refine gD 2 [] rfl (dZ T.one39 rfl sW) ?_
 refine fE 3 ?_
 refine aA 1 [0] ?_
 refine dW ?_
 refine jC (α:=IV) 4 T.sl39 ?_
 refine pN 5 T.agg89 ?_
 refine fE 6 ?_
 refine iG (fst:=[]) (cap:=[]) 20 rfl hgh rfl rfl hh (uH trivial) fun v1 G1 Ho1 hle1 hp=>?_
 obtain ⟨r1,rfl,hr1,rfl⟩:=hp
 refine bT 7 ?_
 refine aA 1 [2] ?_
 refine fV ?_
 refine gZ 2 [] ?_
 refine iB 0 (.cells #[.int .i64 (((k+1:Nat):Int) - 1)] 3) rfl (by rw [show (((k+1:Nat):Int) - 1)=(k:Int) - 1+1 by omega];rfl) ?_
 refine dL (.inr rfl) (Ho:=[(0,some bk,.cells #[.int .i64 (((k+1:Nat):Int) - 1)] 3)]) rfl (.agg 2 rfl rfl T.agg89) ⟨rfl,trivial⟩ ?_
 exact ⟨r1,rfl,hr1,rfl⟩
theorem UF (G:Imm) (h:Nat) (a a':Option Addr) (c c':Nat) (l l':List IV) (F:Nat→Int) (hgh:wC Tryz.prog h) (ha:Arr G a l) (ha':Arr G a' l') (hlen:l.length=l'.length) (hl:l.length≤1048576)
 (hh:∀ k:Nat,k<l.length→∀ G',G.le G'→Does Tryz.prog h ([]++[.agg (Cells.enc (l[((k:Nat):Int).toNat]?.getD default)).toArray,.agg (Cells.enc (l'[((k:Nat):Int).toNat]?.getD default)).toArray]++[]) G' [] (fun v G'' Ho=>∃ r:IV,v=.agg (Cells.enc r).toArray∧Big G'' r (F k)∧Ho=[])) :
 Does Tryz.prog 319 [.slice a l.length c,.slice a' l'.length c',.func (.func h) #[] #[]] G [] (fun v G' Ho=>∃ (s:Option Addr) (r:List IV) (d:Nat),v=.tuple #[.slice s r.length d,.int .i64 0]∧Arr G' s r∧r.length≤d∧Bigs G' r (AB F l.length)∧Ho=[]):=by
 refine D0 Tryz.func319 Tryz.ntmps319 fun w=>?_
 refine aK 2 [] ?_
 refine cV 0 fun b1=>?_
 refine cV 1 fun b2=>?_
 refine aJ 19 [0,0] ?_
 refine aQ 2 rfl T.zero3 fun b3=>?_
 refine aJ 6 [2] ?_
 refine aN (mQ rfl rfl) ?_
 refine Wl.freeze 1 rfl fun G1 hg1 hb1=>?_
 refine Wl.freeze 0 rfl fun G2 hg2 hb2=>?_
 replace hb1:=hg2 _ _ hb1
 have hG:=aZ hg1 hg2
 replace ha:=ha.up hG
 replace ha':=ha'.up hG
 refine oV 2 (.cells #[.int .i64 (-1)] 3) rfl rfl ?_
 refine Wl.call 2 rfl T.fn318 rfl (UE _ a c l 335 b3 [.pointer (some ⟨b3,0,none⟩),.pointer (some ⟨b2,0,none⟩),.pointer (some ⟨b1,0,none⟩)] F T.fn335 ha hl
  (fun k hk G' hG'=>ae G' b3 b2 b1 h _ k a' c' l' (F k) hgh (ha'.up hG') sV sV (hG' _ _ hb1) (hG' _ _ hb2) (hh k hk G' (aZ hG hG')))) (uH ⟨rfl,trivial⟩) (fun v1 G3 Ho1 hle1 hp=>?_)
 obtain ⟨s,r,d,rfl,hA,hd,hB,rfl⟩:=hp
 refine aW 5 [] ?_
 refine eG ?_
 exact ⟨s,r,d,rfl,hA,hd,hB,rfl⟩
theorem af (G:Imm) (a a':Option Addr) (c c':Nat) (l l':List IV) (xs ys:List Int) (m:Nat) (ha:Arr G a l) (ha':Arr G a' l') (hb:Bigs G l xs) (hb':Bigs G l' ys) (hm:Below m xs) (hm':Below m ys) (hmm:m≤268435456) (hlen:l.length=l'.length) (hl:l.length≤1048576) :
 Does Tryz.prog 295 [.slice a l.length c,.slice a' l'.length c'] G [] (fun v G' Ho=>∃ (s:Option Addr) (r:List IV) (d:Nat),v=.tuple #[.slice s r.length d,.int .i64 0]∧Arr G' s r∧r.length≤d∧Bigs G' r (List.zipWith (·+·) xs ys)∧Ho=[]):=by
 have h181:=UF G 42 a a' c c' l l' (fun k=>xs[k]?.getD 0+ys[k]?.getD 0) T.fn42 ha ha' hlen hl (fun k hk G' hG=>by
  have h1:=Du hb hm hk
  have h2:=Du hb' hm' (show k<l'.length by omega)
  exact YH G' _ _ _ _ ((hb.2 k hk).up hG) ((hb'.2 k sV).up hG) Sp Sp)
 rw [hb.1,AC xs ys (·+·) (by rw [←hb.1,←hb'.1,hlen]),←hb.1] at h181
 refine D0 Tryz.func295 Tryz.ntmps295 fun w=>?_
 refine aK 10 [] ?_
 refine bV 0 rfl (h181) fun v1 G1 Ho1 hle1 hp=>?_
 obtain ⟨s1,r1,d1,rfl,hA1,hl81,hB1,rfl⟩:=hp
 replace ha:=ha.up hle1
 replace ha':=ha'.up hle1
 replace hb:=hb.up hle1
 replace hb':=hb'.up hle1
 refine aW 7 [] ?_
 refine eG ?_
 exact ⟨_,_,_,rfl,hA1,hl81,hB1,rfl⟩
theorem ah (G:Imm) (a a':Option Addr) (c c':Nat) (l l':List IV) (xs ys:List Int) (m:Nat) (ha:Arr G a l) (ha':Arr G a' l') (hb:Bigs G l xs) (hb':Bigs G l' ys) (hm:Below m xs) (hm':Below m ys) (hmm:m≤268435456) (hlen:l.length=l'.length) (hl:l.length≤1048576) :
 Does Tryz.prog 297 [.slice a l.length c,.slice a' l'.length c'] G [] (fun v G' Ho=>∃ (s:Option Addr) (r:List IV) (d:Nat),v=.tuple #[.slice s r.length d,.int .i64 0]∧Arr G' s r∧r.length≤d∧Bigs G' r (List.zipWith (· - ·) xs ys)∧Ho=[]):=by
 have h181:=UF G 159 a a' c c' l l' (fun k=>xs[k]?.getD 0 - ys[k]?.getD 0) T.fn159 ha ha' hlen hl (fun k hk G' hG=>by
  have h1:=Du hb hm hk
  have h2:=Du hb' hm' (show k<l'.length by omega)
  exact TG G' _ _ _ _ ((hb.2 k hk).up hG) ((hb'.2 k sV).up hG) Sp Sp)
 rw [hb.1,AC xs ys (· - ·) (by rw [←hb.1,←hb'.1,hlen]),←hb.1] at h181
 refine D0 Tryz.func297 Tryz.ntmps297 fun w=>?_
 refine aK 10 [] ?_
 refine bV 0 rfl (h181) fun v1 G1 Ho1 hle1 hp=>?_
 obtain ⟨s1,r1,d1,rfl,hA1,hl81,hB1,rfl⟩:=hp
 replace ha:=ha.up hle1
 replace ha':=ha'.up hle1
 replace hb:=hb.up hle1
 replace hb':=hb'.up hle1
 refine aW 7 [] ?_
 refine eG ?_
 exact ⟨_,_,_,rfl,hA1,hl81,hB1,rfl⟩
theorem ai (G:Imm) (a:Option Addr) (c:Nat) (l:List IV) (xs:List Int) (y:IV) (z:Int) (m:Nat) (ha:Arr G a l) (hb:Bigs G l xs) (hm:Below m xs) (hmm:m≤268435456) (hl:l.length≤1048576) (hy:Big G y z) (hyn:y.n≤268435456) :
 Does Tryz.prog 298 [.slice a l.length c,.agg (Cells.enc y).toArray] G [] (fun v G' Ho=>Fj G' v (xs.map fun x=>z*x)∧Ho=[]):=by
 have hf:∀ k:Nat,k<l.length→∀ G',G.le G'→Does Tryz.prog 65 ([.agg (Cells.enc y).toArray]++[.agg (Cells.enc (l[(k:Int).toNat]?.getD default)).toArray]++[]) G' [] (fun v G'' Ho=>∃ r:IV,v=.agg (Cells.enc r).toArray∧Big G'' r (z*xs[k]?.getD 0)∧Ho=[]):=fun k hk G' hG=>by
  have h1:=Du hb hm hk
  exact YG G' _ _ _ _ (hy.up hG) ((hb.2 k hk).up hG) sV Sp
 have h180:=PJ G a c l 65 [.agg (Cells.enc y).toArray] (fun k=>z*xs[k]?.getD 0) T.fn65 ha hl hf
 rw [hb.1,Rn xs (fun x=>z*x),←hb.1] at h180
 refine D0 Tryz.func298 Tryz.ntmps298 fun w=>?_
 refine aK 2 [] ?_
 refine cV 0 fun b1=>?_
 refine aJ 7 [0] ?_
 refine aN (mQ rfl rfl) ?_
 refine bV 1 rfl (h180) fun v1 G1 Ho1 hle1 hp=>?_
 obtain ⟨s1,r1,d1,rfl,hA1,hl81,hB1,rfl⟩:=hp
 replace ha:=ha.up hle1
 replace hb:=hb.up hle1
 replace hy:=hy.up hle1
 refine aW 4 [] ?_
 refine bO ?_
 exact ⟨⟨_,_,_,rfl,hA1,hl81,hB1⟩,rfl⟩
theorem NY (xs:List Int) (z:Int):AB (fun k=>xs[k]?.getD 0 / z) xs.length=xs.map (· / z):=Rn xs (· / z)
theorem aj (G:Imm) (a:Option Addr) (c:Nat) (l:List IV) (xs:List Int) (y:IV) (z:Int) (m:Nat) (ha:Arr G a l) (hb:Bigs G l xs) (hm:Below m xs) (hmm:m≤268435456) (hl:l.length≤1048576) (hy:Big G y z) (hyn:y.n≤268435456) (hy0:z≠0) :
 Does Tryz.prog 300 [.slice a l.length c,.agg (Cells.enc y).toArray] G [] (fun v G' Ho=>((∀ i:Nat,i<xs.length→xs[i]?.getD 0 % z=0)→∃ (s:Option Addr) (r:List IV) (d:Nat),v=.tuple #[.slice s r.length d,.int .i64 0]∧Arr G' s r∧r.length≤d∧Bigs G' r (xs.map (· / z)))∧
  (¬(∀ i:Nat,i<xs.length→xs[i]?.getD 0 % z=0)→v=.tuple #[.slice none 0 0,.int .i64 20])∧Ho=[]):=by
 have hxl:=hb.1
 refine D0 Tryz.func300 Tryz.ntmps300 fun w=>?_
 refine fO 9 (tK 89 ([]:List IV) []) ?_
 have hz0:¬Ck z=0:=fun h=>hy0 (Li.1 h)
 refine aK 2 [] ?_
 refine cV 10 fun b1=>?_
 refine aJ 8 [10] ?_
 refine bW rfl (Tv _ y z hy (aO hyn tF)) ?_
 refine bJ 20 [0] ?_
 refine jQ (ι:=Nat×Imm×List IV×(Option Addr×Nat×List Value)) (fun (k,Gx,r,(o,d,j))=>([(17,.int .i64 (k:Int)),(6,.slice o r.length d),(16,.int .i64 (l.length:Int)),(15,.slice a (List.length l) c),(3,.pointer (some ⟨b1,0,none⟩))],[(9,o.map (·.block),tK 89 r j),(10,some b1,.cells (List.toArray (Cells.enc y)) 89)])) (fun (k,Gx,r,(o,d,j))=>Gx) (fun (k,Gx,r,(o,d,j))=>k≤l.length∧G.le Gx∧r.length=k∧Bigs Gx r (AB (fun k=>xs[k]?.getD 0 / z) k)∧OwnA o d r j∧(∀ i:Nat,i<k→xs[i]?.getD 0 % z=0)) (fun (k,Gx,r,(o,d,j))=>l.length - k) ((0,G,[],(none,0,[]))) (⟨aU _,cA _,rfl,⟨rfl,fun i h=>absurd h tS⟩,eW,fun i h=>absurd h sV⟩) rfl ⟨rfl,rfl,rfl,rfl,rfl,trivial⟩ ⟨rfl,rfl,trivial⟩ fun ⟨k,Gx,r,(o,d,j)⟩=>fun hk=>?_
 obtain ⟨hk1,hk2,hk3,hk4,hk5,hk6⟩:=hk
 replace ha:=ha.up hk2
 replace hb:=hb.up hk2
 replace hy:=hy.up hk2
 rcases aM k l.length with hkl | hkl
 · have hx:=hb.2 k hkl
   have hxn:(l[(k:Int).toNat]?.getD default).n≤268435456:=by rw [aF];exact aO (Du hb hm hkl) hmm
   have hx:Big Gx (l[(k:Int).toNat]?.getD default) (xs[k]?.getD 0):=by rw [aF];exact hx
   have hlt:((xs[k]?.getD 0 % z).natAbs:Int)<pb y.n:=by
    have e2:=Xl (x:=xs[k]?.getD 0) hy0
    have e3:=Big.lt hy
    omega
   refine aK 13 [1] ?_
   refine dP (α:=IV) T.sl39 ?_
   refine mM T.agg89 ?_
   refine aQ 11 rfl T.zero89 fun b2=>?_
   refine aJ 7 [11,11,10] ?_
   refine bV 12 rfl (YI _ _ _ _ _ hx hy hxn hyn hy0) fun v1 G1 Ho1 hle1 hp=>?_
   obtain ⟨q1,r1,rfl,hq1,hr1,rfl⟩:=hp
   replace hk4:=hk4.up hle1
   replace ha:=ha.up hle1
   replace hb:=hb.up hle1
   replace hy:=hy.up hle1
   replace hx:=hx.up hle1
   refine aA 4 [] ?_
   refine aQ 12 rfl T.zero89 fun b3=>?_
   refine aQ 13 rfl T.zero89 fun b4=>?_
   refine aJ 9 [12,13,13] ?_
   refine bW rfl (Tv _ r1 (xs[k]?.getD 0 % z) hr1 (aO (iR hr1 hlt) (aO hyn tF))) ?_
   refine bJ 3 [] ?_
   refine dN (fun hc1=>?_) fun hc1=>?_
   refine bE 13 [] ?_
   rotate_left
   refine aK 5 [12] ?_
   refine fF (α:=IV) 14 [(q1)] rfl T.sl39 T.el89 rfl rfl rfl rfl rfl fun b5=>?_
   refine kO (α:=IV) 9 T.sl39 T.el89 (fZ 14 rfl) fun a1 c1 junk1 ho1=>?_
   refine aW 8 [] ?_
   rotate_left
   · refine eG ?_
     have hno:¬(∀ i:Nat,i<xs.length→xs[i]?.getD 0 % z=0):=fun h=>hc1 (Li.2 (h k sV))
     exact ⟨fun h=>absurd h hno,fun _=>rfl,rfl⟩
   have hdz:xs[k]?.getD 0 % z=0:=Li.1 (dO fun h=>hc1 h)
   refine cZ 17 rfl (show _=Value.int .i64 ((k+1:Nat):Int) from rfl) ?_
   refine cS ((k+1,_,r++[q1],(a1,c1,junk1))) ?_ ?_
   · refine ⟨hkl,aZ hk2 hle1,by rw [aI,hk3];rfl,?_,ho1,fun i hi=>?_⟩
     · rw [Ls];exact Hv hk4 hq1
     rcases aM i k with h | h
     · exact hk6 i h
     have e:i=k:=sV
     rw [e];exact hdz
   show l.length - (k+1)<l.length - k
   omega
 have hkl:k=l.length:=sV
 subst hkl
 refine bE 20 [0] ?_
 refine eE 9 rfl hk5 fun G8 hle8 hA8=>?_
 refine eG ?_
 rw [hxl] at hk6
 refine ⟨fun _=>⟨o,r,d,rfl,hA8,hk5.le,?_⟩,fun h=>absurd hk6 h,rfl⟩
 rw [←NY,←hxl];exact hk4.up hle8
theorem ak (G:Imm) (a a':Option Addr) (c c':Nat) (l l':List IV) (xs ys:List Int) (m:Nat) (ha:Arr G a l) (ha':Arr G a' l') (hb:Bigs G l xs) (hb':Bigs G l' ys) (hm:Below m xs) (hm':Below m ys) (hmm:m≤268435456) (hlen:l.length=l'.length) (hl:l.length≤1048576) :
 Does Tryz.prog 294 [.slice a l.length c,.slice a' l'.length c'] G [] (fun v G' Ho=>Fj G' v (List.zipWith (·+·) xs ys)∧Ho=[]):=by
 refine D0 Tryz.func294 Tryz.ntmps294 fun w=>?_
 refine aK 9 [] ?_
 refine bV 0 rfl (af _ a a' c c' l l' xs ys m ha ha' hb hb' hm hm' hmm hlen hl) fun v1 G1 Ho1 hle1 hp=>?_
 obtain ⟨s1,r1,d1,rfl,hA1,hl81,hB1,rfl⟩:=hp
 replace ha:=ha.up hle1
 replace ha':=ha'.up hle1
 replace hb:=hb.up hle1
 replace hb':=hb'.up hle1
 refine aW 14 [] ?_
 refine bO ?_
 exact ⟨⟨_,_,_,rfl,hA1,hl81,hB1⟩,rfl⟩
theorem al (G:Imm) (a a':Option Addr) (c c':Nat) (l l':List IV) (xs ys:List Int) (m:Nat) (ha:Arr G a l) (ha':Arr G a' l') (hb:Bigs G l xs) (hb':Bigs G l' ys) (hm:Below m xs) (hm':Below m ys) (hmm:m≤268435456) (hlen:l.length=l'.length) (hl:l.length≤1048576) :
 Does Tryz.prog 296 [.slice a l.length c,.slice a' l'.length c'] G [] (fun v G' Ho=>Fj G' v (List.zipWith (· - ·) xs ys)∧Ho=[]):=by
 refine D0 Tryz.func296 Tryz.ntmps296 fun w=>?_
 refine aK 9 [] ?_
 refine bV 0 rfl (ah _ a a' c c' l l' xs ys m ha ha' hb hb' hm hm' hmm hlen hl) fun v1 G1 Ho1 hle1 hp=>?_
 obtain ⟨s1,r1,d1,rfl,hA1,hl81,hB1,rfl⟩:=hp
 replace ha:=ha.up hle1
 replace ha':=ha'.up hle1
 replace hb:=hb.up hle1
 replace hb':=hb'.up hle1
 refine aW 14 [] ?_
 refine bO ?_
 exact ⟨⟨_,_,_,rfl,hA1,hl81,hB1⟩,rfl⟩
theorem am (G:Imm) (a:Option Addr) (c:Nat) (l:List IV) (xs:List Int) (y:IV) (z:Int) (m:Nat) (ha:Arr G a l) (hb:Bigs G l xs) (hm:Below m xs) (hmm:m≤268435456) (hl:l.length≤1048576) (hy:Big G y z) (hyn:y.n≤268435456) (hy0:z≠0) :
 Does Tryz.prog 299 [.slice a l.length c,.agg (Cells.enc y).toArray] G [] (fun v G' Ho=>((∀ i:Nat,i<xs.length→xs[i]?.getD 0 % z=0)→∃ (s:Option Addr) (r:List IV) (d:Nat),v=.tuple #[.slice s r.length d,.bool true]∧Arr G' s r∧r.length≤d∧Bigs G' r (xs.map (· / z)))∧
  (¬(∀ i:Nat,i<xs.length→xs[i]?.getD 0 % z=0)→v=.tuple #[.slice none 0 0,.bool false])∧Ho=[]):=by
 have h:=aj G a c l xs y z m ha hb hm hmm hl hy hyn hy0
 by_cases hd:∀ i:Nat,i<xs.length→xs[i]?.getD 0 % z=0
 · have h1:=h.mono fun v G' Ho _ ⟨p1,p2,p3⟩=>(⟨p1 hd,p3⟩:(∃ (s:Option Addr) (r:List IV) (d:Nat),v=Value.tuple #[.slice s r.length d,.int .i64 0]∧Arr G' s r∧r.length≤d∧Bigs G' r (xs.map (· / z)))∧Ho=[])
   refine D0 Tryz.func299 Tryz.ntmps299 fun w=>?_
   refine aK 2 [] ?_
   refine cV 0 fun b1=>?_
   refine aJ 8 [0] ?_
   refine bV 1 rfl (h1) fun v1 G1 Ho1 hle1 hp=>?_
   obtain ⟨⟨s1,r1,d1,rfl,hA1,hl81,hB1⟩,rfl⟩:=hp
   replace ha:=ha.up hle1
   replace hb:=hb.up hle1
   replace hy:=hy.up hle1
   refine aW 17 [] ?_
   refine eG ?_
   exact ⟨fun _=>⟨_,_,_,rfl,hA1,hl81,hB1⟩,fun h=>absurd hd h,rfl⟩
 have h1:=h.mono fun v G' Ho _ ⟨p1,p2,p3⟩=>(⟨p2 hd,p3⟩:v=Value.tuple #[.slice none 0 0,.int .i64 20]∧Ho=[])
 refine D0 Tryz.func299 Tryz.ntmps299 fun w=>?_
 refine aK 2 [] ?_
 refine cV 0 fun b1=>?_
 refine aJ 8 [0] ?_
 refine bV 1 rfl (h1) fun v1 G1 Ho1 hle1 hp=>?_
 obtain ⟨rfl,rfl⟩:=hp
 replace ha:=ha.up hle1
 replace hb:=hb.up hle1
 replace hy:=hy.up hle1
 refine aW 17 [] ?_
 refine eG ?_
 exact ⟨fun h=>absurd h hd,fun _=>rfl,rfl⟩
def IQ:Value:=.agg #[.func (.func 293) #[] #[],.func (.func 294) #[] #[],.func (.func 296) #[] #[],.func (.func 298) #[] #[],.func (.func 299) #[] #[]]
theorem aq (G:Imm):Does Tryz.prog 251 [] G [] (fun v G' Ho=>v=IQ∧G'=G∧Ho=[]):=by
 refine D0 Tryz.func251 Tryz.ntmps251 fun w=>?_
 refine aK 2 [] ?_
 refine aQ 0 rfl T.zero352 fun b1=>?_
 refine aJ 4 [] ?_
 refine aN (fB (cs:=[_,_,_,_,_]) T.st352 rfl rfl rfl) ?_
 refine aW 4 [0] ?_
 refine dL (.inr rfl) (Ho:=[]) rfl (.agg 0 rfl rfl T.agg352) trivial ?_
 exact ⟨rfl,rfl,rfl⟩
end
section
attribute [local irreducible] sX pb tQ tN p2 cst
def EvenB (m N:Nat) (rs:List (List Int)):Prop:=∀ zs∈rs,zs.length=N∧Below m zs
theorem EvenB.at {m N:Nat} {rs:List (List Int)} (h:EvenB m N rs) {k:Nat} (hk:k<rs.length):(rs[k]?.getD []).length=N∧Below m (rs[k]?.getD []):=by
 rw [aB hk];exact h _ (dJ hk)
def Rp (i:Sl.Instr) (rs:List (List Int)) (H0:Hp) (v:Value) (G':Imm) (Ho:Hp):Prop:=
 ∃ s:SV,v=.tuple #[.slice s.a s.n s.c,.bool (decide (yF i rs≠none))]∧(∀ z,yF i rs=some z→BRow G' s z)∧Ho=H0
theorem yE {i:Sl.Instr} {rs:List (List Int)} {H0:Hp} {s:SV} {G':Imm} {z:List Int} (h:yF i rs=some z) (hx:BRow G' s z):Rp i rs H0 (.tuple #[.slice s.a s.n s.c,.bool true]) G' H0:=
 ⟨s,by rw [cL (show yF i rs≠none from fun e=>by rw [e] at h;cases h)],fun z' h'=>by rw [h] at h';cases h';exact hx,rfl⟩
theorem Uw {i:Sl.Instr} {rs:List (List Int)} {H0:Hp} {G':Imm} (h:yF i rs=none):Rp i rs H0 (.tuple #[.slice none 0 0,.bool false]) G' H0:=
 ⟨⟨none,0,0⟩,by rw [bF (show ¬yF i rs≠none from fun e=>e h)],(fun z hz=>by rw [h] at hz;cases hz),rfl⟩
theorem xR {G:Imm} {s:Option Addr} {r:List IV} {d:Nat} {zs:List Int} (hA:Arr G s r) (hd:r.length≤d) (hB:Bigs G r zs):BRow G ⟨s,r.length,d⟩ zs:=⟨r,rfl,hd,hA,hB⟩
theorem IR (xs:List Int):(xs.map fun x=>-1*x)=xs.map fun x=>-x:=by
 congr 1;funext x;rw [pL,fH]
theorem IS (xs ys:List Int):List.zipWith (fun x y=>x+1*y) xs ys=List.zipWith (·+·) xs ys:=by
 congr 1;funext x y;rw [fH]
theorem IT (xs ys:List Int):List.zipWith (fun x y=>x+(-1)*y) xs ys=List.zipWith (· - ·) xs ys:=by
 congr 1;funext x y;rw [pL,fH];rfl
theorem ar (G:Imm) (i:Sl.Instr) (o:Option Addr) (d:Nat) (r:List SV) (j:List Value) (rs:List (List Int)) (m N:Nat) (hob:OwnA o d r j) (hg:BGrid G r rs) (hm:EvenB m N rs) (hN:N≤1048576) (hm2:m≤268435456)
 (hop:1≤i.op∧i.op≤8) (ha:0≤i.a∧i.a<r.length) (hb:0≤i.b∧i.b<r.length)
 (hcst:i.op≠1→i.op≠2→i.op≠3→i.op≠4→cst i≠0∧((cst i).natAbs:Int)<pb 3)
 (hc1:i.op=5∨i.op=6→-9223372036854775808≤i.c∧i.c≤9223372036854775807) (hc2:¬(i.op=5∨i.op=6)→0≤i.c∧i.c≤64) :
 Does Tryz.prog 292 [IQ,.slice o r.length d,.agg (Cells.enc i).toArray] G [(0,o.map (·.block),tK 39 r j)] (fun v G' Ho=>Rp i rs [(0,o.map (·.block),tK 39 r j)] v G' Ho):=by
 have hca:=hob.le
 obtain ⟨la,a1,a2,a3,a4⟩:=hg.2 i.a.toNat sV
 obtain ⟨lb,b1,b2,b3,b4⟩:=hg.2 i.b.toNat sV
 have hrl:=hg.1
 obtain ⟨na,ma⟩:=hm.at (k:=i.a.toNat) sV
 obtain ⟨nb,mb⟩:=hm.at (k:=i.b.toNat) sV
 have hla:la.length≤1048576:=by rw [a4.1,na];exact hN
 have hlab:la.length=lb.length:=by rw [a4.1,b4.1,na,nb]
 refine D0 Tryz.func292 Tryz.ntmps292 fun w=>?_
 have h118:=aa G _ (r[i.a.toNat]?.getD default).c la _ m a3 a4 ma hm2 hla
 have h119:=ak G _ _ (r[i.a.toNat]?.getD default).c (r[i.b.toNat]?.getD default).c la lb _ _ m a3 b3 a4 b4 ma mb hm2 hlab hla
 have h121:=al G _ _ (r[i.a.toNat]?.getD default).c (r[i.b.toNat]?.getD default).c la lb _ _ m a3 b3 a4 b4 ma mb hm2 hlab hla
 rw [a1] at h118
 rw [a1,b1] at h119 h121
 have h123:∀ G1 y z,G.le G1→Big G1 y z→y.n≤268435456→Does Tryz.prog 298 [.slice (r[i.a.toNat]?.getD default).a (r[i.a.toNat]?.getD default).n (r[i.a.toNat]?.getD default).c,.agg (Cells.enc y).toArray] G1 [] (fun v G' Ho=>Fj G' v ((rs[i.a.toNat]?.getD []).map fun x=>z*x)∧Ho=[]):=fun G1 y z hG hy hyn=>by
  have h:=ai G1 _ (r[i.a.toNat]?.getD default).c la _ y z m (a3.up hG) (a4.up hG) ma hm2 hla hy hyn
  rw [a1] at h;exact h
 have h124:∀ G1 y z,G.le G1→Big G1 y z→y.n≤268435456→z≠0→Does Tryz.prog 299 [.slice (r[i.a.toNat]?.getD default).a (r[i.a.toNat]?.getD default).n (r[i.a.toNat]?.getD default).c,.agg (Cells.enc y).toArray] G1 [] (fun v G' Ho=>(vC z (rs[i.a.toNat]?.getD [])→∃ (s:Option Addr) (r':List IV) (d:Nat),v=.tuple #[.slice s r'.length d,.bool true]∧Arr G' s r'∧r'.length≤d∧Bigs G' r' ((rs[i.a.toNat]?.getD []).map (· / z)))∧
  (¬vC z (rs[i.a.toNat]?.getD [])→v=.tuple #[.slice none 0 0,.bool false])∧Ho=[]):=fun G1 y z hG hy hyn hz=>by
  have h:=am G1 _ (r[i.a.toNat]?.getD default).c la _ y z m (a3.up hG) (a4.up hG) ma hm2 hla hy hyn hz
  rw [a1] at h;exact h
 by_cases h2:i.op=2
 · refine aK 2 [] ?_
   refine cV 1 fun b5=>?_
   refine cV 2 fun b6=>?_
   refine bJ 5 [] ?_
   refine eB [0,1,2] [] T.mixed [[0],[1],[2,2]] ?_
   refine kS (α:=SV) 3 T.sl86 ?_
   refine mS 4 0 0 T.one39 ?_
   refine eJ [[5],[6],[7,2]] ?_
   refine kS (α:=SV) 8 T.sl86 ?_
   refine mS 9 0 0 T.one39 ?_
   refine eJ [[10],[11]] ?_
   refine dV ?_
   refine pY 21 [2,1,1] ?_
   refine iG (fst:=[]) (cap:=[]) 3 rfl T.fn293 rfl rfl (h118) (uH trivial) fun v1 G1 Ho1 hle1 hp=>?_
   obtain ⟨⟨s1,r1,d1,rfl,hA1,hl81,hB1⟩,rfl⟩:=hp
   replace a3:=a3.up hle1
   replace a4:=a4.up hle1
   replace b3:=b3.up hle1
   replace b4:=b4.up hle1
   refine aW 7 [] ?_
   refine sH [0] ?_
   exact yE (by unfold yF;simp only [h2,eR];rw [IR]) (xR hA1 hl81 hB1)
 by_cases h3:i.op=3
 · refine aK 2 [] ?_
   refine cV 1 fun b5=>?_
   refine cV 2 fun b6=>?_
   refine bJ 5 [] ?_
   refine eB [0,1,2] [] T.mixed [[0],[1],[2,2]] ?_
   refine kS (α:=SV) 3 T.sl86 ?_
   refine mS 4 0 0 T.one39 ?_
   refine eJ [[5],[6],[7,2]] ?_
   refine kS (α:=SV) 8 T.sl86 ?_
   refine mS 9 0 0 T.one39 ?_
   refine eJ [[10],[11]] ?_
   refine dV ?_
   refine pY 29 [2,0,1,1] ?_
   refine iG (fst:=[]) (cap:=[]) 3 rfl T.fn294 rfl rfl (h119) (uH trivial) fun v1 G1 Ho1 hle1 hp=>?_
   obtain ⟨⟨s1,r1,d1,rfl,hA1,hl81,hB1⟩,rfl⟩:=hp
   replace a3:=a3.up hle1
   replace a4:=a4.up hle1
   replace b3:=b3.up hle1
   replace b4:=b4.up hle1
   refine aW 7 [] ?_
   refine sH [0] ?_
   exact yE (by unfold yF;simp only [h3,eR];rw [aL (by decide),IS]) (xR hA1 hl81 hB1)
 by_cases h4:i.op=4
 · refine aK 2 [] ?_
   refine cV 1 fun b5=>?_
   refine cV 2 fun b6=>?_
   refine bJ 5 [] ?_
   refine eB [0,1,2] [] T.mixed [[0],[1],[2,2]] ?_
   refine kS (α:=SV) 3 T.sl86 ?_
   refine mS 4 0 0 T.one39 ?_
   refine eJ [[5],[6],[7,2]] ?_
   refine kS (α:=SV) 8 T.sl86 ?_
   refine mS 9 0 0 T.one39 ?_
   refine eJ [[10],[11]] ?_
   refine dV ?_
   refine pY 36 [2,0,0,1,1] ?_
   refine iG (fst:=[]) (cap:=[]) 3 rfl T.fn296 rfl rfl (h121) (uH trivial) fun v1 G1 Ho1 hle1 hp=>?_
   obtain ⟨⟨s1,r1,d1,rfl,hA1,hl81,hB1⟩,rfl⟩:=hp
   replace a3:=a3.up hle1
   replace a4:=a4.up hle1
   replace b3:=b3.up hle1
   replace b4:=b4.up hle1
   refine aW 7 [] ?_
   refine sH [0] ?_
   exact yE (by unfold yF;simp only [h4,eR];rw [aL (by decide),aL (by decide),IT]) (xR hA1 hl81 hB1)
 by_cases h1:i.op=1
 · refine aK 2 [] ?_
   refine cV 1 fun b5=>?_
   refine cV 2 fun b6=>?_
   refine bJ 5 [] ?_
   refine eB [0,1,2] [] T.mixed [[0],[1],[2,2]] ?_
   refine kS (α:=SV) 3 T.sl86 ?_
   refine mS 4 0 0 T.one39 ?_
   refine eJ [[5],[6],[7,2]] ?_
   refine kS (α:=SV) 8 T.sl86 ?_
   refine mS 9 0 0 T.one39 ?_
   refine eJ [[10],[11]] ?_
   refine dV ?_
   refine gZ 69 [2,0,0,0,0,0,0,0] ?_
   refine sH [0] ?_
   exact yE (by unfold yF;simp only [h1];rfl) ⟨la,a1,a2,a3,a4⟩
 obtain ⟨hk0,hk3⟩:=hcst h1 h2 h3 h4
 by_cases h5:i.op=5
 · have hc9:=hc1 (.inl h5)
   have e5:cst i=i.c:=Uc (.inl h5)
   rw [e5] at hk3
   refine aK 2 [] ?_
   refine cV 1 fun b5=>?_
   refine cV 2 fun b6=>?_
   refine bJ 5 [] ?_
   refine eB [0,1,2] [] T.mixed [[0],[1],[2,2]] ?_
   refine kS (α:=SV) 3 T.sl86 ?_
   refine mS 4 0 0 T.one39 ?_
   refine eJ [[5],[6],[7,2]] ?_
   refine kS (α:=SV) 8 T.sl86 ?_
   refine mS 9 0 0 T.one39 ?_
   refine eJ [[10],[11]] ?_
   refine dV ?_
   refine oJ 38 [2,0,0,0,1] ?_
   refine eB [0,1,2] [(2,6),(1,6),(0,6)] T.mixed [[0],[1,1],[2],[3]] ?_
   refine fE 4 ?_
   refine aA 1 [2] ?_
   refine bT 5 ?_
   refine bV 3 rfl (LK _ i.c hc9) fun v1 G1 Ho1 hle1 hp=>?_
   obtain ⟨rk,rfl,hrk,rfl⟩:=hp
   replace a3:=a3.up hle1
   replace a4:=a4.up hle1
   replace b3:=b3.up hle1
   replace b4:=b4.up hle1
   refine bT 6 ?_
   refine iG (fst:=[]) (cap:=[]) 3 rfl T.fn298 rfl rfl (h123 _ rk _ sW hrk (aO (iR hrk hk3) tF)) (uH trivial) fun v2 G2 Ho2 hle2 hp=>?_
   obtain ⟨⟨s2,r2,d2,rfl,hA2,hl82,hB2⟩,rfl⟩:=hp
   replace hrk:=hrk.up hle2
   replace a3:=a3.up hle2
   replace a4:=a4.up hle2
   replace b3:=b3.up hle2
   replace b4:=b4.up hle2
   refine dW ?_
   refine eJ [[7],[8]] ?_
   refine dV ?_
   refine gZ 4 [] ?_
   refine sH [0] ?_
   all_goals exact yE (by unfold yF;simp only [h5,true_or,eR];rw [aL (by decide),aL (by decide),aL (by decide),e5]) (xR sW sW sW)
 by_cases h6:i.op=6
 · have hc9:=hc1 (.inr h6)
   have e5:cst i=i.c:=Uc (.inr h6)
   rw [e5] at hk3 hk0
   have h124Y:vC (i.c) (rs[i.a.toNat]?.getD [])→∀ G1 y,G.le G1→Big G1 y (i.c)→y.n≤268435456→Does Tryz.prog 299 [.slice (r[i.a.toNat]?.getD default).a (r[i.a.toNat]?.getD default).n (r[i.a.toNat]?.getD default).c,.agg (Cells.enc y).toArray] G1 [] (fun v G' Ho=>(∃ (s:Option Addr) (r':List IV) (d:Nat),v=.tuple #[.slice s r'.length d,.bool true]∧Arr G' s r'∧r'.length≤d∧Bigs G' r' ((rs[i.a.toNat]?.getD []).map (· / (i.c))))∧Ho=[]):=
    fun hd G1 y hG hy hyn=>(h124 G1 y _ hG hy hyn hk0).mono fun v G' Ho _ ⟨p1,p2,p3⟩=>⟨p1 hd,p3⟩
   have h124N:¬vC (i.c) (rs[i.a.toNat]?.getD [])→∀ G1 y,G.le G1→Big G1 y (i.c)→y.n≤268435456→Does Tryz.prog 299 [.slice (r[i.a.toNat]?.getD default).a (r[i.a.toNat]?.getD default).n (r[i.a.toNat]?.getD default).c,.agg (Cells.enc y).toArray] G1 [] (fun v G' Ho=>v=.tuple #[.slice none 0 0,.bool false]∧Ho=[]):=
    fun hd G1 y hG hy hyn=>(h124 G1 y _ hG hy hyn hk0).mono fun v G' Ho _ ⟨p1,p2,p3⟩=>⟨p2 hd,p3⟩
   by_cases hd:vC (i.c) (rs[i.a.toNat]?.getD [])
   · skip
     refine aK 2 [] ?_
     refine cV 1 fun b5=>?_
     refine cV 2 fun b6=>?_
     refine bJ 5 [] ?_
     refine eB [0,1,2] [] T.mixed [[0],[1],[2,2]] ?_
     refine kS (α:=SV) 3 T.sl86 ?_
     refine mS 4 0 0 T.one39 ?_
     refine eJ [[5],[6],[7,2]] ?_
     refine kS (α:=SV) 8 T.sl86 ?_
     refine mS 9 0 0 T.one39 ?_
     refine eJ [[10],[11]] ?_
     refine dV ?_
     refine oJ 52 [2,0,0,0,0,0,1] ?_
     refine eB [0,1,2] [(2,6),(1,6),(0,6)] T.mixed [[0],[1,1],[2],[3]] ?_
     refine fE 4 ?_
     refine aA 1 [2] ?_
     refine bT 5 ?_
     refine bV 3 rfl (LK _ i.c hc9) fun v1 G1 Ho1 hle1 hp=>?_
     obtain ⟨rk,rfl,hrk,rfl⟩:=hp
     replace a3:=a3.up hle1
     replace a4:=a4.up hle1
     replace b3:=b3.up hle1
     replace b4:=b4.up hle1
     refine bT 6 ?_
     refine iG (fst:=[]) (cap:=[]) 3 rfl T.fn299 rfl rfl (h124Y hd _ rk sW hrk (aO (iR hrk hk3) tF)) (uH trivial) fun v2 G2 Ho2 hle2 hp=>?_
     obtain ⟨⟨s2,r2,d2,rfl,hA2,hl82,hB2⟩,rfl⟩:=hp
     replace hrk:=hrk.up hle2
     replace a3:=a3.up hle2
     replace a4:=a4.up hle2
     replace b3:=b3.up hle2
     replace b4:=b4.up hle2
     refine dW ?_
     refine eJ [[7],[8],[9],[10]] ?_
     refine dV ?_
     refine gZ 4 [] ?_
     refine sH [0] ?_
     all_goals exact yE (by unfold yF;simp only [h6,true_or,eR];first | (rw [aL (by decide),aL (by decide),aL (by decide),aL (by decide),e5,aR hd]) | (rw [aL (by decide),aL (by decide),aL (by decide),aL (by decide)];exact (by rw [e5];exact aR hd))) (xR sW sW sW)
   skip
   refine aK 2 [] ?_
   refine cV 1 fun b5=>?_
   refine cV 2 fun b6=>?_
   refine bJ 5 [] ?_
   refine eB [0,1,2] [] T.mixed [[0],[1],[2,2]] ?_
   refine kS (α:=SV) 3 T.sl86 ?_
   refine mS 4 0 0 T.one39 ?_
   refine eJ [[5],[6],[7,2]] ?_
   refine kS (α:=SV) 8 T.sl86 ?_
   refine mS 9 0 0 T.one39 ?_
   refine eJ [[10],[11]] ?_
   refine dV ?_
   refine oJ 52 [2,0,0,0,0,0,1] ?_
   refine eB [0,1,2] [(2,6),(1,6),(0,6)] T.mixed [[0],[1,1],[2],[3]] ?_
   refine fE 4 ?_
   refine aA 1 [2] ?_
   refine bT 5 ?_
   refine bV 3 rfl (LK _ i.c hc9) fun v1 G1 Ho1 hle1 hp=>?_
   obtain ⟨rk,rfl,hrk,rfl⟩:=hp
   replace a3:=a3.up hle1
   replace a4:=a4.up hle1
   replace b3:=b3.up hle1
   replace b4:=b4.up hle1
   refine bT 6 ?_
   refine iG (fst:=[]) (cap:=[]) 3 rfl T.fn299 rfl rfl (h124N hd _ rk sW hrk (aO (iR hrk hk3) tF)) (uH trivial) fun v2 G2 Ho2 hle2 hp=>?_
   obtain ⟨rfl,rfl⟩:=hp
   replace hrk:=hrk.up hle2
   replace a3:=a3.up hle2
   replace a4:=a4.up hle2
   replace b3:=b3.up hle2
   replace b4:=b4.up hle2
   refine dW ?_
   refine eJ [[7],[8],[9],[10]] ?_
   refine dV ?_
   refine gZ 4 [] ?_
   refine sH [0] ?_
   all_goals exact Uw (by unfold yF;simp only [h6,true_or,eR];rw [aL (by decide),aL (by decide),aL (by decide),aL (by decide),e5,aL hd])
 have hc64:=hc2 (fun h=>h.elim h5 h6)
 have e5:cst i=p2 i.c.toNat:=HM (fun h=>h.elim h5 h6)
 rw [e5] at hk3 hk0
 by_cases h7:i.op=7
 · refine aK 2 [] ?_
   refine cV 1 fun b5=>?_
   refine cV 2 fun b6=>?_
   refine bJ 5 [] ?_
   refine eB [0,1,2] [] T.mixed [[0],[1],[2,2]] ?_
   refine kS (α:=SV) 3 T.sl86 ?_
   refine mS 4 0 0 T.one39 ?_
   refine eJ [[5],[6],[7,2]] ?_
   refine kS (α:=SV) 8 T.sl86 ?_
   refine mS 9 0 0 T.one39 ?_
   refine eJ [[10],[11]] ?_
   refine dV ?_
   refine oJ 45 [2,0,0,0,0,1] ?_
   refine eB [0,1,2] [(2,6),(1,6),(0,6)] T.mixed [[0],[1,1],[2],[3]] ?_
   refine fE 4 ?_
   refine aA 1 [2] ?_
   refine bT 5 ?_
   refine bV 3 rfl (IP _ i.c hc64) fun v1 G1 Ho1 hle1 hp=>?_
   obtain ⟨rk,rfl,hrk,rfl⟩:=hp
   replace a3:=a3.up hle1
   replace a4:=a4.up hle1
   replace b3:=b3.up hle1
   replace b4:=b4.up hle1
   refine bT 6 ?_
   refine iG (fst:=[]) (cap:=[]) 3 rfl T.fn298 rfl rfl (h123 _ rk _ sW hrk (aO (iR hrk hk3) tF)) (uH trivial) fun v2 G2 Ho2 hle2 hp=>?_
   obtain ⟨⟨s2,r2,d2,rfl,hA2,hl82,hB2⟩,rfl⟩:=hp
   replace hrk:=hrk.up hle2
   replace a3:=a3.up hle2
   replace a4:=a4.up hle2
   replace b3:=b3.up hle2
   replace b4:=b4.up hle2
   refine dW ?_
   refine eJ [[7],[8]] ?_
   refine dV ?_
   refine gZ 4 [] ?_
   refine sH [0] ?_
   all_goals exact yE (by unfold yF;simp only [h7,or_true,eR];rw [aL (by decide),aL (by decide),aL (by decide),e5]) (xR sW sW sW)
 have h8:i.op=8:=sV
 have h124Y:vC (p2 i.c.toNat) (rs[i.a.toNat]?.getD [])→∀ G1 y,G.le G1→Big G1 y (p2 i.c.toNat)→y.n≤268435456→Does Tryz.prog 299 [.slice (r[i.a.toNat]?.getD default).a (r[i.a.toNat]?.getD default).n (r[i.a.toNat]?.getD default).c,.agg (Cells.enc y).toArray] G1 [] (fun v G' Ho=>(∃ (s:Option Addr) (r':List IV) (d:Nat),v=.tuple #[.slice s r'.length d,.bool true]∧Arr G' s r'∧r'.length≤d∧Bigs G' r' ((rs[i.a.toNat]?.getD []).map (· / (p2 i.c.toNat))))∧Ho=[]):=
  fun hd G1 y hG hy hyn=>(h124 G1 y _ hG hy hyn hk0).mono fun v G' Ho _ ⟨p1,p2,p3⟩=>⟨p1 hd,p3⟩
 have h124N:¬vC (p2 i.c.toNat) (rs[i.a.toNat]?.getD [])→∀ G1 y,G.le G1→Big G1 y (p2 i.c.toNat)→y.n≤268435456→Does Tryz.prog 299 [.slice (r[i.a.toNat]?.getD default).a (r[i.a.toNat]?.getD default).n (r[i.a.toNat]?.getD default).c,.agg (Cells.enc y).toArray] G1 [] (fun v G' Ho=>v=.tuple #[.slice none 0 0,.bool false]∧Ho=[]):=
  fun hd G1 y hG hy hyn=>(h124 G1 y _ hG hy hyn hk0).mono fun v G' Ho _ ⟨p1,p2,p3⟩=>⟨p2 hd,p3⟩
 by_cases hd:vC (p2 i.c.toNat) (rs[i.a.toNat]?.getD [])
 · skip
   refine aK 2 [] ?_
   refine cV 1 fun b5=>?_
   refine cV 2 fun b6=>?_
   refine bJ 5 [] ?_
   refine eB [0,1,2] [] T.mixed [[0],[1],[2,2]] ?_
   refine kS (α:=SV) 3 T.sl86 ?_
   refine mS 4 0 0 T.one39 ?_
   refine eJ [[5],[6],[7,2]] ?_
   refine kS (α:=SV) 8 T.sl86 ?_
   refine mS 9 0 0 T.one39 ?_
   refine eJ [[10],[11]] ?_
   refine dV ?_
   refine oJ 59 [2,0,0,0,0,0,0,1] ?_
   refine eB [0,1,2] [(2,6),(1,6),(0,6)] T.mixed [[0],[1,1],[2],[3]] ?_
   refine fE 4 ?_
   refine aA 1 [2] ?_
   refine bT 5 ?_
   refine bV 3 rfl (IP _ i.c hc64) fun v1 G1 Ho1 hle1 hp=>?_
   obtain ⟨rk,rfl,hrk,rfl⟩:=hp
   replace a3:=a3.up hle1
   replace a4:=a4.up hle1
   replace b3:=b3.up hle1
   replace b4:=b4.up hle1
   refine bT 6 ?_
   refine iG (fst:=[]) (cap:=[]) 3 rfl T.fn299 rfl rfl (h124Y hd _ rk sW hrk (aO (iR hrk hk3) tF)) (uH trivial) fun v2 G2 Ho2 hle2 hp=>?_
   obtain ⟨⟨s2,r2,d2,rfl,hA2,hl82,hB2⟩,rfl⟩:=hp
   replace hrk:=hrk.up hle2
   replace a3:=a3.up hle2
   replace a4:=a4.up hle2
   replace b3:=b3.up hle2
   replace b4:=b4.up hle2
   refine dW ?_
   refine eJ [[7],[8],[9],[10]] ?_
   refine dV ?_
   refine gZ 4 [] ?_
   refine sH [0] ?_
   all_goals exact yE (by unfold yF;simp only [h8,or_true,eR];first | (rw [aL (by decide),aL (by decide),aL (by decide),aL (by decide),e5,aR hd]) | (rw [aL (by decide),aL (by decide),aL (by decide),aL (by decide)];exact (by rw [e5];exact aR hd))) (xR sW sW sW)
 skip
 refine aK 2 [] ?_
 refine cV 1 fun b5=>?_
 refine cV 2 fun b6=>?_
 refine bJ 5 [] ?_
 refine eB [0,1,2] [] T.mixed [[0],[1],[2,2]] ?_
 refine kS (α:=SV) 3 T.sl86 ?_
 refine mS 4 0 0 T.one39 ?_
 refine eJ [[5],[6],[7,2]] ?_
 refine kS (α:=SV) 8 T.sl86 ?_
 refine mS 9 0 0 T.one39 ?_
 refine eJ [[10],[11]] ?_
 refine dV ?_
 refine oJ 59 [2,0,0,0,0,0,0,1] ?_
 refine eB [0,1,2] [(2,6),(1,6),(0,6)] T.mixed [[0],[1,1],[2],[3]] ?_
 refine fE 4 ?_
 refine aA 1 [2] ?_
 refine bT 5 ?_
 refine bV 3 rfl (IP _ i.c hc64) fun v1 G1 Ho1 hle1 hp=>?_
 obtain ⟨rk,rfl,hrk,rfl⟩:=hp
 replace a3:=a3.up hle1
 replace a4:=a4.up hle1
 replace b3:=b3.up hle1
 replace b4:=b4.up hle1
 refine bT 6 ?_
 refine iG (fst:=[]) (cap:=[]) 3 rfl T.fn299 rfl rfl (h124N hd _ rk sW hrk (aO (iR hrk hk3) tF)) (uH trivial) fun v2 G2 Ho2 hle2 hp=>?_
 obtain ⟨rfl,rfl⟩:=hp
 replace hrk:=hrk.up hle2
 replace a3:=a3.up hle2
 replace a4:=a4.up hle2
 replace b3:=b3.up hle2
 replace b4:=b4.up hle2
 refine dW ?_
 refine eJ [[7],[8],[9],[10]] ?_
 refine dV ?_
 refine gZ 4 [] ?_
 refine sH [0] ?_
 all_goals exact Uw (by unfold yF;simp only [h8,or_true,eR];rw [aL (by decide),aL (by decide),aL (by decide),aL (by decide),e5,aL hd])
end
theorem Dv {m k:Nat} {xs:List Int} {f:Int→Int} (h:∀ x:Int,(x.natAbs:Int)<pb m→((f x).natAbs:Int)<pb k) (hx:Below m xs):Below k (xs.map f):=fun z hz=>by
 obtain ⟨x,h1,rfl⟩:=dY.1 hz
 exact h x (hx x h1)
theorem Lt {m k:Nat} {xs ys:List Int} {f:Int→Int→Int} (h:∀ x y:Int,(x.natAbs:Int)<pb m→(y.natAbs:Int)<pb m→((f x y).natAbs:Int)<pb k) (hx:Below m xs) (hy:Below m ys):Below k (List.zipWith f xs ys):=fun z hz=>by
 rw [lD] at hz
 obtain ⟨n,hn,rfl⟩:=hz
 rw [oE]
 exact h _ _ (hx _ (dJ _)) (hy _ (dJ _))
theorem DR {i:Sl.Instr} {rs:List (List Int)} {m N:Nat} {x:List Int} (he:EvenB m N rs) (ha:0≤i.a∧i.a<rs.length) (hb:i.op=3∨i.op=4→0≤i.b∧i.b<rs.length)
 (hz:i.op=5∨i.op=7→((cst i).natAbs:Int)<pb 3) (h:yF i rs=some x):x.length=N∧Below (m+3) x:=by
 obtain ⟨haL,haB⟩:=he.at (k:=i.a.toNat) sV
 have hp:=xC m
 have h4:4294967296*pb m≤pb (m+3):=by rw [←wP];exact Ov sV
 unfold yF at h
 simp only at h
 split at h
 · cases h
   exact ⟨by rw [bX];exact haL,Dv (fun x hx=>by omega) haB⟩
 split at h
 · rename_i h3
   obtain ⟨hbL,hbB⟩:=he.at (k:=i.b.toNat) (by have:=hb (.inl h3);omega)
   cases h
   exact ⟨by rw [iP,haL,hbL,oQ],Lt (fun x y hx hy=>by omega) haB hbB⟩
 split at h
 · rename_i h4
   obtain ⟨hbL,hbB⟩:=he.at (k:=i.b.toNat) (by have:=hb (.inr h4);omega)
   cases h
   exact ⟨by rw [iP,haL,hbL,oQ],Lt (fun x y hx hy=>by omega) haB hbB⟩
 split at h
 · rename_i h57
   cases h
   exact ⟨by rw [bX];exact haL,Dv (fun x hx=>by rw [Nat.add_comm];exact DM (hz h57) hx) haB⟩
 split at h
 · split at h
   · cases h
     refine ⟨by rw [bX];exact haL,Dv (fun x hx=>?_) haB⟩
     have h1:(x / cst i).natAbs≤x.natAbs:=Int.natAbs_ediv_le_natAbs _ _
     omega
   cases h
 cases h
 exact ⟨haL,haB.mono sV⟩
theorem EvenB.mono {m k N:Nat} {rs:List (List Int)} (h:EvenB m N rs) (hk:m≤k):EvenB k N rs:=fun zs hz=>⟨(h zs hz).1,(h zs hz).2.mono hk⟩
theorem DS {m N:Nat} {rs:List (List Int)} {x:List Int} (h:EvenB m N rs) (hx:x.length=N∧Below m x) (k:Nat):EvenB m N (rs.set k x):=fun zs hz=>by
 rcases gX hz with h1 | h1
 · exact h zs h1
 rw [h1];exact hx
theorem BGrid.set {G:Imm} {r:List SV} {rs:List (List Int)} (h:BGrid G r rs) {s:SV} {x:List Int} (hs:BRow G s x) (k:Nat):BGrid G (r.set k s) (rs.set k x):=by
 refine ⟨by rw [aH,aH];exact h.1,fun i hi=>?_⟩
 rw [aH] at hi
 have hrl:=h.1
 rw [fD,fD]
 by_cases e:k=i
 · subst e
   rw [aR rfl,aR rfl,aR hi,aR (by omega)]
   exact hs
 rw [aL e,aL e]
 exact h.2 i hi
section
attribute [local irreducible] sX pb tQ tN p2 cst yF
theorem au (G:Imm) (k:Int) (s:SV):Does Tryz.prog 252 [.int .i64 k,.slice s.a s.n s.c] G [] (fun v G' Ho=>v=.bool true∧G'=G∧Ho=[]):=by
 refine D0 Tryz.func252 Tryz.ntmps252 fun w=>?_
 refine bE 11 [] ?_
 refine bO ?_
 exact ⟨rfl,rfl,rfl⟩
def IU (p:PV) (gs:List (List Int)) (m N:Nat) (o:Option Addr) (d:Nat) (r:List SV) (j:List Value) (v:Value) (G':Imm) (Ho:Hp):Prop:=
 ∃ (r':List SV) (k:Int),v=.int .i64 k∧Ho=[(0,o.map (·.block),tK 39 r' j)]∧r'.length=r.length∧OwnA o d r' j∧
  ((∃ rs',yD p gs p.code.length=some rs'∧k=-1∧BGrid G' r' rs'∧EvenB (m+3*p.code.length) N rs')∨(tR p gs=none∧0≤k))
theorem aw (G:Imm) (p:PV) (gs:List (List Int)) (ac ao:Option Addr) (cc co:Nat) (o:Option Addr) (d:Nat) (r:List SV) (j:List Value) (m N:Nat) (hc:Arr G ac p.code) (hob:OwnA o d r j) (hg:BGrid G r (wU p gs)) (hm:EvenB m N (wU p gs)) (hN:N≤1048576)
 (hmm:m+3*p.code.length≤268435456) (hlen:p.code.length≤16384) (hr:(r.length:Int)=p.regs) (hrr:r.length≤128) (hmay:∀ i∈p.code,xF i p.regs=true) :
 Does Tryz.prog 250 [IQ,.agg #[.int .i64 p.ins,.int .i64 p.regs,.slice ac p.code.length cc,.slice ao p.outs.length co],.slice o r.length d,.func (.func 252) #[] #[]] G [(0,o.map (·.block),tK 39 r j)] (IU p gs m N o d r j):=by
 refine D0 Tryz.func250 Tryz.ntmps250 fun w=>?_
 refine aK 2 [] ?_
 refine cV 1 fun b1=>?_
 refine cV 2 fun b2=>?_
 refine bJ 3 [] ?_
 refine Wc.scope ?_
 refine cF 13 [2] ?_
 refine rX (ι:=Nat×Imm×List SV×List (List Int)) (fun (i,Gx,r2,rs)=>([(16,.int .i64 (i:Int)),(2,.slice o r2.length d),(15,.int .i64 (↑p.code.length:Int)),(14,.slice ac p.code.length cc),(4,.pointer (some ⟨b1,0,none⟩)),(3,.func (Go.Fn.func 252) #[] #[])],[(0,o.map (·.block),tK 39 r2 j),(2,some b2,.cells #[.int .i64 p.ins,.int .i64 p.regs,.slice ac p.code.length cc,.slice ao p.outs.length co] 26),(1,some b1,.cells #[.func (Go.Fn.func 293) #[] #[],.func (Go.Fn.func 294) #[] #[],.func (Go.Fn.func 296) #[] #[],.func (Go.Fn.func 298) #[] #[],.func (Go.Fn.func 299) #[] #[]] 352)])) (fun (i,Gx,r2,rs)=>Gx) (fun (i,Gx,r2,rs)=>i≤p.code.length∧G.le Gx∧r2.length=r.length∧OwnA o d r2 j∧BGrid Gx r2 rs∧EvenB (m+3*i) N rs∧yD p gs i=some rs) (fun (i,Gx,r2,rs)=>p.code.length - i) ((0,G,r,wU p gs)) (⟨aU _,cA _,rfl,hob,hg,hm,rfl⟩) fun ⟨i,Gx,r2,rs⟩=>fun hk=>?_
 obtain ⟨hi0,hgx,hr2,ho2,hg2,hb2,hrun⟩:=hk
 replace hc:=hc.up hgx
 have hrl:=hg2.1
 rcases aM i p.code.length with hic | hic
 · have hmem:(p.code[(i:Int).toNat]?.getD default)∈p.code:=by
    rw [aF,aB hic];exact dJ hic
   have hmi:=hmay _ hmem
   obtain ⟨m1,m2,m3,m4,m5,m6,m7,m8⟩:=Hg hmi
   have m9:(p.code[(i:Int).toNat]?.getD default).a<rs.length:=sV
   have hbz:(p.code[(i:Int).toNat]?.getD default).op=3∨(p.code[(i:Int).toNat]?.getD default).op=4∨(p.code[(i:Int).toNat]?.getD default).b=0:=by
    unfold xF at hmi
    rw [aC,aC,aT] at hmi
    exact hmi.1.1.2.2.2.2
   have mb:0≤(p.code[(i:Int).toNat]?.getD default).b∧(p.code[(i:Int).toNat]?.getD default).b<r2.length:=by
    rcases hbz with h | h | h
    · have:=m4 (.inl h);omega
    · have:=m4 (.inr h);omega
    omega
   have mt:0≤(p.code[(i:Int).toNat]?.getD default).to∧(p.code[(i:Int).toNat]?.getD default).to<r2.length:=sV
   have ma:0≤(p.code[(i:Int).toNat]?.getD default).a∧(p.code[(i:Int).toNat]?.getD default).a<r2.length:=sV
   have hmi9:m+3*i≤268435456:=sV
   have hk3:(p.code[(i:Int).toNat]?.getD default).op≠1→(p.code[(i:Int).toNat]?.getD default).op≠2→(p.code[(i:Int).toNat]?.getD default).op≠3→(p.code[(i:Int).toNat]?.getD default).op≠4→cst (p.code[(i:Int).toNat]?.getD default)≠0∧((cst (p.code[(i:Int).toNat]?.getD default)).natAbs:Int)<pb 3:=fun a b c d=>⟨(m6 a b c d).1,jB (m6 a b c d).2 NW⟩
   refine aK 14 [1] ?_
   refine dP (α:=Sl.Instr) T.sl23 ?_
   refine mM T.agg211 ?_
   refine aQ 3 rfl T.zero211 fun b3=>?_
   refine aJ 9 [3,1,3] ?_
   refine bV 0 rfl (ar _ (p.code[(i:Int).toNat]?.getD default) o d r2 j rs (m+3*i) N ho2 hg2 hb2 hN hmi9 m1 ma mb hk3 m7 m8) fun v1 G1 Ho1 hle1 hp=>?_
   obtain ⟨x,rfl,hx,rfl⟩:=hp
   replace hc:=hc.up hle1
   replace hg2:=hg2.up hle1
   by_cases hd:yF (p.code[((i:Nat):Int).toNat]?.getD default) rs=none
   · have hd2:¬yF (p.code[(i:Int).toNat]?.getD default) rs≠none:=fun h=>h hd
     refine aJ 11 [] ?_
     refine aN (dK rfl) ?_
     refine aW 16 [1] ?_
     refine rF ?_
     refine qJ [0] ?_
     exact ⟨r2,(i:Int),rfl,rfl,hr2,ho2,.inr ⟨Lg hrun hd hic,by omega⟩⟩
   obtain ⟨z,hz⟩:=Option.ne_none_iff_exists'.1 hd
   have hxz:=hx z hz
   have hok:yF (p.code[(i:Int).toNat]?.getD default) rs≠none:=hd
   refine aJ 11 [] ?_
   refine aN (dK rfl) ?_
   refine bJ 2 [] ?_
   refine dN (fun hc1=>?_) fun hc1=>?_
   refine bE 13 [] ?_
   refine rF ?_
   refine qJ [0] ?_
   rotate_left
   refine aK 8 [3] ?_
   refine fW (α:=SV) T.sl86 ?_
   refine eX (z:=_) 0 T.size39 rfl rfl rfl sW sV rfl fun ho1=>?_
   refine aJ 7 [] ?_
   refine iG (fst:=[]) (cap:=[]) 4 rfl T.fn252 rfl rfl (au _ _ _) (uH trivial) fun v2 G2 Ho2 hle2 hp=>?_
   obtain ⟨rfl,rfl,rfl⟩:=hp
   refine aW 11 [0] ?_
   rotate_left
   · exact absurd hok hc1
   refine cZ 2 rfl (show _=Value.slice o (r2.set (p.code[(i:Int).toNat]?.getD default).to.toNat x).length d by rw [aH]) ?_
   refine cS ((i+1,_,r2.set (p.code[(i:Int).toNat]?.getD default).to.toNat x,rs.set (p.code[(i:Int).toNat]?.getD default).to.toNat z)) ?_ ?_
   · refine ⟨by omega,aZ hgx hle1,by rw [aH];exact hr2,by assumption,hg2.set hxz _,?_,Dl (x:=rs) hrun hz⟩
     have hs:=DR (i:=p.code[(i:Int).toNat]?.getD default) hb2 (by rw [←hrl];exact ma) (fun _=>by rw [←hrl];exact mb) (fun h=>(hk3 (fun e=>by rw [e] at h;omega) (fun e=>by rw [e] at h;omega) (fun e=>by rw [e] at h;omega) (fun e=>by rw [e] at h;omega)).2) hz
     rw [show m+3*(i+1)=m+3*i+3 by omega]
     exact DS (hb2.mono sV) hs _
   show p.code.length - (i+1)<p.code.length - i
   omega
 have hii:i=p.code.length:=sV
 subst hii
 refine bE 18 [0] ?_
 refine rF ?_
 refine qJ [0] ?_
 exact ⟨r2,-1,rfl,rfl,hr2,ho2,.inl ⟨rs,hrun,rfl,hg2,hb2⟩⟩
end
theorem Pn {G:Imm} {r:List SV} {rs:List (List Int)} {k:Nat} {s:SV} (h:∀ q:Nat,q<k→BRow G (r[q]?.getD default) (rs[q]?.getD [])) (hk:k<r.length) (hs:BRow G s (rs[k]?.getD [])):∀ q:Nat,q<k+1→BRow G ((r.set k s)[q]?.getD default) (rs[q]?.getD []):=fun q hq=>by
 rw [fD]
 by_cases he:k=q
 · subst he;rw [aR rfl,aR hk];exact hs
 rw [aL he];exact h q sV
theorem Ux {G G':Imm} {r:List SV} {rs:List (List Int)} {k:Nat} (h:∀ q:Nat,q<k→BRow G (r[q]?.getD default) (rs[q]?.getD [])) (hl:G.le G'):∀ q:Nat,q<k→BRow G' (r[q]?.getD default) (rs[q]?.getD []):=fun q hq=>(h q hq).up hl
section
attribute [local irreducible] sX pb tQ tN p2 cst yF
theorem ay (G:Imm) (p:PV) (ac ao ga:Option Addr) (cc co gc:Nat) (gl:List SV) (gs:List (List Int)) (m N:Nat) (hc:Arr G ac p.code) (ho:Arr G ao p.outs) (hga:Arr G ga gl) (hgg:BGrid G gl gs) (hev:EvenB m N gs) (hN:N≤4096) (hR:tG p=true) (hgi:(gl.length:Int)=p.ins) :
 Does Tryz.prog 249 [.agg #[.int .i64 p.ins,.int .i64 p.regs,.slice ac p.code.length cc,.slice ao p.outs.length co],.slice ga gl.length gc] G [] (fun v G' Ho=>∃ b r,v=.tuple #[.slice (some ⟨b,0,none⟩) r.length p.regs.toNat,.int .i64 0]∧BGrid G' r (wU p gs)∧r.length=p.regs.toNat∧Ho=[(1,some b,tK 39 r [])]):=by
 obtain ⟨f1,f2,f3,f4,f5,f6,f7,f8⟩:=wT hR
 have h1:p.code.length≤1099511627776:=sV
 have h2:p.outs.length≤1099511627776:=sV
 have hgl:=hgg.1
 obtain ⟨R,hRR⟩:∃ R:Nat,p.regs=(R:Int):=⟨p.regs.toNat,by omega⟩
 refine D0 Tryz.func249 Tryz.ntmps249 fun w=>?_
 have hM:p.regs.toNat=R:=sV
 have hrl0:=Cn p gs
 rw [hM] at hrl0
 have hgl0:0<gl.length:=sV
 obtain ⟨h0L,h0B⟩:=hev.at (k:=0) sV
 obtain ⟨l0,e1,e2,e3,e4⟩:=hgg.2 0 sV
 have h0n:(gl[(0:Int).toNat]?.getD default).n=N:=by
  show (gl[0]?.getD default).n=N
  rw [←e1,e4.1,h0L]
 refine aK 2 [] ?_
 refine cV 0 fun b1=>?_
 refine aJ 10 [0] ?_
 refine bW rfl (ZW _ p _ _ _ _ sW sW h1 h2 hR _ hgi) ?_
 refine aJ 15 [0] ?_
 refine dP (α:=SV) T.sl86 ?_
 refine eK rfl (dZ T.one39 rfl (kG sW sV 0 rfl rfl)) ?_
 refine aJ 8 [0] ?_
 refine iC (α:=SV) 1 rfl T.sl86 T.el39 rfl rfl sV sV fun b2=>?_
 refine bJ 12 [] ?_
 rw [hM]
 have hown:∀ r:List SV,r.length=R→OwnA (some ⟨b2,0,none⟩) R r []:=fun r hr=>.inr ⟨b2,rfl,by rw [hr];rfl,by omega,by simp only [maxLen];omega⟩
 refine jE 8 rfl (show _=Value.slice (some ⟨b2,0,none⟩) (List.replicate R (default:SV)).length R by rw [aE]) ?_
 refine jE 7 rfl (show _=Value.int .i64 (N:Int) by rw [h0n]) ?_
 refine jE 25 rfl (show _=Value.int .i64 (R:Int) by rw [aE]) ?_
 refine rX (ι:=Nat×Imm×List SV) (fun (k,Gx,r)=>([(26,.int .i64 (k:Int)),(8,.slice (some ⟨b2,0,none⟩) r.length R),(25,.int .i64 (↑R:Int)),(7,.int .i64 (↑N:Int)),(1,.slice ga (List.length gl) gc)],[(1,some b2,tK 39 r []),(0,some b1,.cells #[.int .i64 p.ins,.int .i64 p.regs,.slice ac p.code.length cc,.slice ao p.outs.length co] 26)])) (fun (k,Gx,r)=>Gx) (fun (k,Gx,r)=>k≤R∧G.le Gx∧r.length=R∧∀ q:Nat,q<k→BRow Gx (r[q]?.getD default) ((wU p gs)[q]?.getD [])) (fun (k,Gx,r)=>R - k) ((0,G,List.replicate R (default:SV))) (⟨aU _,cA _,aE,fun q hq=>by omega⟩) fun ⟨k,Gx,r⟩=>fun hk=>?_
 obtain ⟨hk0,hgx,hrR,hrow⟩:=hk
 replace hga:=hga.up hgx
 replace hgg:=hgg.up hgx
 have hor:=hown r hrR
 rcases aM k R with hkR | hkR
 · by_cases hkg:k<gl.length
   · have hkn:(gl[(k:Int).toNat]?.getD default).n=N:=by
      obtain ⟨l1,a1,a2,a3,a4⟩:=hgg.2 k hkg
      rw [aF,←a1,a4.1]
      exact (hev.at (k:=k) sV).1
     refine aK 22 [1] ?_
     refine iC (α:=IV) 2 rfl T.sl39 T.el89 rfl rfl sV sV fun b3=>?_
     refine fW (α:=SV) T.sl86 ?_
     refine kD 32 rfl (show _=Value.slice (some ⟨b3,0,none⟩) N N by rw [aE];rfl) ?_
     refine oV 2 (tK 89 (List.replicate N (default:IV)) []) rfl rfl ?_
     refine eX (z:=(⟨some ⟨b3,0,none⟩,N,N⟩:SV)) (m:=(k:Int)) 1 T.size39 rfl rfl rfl hor sV rfl fun ho1=>?_
     have hrk:((r.set k (⟨some ⟨b3,0,none⟩,N,N⟩:SV))[k]?.getD default)=⟨some ⟨b3,0,none⟩,N,N⟩:=by rw [fD,aR rfl,aR (by omega)];rfl
     have ho3:OwnA (some ⟨b3,0,none⟩) N (List.replicate N (default:IV)) []:=.inr ⟨b3,rfl,by rw [aE];rfl,by rw [aE];exact aG _,by simp only [maxLen];omega⟩
     rw [aF] at ho1 ⊢
     obtain ⟨r9,hr9⟩:∃ r9,r9=r.set k (⟨some ⟨b3,0,none⟩,N,N⟩:SV):=⟨_,rfl⟩
     have hr9l:r9.length=R:=by rw [hr9,aH];exact hrR
     rw [←hr9] at ho1 hrk ⊢
     refine aJ 16 [1] ?_
     refine dP (α:=SV) T.sl86 ?_
     refine fQ 0 T.one39 ?_
     refine aA 4 [] ?_
     refine jV 45 ?_
     refine bJ 10 [0] ?_
     refine eB [0,2,1] [(1,8),(2,8)] T.mixed [[0],[1]] ?_
     refine kS (α:=SV) 2 T.sl86 ?_
     refine gD 3 [0,1] rfl (El 1 0 T.one39 rfl rfl sW sV rfl rfl) ?_
     refine eJ [[4],[5]] ?_
     refine jC (α:=SV) 6 T.sl86 ?_
     refine pA 7 [0] 0 T.one39 ?_
     refine fE 8 ?_
     obtain ⟨l1,a1,a2,a3,a4⟩:=hgg.2 k hkg
     have hl1:l1.length=N:=by rw [a1];exact hkn
     refine kD 52 rfl (show _=Value.slice (some ⟨b3,0,none⟩) (List.replicate N (default:IV)).length N by rw [aF,hrk,aE]) ?_
     refine kD 56 rfl (show _=Value.slice (gl[k]?.getD default).a l1.length (gl[k]?.getD default).c by rw [a1];rfl) ?_
     refine Le (α:=IV) 2 rfl T.sl39 rfl rfl rfl (qB a3) (by rw [hl1,aE];exact aG _) ?_
     refine oV 2 (tK 89 l1 []) rfl (by rw [hl1,List.drop_replicate,jX,List.replicate_zero,fU]) ?_
     have ho4:OwnA (some ⟨b3,0,none⟩) N l1 []:=.inr ⟨b3,rfl,by rw [hl1];rfl,by rw [hl1];exact aG _,by simp only [maxLen];omega⟩
     refine fV ?_
     refine gZ 6 [] ?_
     refine eE 2 rfl ho4 fun G1 hle1 hA1=>?_
     refine cZ 8 rfl (show _=Value.slice (some ⟨b2,0,none⟩) r9.length R by rw [hr9l,hrR]) ?_
     refine cS ((k+1,G1,r9)) ?_ ?_
     · have hs9:BRow G1 ⟨some ⟨b3,0,none⟩,N,N⟩ ((wU p gs)[k]?.getD []):=by
        rw [Fa sV,aR (by omega)]
        exact ⟨l1,hl1,aG _,hA1,a4.up hle1⟩
       refine ⟨by omega,aZ hgx hle1,hr9l,fun q hq=>?_⟩
       rw [hr9]
       exact Pn (Ux hrow hle1) sV hs9 q hq
     show R - (k+1)<R - k
     omega
   refine aK 22 [1] ?_
   refine iC (α:=IV) 2 rfl T.sl39 T.el89 rfl rfl sV sV fun b3=>?_
   refine fW (α:=SV) T.sl86 ?_
   refine kD 32 rfl (show _=Value.slice (some ⟨b3,0,none⟩) N N by rw [aE];rfl) ?_
   refine oV 2 (tK 89 (List.replicate N (default:IV)) []) rfl rfl ?_
   refine eX (z:=(⟨some ⟨b3,0,none⟩,N,N⟩:SV)) (m:=(k:Int)) 1 T.size39 rfl rfl rfl hor sV rfl fun ho1=>?_
   have hrk:((r.set k (⟨some ⟨b3,0,none⟩,N,N⟩:SV))[k]?.getD default)=⟨some ⟨b3,0,none⟩,N,N⟩:=by rw [fD,aR rfl,aR (by omega)];rfl
   have ho3:OwnA (some ⟨b3,0,none⟩) N (List.replicate N (default:IV)) []:=.inr ⟨b3,rfl,by rw [aE];rfl,by rw [aE];exact aG _,by simp only [maxLen];omega⟩
   rw [aF] at ho1 ⊢
   obtain ⟨r9,hr9⟩:∃ r9,r9=r.set k (⟨some ⟨b3,0,none⟩,N,N⟩:SV):=⟨_,rfl⟩
   have hr9l:r9.length=R:=by rw [hr9,aH];exact hrR
   rw [←hr9] at ho1 hrk ⊢
   refine aW 18 [0] ?_
   refine eE 2 rfl ho3 fun G1 hle1 hA1=>?_
   refine cZ 8 rfl (show _=Value.slice (some ⟨b2,0,none⟩) r9.length R by rw [hr9l,hrR]) ?_
   refine cS ((k+1,G1,r9)) ?_ ?_
   · have hs9:BRow G1 ⟨some ⟨b3,0,none⟩,N,N⟩ ((wU p gs)[k]?.getD []):=by
      rw [Fa sV,aL (by omega),h0L]
      exact ⟨_,aE,aG _,hA1,rR _ _⟩
     refine ⟨by omega,aZ hgx hle1,hr9l,fun q hq=>?_⟩
     rw [hr9]
     exact Pn (Ux hrow hle1) sV hs9 q hq
   show R - (k+1)<R - k
   omega
 refine bE 20 [0] ?_
 refine iK (.inr rfl) (Ho:=[(1,some b2,tK 39 r [])]) rfl (.tmp rfl) (.tmp rfl) ⟨rfl,trivial⟩ ?_
 exact ⟨b2,r,rfl,⟨by omega,fun i hi=>hrow i sV⟩,hrR,rfl⟩
end
theorem DT {G:Imm} {q:List SV} {os:List (List Int)} {i:Nat} {s:SV} (h:∀ t:Nat,t<i→BRow G (q[t]?.getD default) (os[t]?.getD [])) (hq:q.length=i) (hs:BRow G s (os[i]?.getD [])):∀ t:Nat,t<i+1→BRow G ((q++[s])[t]?.getD default) (os[t]?.getD []):=fun t ht=>by
 rcases aM t i with h1 | h1
 · rw [bH sV];exact h t h1
 have e:t=i:=sV
 subst e
 rw [cM sV,hq,jX];exact hs
theorem NZ {p:PV} {rs:List (List Int)} {i:Nat} (hi:i<p.outs.length):(vO p rs)[i]?.getD []=rs[(p.outs[((i:Nat):Int).toNat]?.getD default).toNat]?.getD []:=by
 unfold vO
 rw [cK,aF,aB hi];rfl
section
attribute [local irreducible] sX pb tQ tN p2 cst yF
theorem az (G:Imm) (a:Option Addr) (c:Nat) (l:List IV) (ha:Arr G a l) (hl:l.length≤1048576) :
 Does Tryz.prog 222 [.slice a l.length c] G [] (fun v G' Ho=>∃ s d,v=.slice s l.length d∧Arr G' s l∧l.length≤d∧Ho=[]):=by
 by_cases hne:a=none
 · have h0:l=[]:=by
    rcases ha.2 with h | ⟨b,o,h,_⟩
    · exact cB h
    rw [hne] at h;cases h
   subst hne
   subst h0
   have hyes:(none:Option Addr)=none:=rfl
   refine D0 Tryz.func222 Tryz.ntmps222 fun w=>?_
   refine aK 9 [] ?_
   refine aN (gH T.sl39 rfl rfl) ?_
   refine aW 10 [1] ?_
   refine bO ?_
   exact ⟨none,0,rfl,pP _,aG _,rfl⟩
 refine D0 Tryz.func222 Tryz.ntmps222 fun w=>?_
 refine aK 9 [] ?_
 refine aN (gH T.sl39 rfl rfl) ?_
 refine aJ 7 [0] ?_
 refine rA 0 rfl T.sl39 fun b1=>?_
 refine aA 1 [] ?_
 refine oV 0 (tK 89 ([]:List IV) []) rfl rfl ?_
 refine nM (α:=IV) (xs:=[]) (ys:=l) (junk:=[]) 0 rfl T.sl39 T.el89 rfl rfl rfl (.inr ⟨b1,rfl,rfl,aG _,aU _⟩) (qB ha) (by rw [cT];omega) FA fun a1 c1 junk1 ho1=>?_
 rw [fT] at ho1 ⊢
 have hc1:=ho1.le
 refine aW 4 [] ?_
 refine eE 0 rfl ho1 fun G1 hle1 hA1=>?_
 refine bO ?_
 exact ⟨a1,c1,rfl,hA1,hc1,rfl⟩
def IW (p:PV) (gs:List (List Int)) (m N:Nat) (v:Value) (G':Imm) (Ho:Hp):Prop:=
 Ho=[]∧((∃ os b r c',tR p gs=some os∧v=.tuple #[.slice b (List.length r) c',.int .i64 0,.int .i64 0]∧Arr G' b r∧List.length r≤c'∧BGrid G' r os∧EvenB (m+3*p.code.length) N os)∨(tR p gs=none∧∃ k,v=.tuple #[.slice none 0 0,.int .i64 k,.int .i64 20]))
theorem UG (G:Imm) (p:PV) (ac ao ga:Option Addr) (cc co gc:Nat) (gl:List SV) (gs:List (List Int)) (m N:Nat) (hc:Arr G ac p.code) (ho:Arr G ao p.outs) (hga:Arr G ga gl) (hgg:BGrid G gl gs) (hev:EvenB m N gs) (hmm:m≤1048576) (hN:N≤4096) (hR:tG p=true) (hgi:(gl.length:Int)=p.ins) :
 Does Tryz.prog 208 [.agg #[.int .i64 p.ins,.int .i64 p.regs,.slice ac p.code.length cc,.slice ao p.outs.length co],.slice ga gl.length gc] G [] (IW p gs m N):=by
 obtain ⟨f1,f2,f3,f4,f5,f6,f7,f8⟩:=wT hR
 obtain ⟨R,hRR⟩:∃ R:Nat,p.regs=(R:Int):=⟨p.regs.toNat,by omega⟩
 refine D0 Tryz.func208 Tryz.ntmps208 fun w=>?_
 refine fO 0 (tK 39 ([]:List SV) []) ?_
 refine aK 2 [] ?_
 refine cV 1 fun b1=>?_
 refine aJ 9 [1] ?_
 refine bV 2 rfl (ay _ p ac ao ga cc co gc gl gs m N hc ho hga hgg hev hN hR hgi) fun v1 G1 Ho1 hle1 hp=>?_
 obtain ⟨b9,r0,rfl,hg0,hr0,rfl⟩:=hp
 replace hc:=hc.up hle1
 replace ho:=ho.up hle1
 have hrl0:=Cn p gs
 have hm0:EvenB m N (wU p gs):=fun zs hz=>by
  unfold wU at hz
  obtain ⟨k,hk,rfl⟩:=dY.1 hz
  have hN9:=(hev.at (k:=0) (by have:=hgg.1;omega)).1
  split
  · exact hev.at (k:=k) sV
  rw [hN9]
  exact ⟨aE,Uu m _⟩
 refine bJ 19 [0] ?_
 refine eB [0,1,3] [(3,3),(1,3),(0,3)] T.mixed [[1,1],[2]] ?_
 refine fE 0 ?_
 refine bW rfl (aq _) ?_
 refine bT 3 ?_
 refine bV 3 rfl (aw _ p gs ac ao cc co (some ⟨b9,0,none⟩) p.regs.toNat r0 [] m N hc (.inr ⟨b9,rfl,by rw [hr0];rfl,by omega,by simp only [maxLen];omega⟩) hg0 hm0 sV sV f4 sV sV f8) fun v9 G9 Ho9 hle9 hp=>?_
 obtain ⟨r9,k9,rfl,rfl,hr9,ho9,hcase⟩:=hp
 replace ho:=ho.up hle9
 rcases hcase with ⟨rs,hrs,rfl,hg9,he9⟩ | ⟨hno,hk9⟩
 · have hrs1:=hg9.1
   have lr9:r9.length=R:=sV
   have hfol:tR p gs=some (vO p rs):=by unfold tR;rw [hrs];rfl
   refine dW ?_
   refine eJ [[4]] ?_
   refine dV ?_
   refine oJ 25 [0,1] ?_
   refine jE 7 rfl (show _=Value.slice (some ⟨b9,0,none⟩) r9.length p.regs.toNat by rw [hr9]) ?_
   refine jQ (ι:=Nat×Imm×List SV×(Option Addr×Nat×List Value)) (fun (i,Gx,q,(o,d,j))=>([(32,.int .i64 (i:Int)),(10,.slice o q.length d),(7,.slice (some (Addr.mk b9 0 none)) (List.length r9) (Int.toNat p.regs)),(31,.int .i64 (↑p.outs.length:Int)),(30,.slice ao p.outs.length co),(6,.int .i64 0),(5,.int .i64 0),(4,.slice none 0 0)],[(0,o.map (·.block),tK 39 q j),(3,some b9,tK 39 r9 []),(1,some b1,.cells #[.int .i64 p.ins,.int .i64 p.regs,.slice ac p.code.length cc,.slice ao p.outs.length co] 26)])) (fun (i,Gx,q,(o,d,j))=>Gx) (fun (i,Gx,q,(o,d,j))=>i≤p.outs.length∧G9.le Gx∧q.length=i∧(∀ t:Nat,t<i→BRow Gx (q[t]?.getD default) ((vO p rs)[t]?.getD []))∧OwnA o d q j) (fun (i,Gx,q,(o,d,j))=>p.outs.length - i) ((0,G9,[],(none,0,[]))) (⟨aU _,cA _,rfl,fun t ht=>by omega,eW⟩) rfl ⟨rfl,rfl,rfl,rfl,rfl,rfl,rfl,rfl,trivial⟩ ⟨rfl,rfl,rfl,trivial⟩ fun ⟨i,Gx,q,(o,d,j)⟩=>fun hk=>?_
   obtain ⟨hi0,hgx,hqi,hbq,hoq⟩:=hk
   replace ho:=ho.up hgx
   rcases aM i p.outs.length with hio | hio
   · have hmem:p.outs[(i:Int).toNat]?.getD default∈p.outs:=by
      rw [aF,aB hio];exact dJ hio
     have hrg:=f7 _ hmem
     obtain ⟨l1,a1,a2,a3,a4⟩:=hg9.2 (p.outs[(i:Int).toNat]?.getD default).toNat sV
     have hN1:=(he9.at (k:=(p.outs[(i:Int).toNat]?.getD default).toNat) sV).1
     have hl1:l1.length=N:=by rw [a4.1,hN1]
     refine aK 13 [1] ?_
     refine dP (α:=Int) T.sl24 ?_
     refine fQ 0 T.one3 ?_
     refine aJ 7 [] ?_
     refine fW (α:=SV) T.sl86 ?_
     refine nY 3 0 T.one39 ?_
     refine kD 40 rfl (show _=Value.slice (r9[(p.outs[(i:Int).toNat]?.getD default).toNat]?.getD default).a l1.length (r9[(p.outs[(i:Int).toNat]?.getD default).toNat]?.getD default).c by rw [a1]) ?_
     refine bV 20 rfl (az _ _ _ l1 (a3.up hgx) sV) fun v1 G2 Ho1 hle2 hp=>?_
     obtain ⟨s2,d2,rfl,hA2,hd2,rfl⟩:=hp
     refine fF (α:=SV) 4 [⟨_,_,_⟩] rfl T.sl86 T.el39 rfl rfl rfl rfl rfl fun b2=>?_
     refine kO (α:=SV) 0 T.sl86 T.el39 (fZ 4 rfl) fun a1 c1 junk1 ho1=>?_
     refine aW 8 [] ?_
     refine cS ((i+1,G2,q++[⟨s2,l1.length,d2⟩],(a1,c1,junk1))) ?_ ?_
     · refine ⟨by omega,aZ hgx hle2,by rw [aI,hqi];rfl,DT (fun t ht=>(hbq t ht).up hle2) hqi ?_,ho1⟩
       rw [NZ hio]
       exact ⟨l1,rfl,hd2,hA2,a4.up (aZ hgx hle2)⟩
     show p.outs.length - (i+1)<p.outs.length - i
     omega
   have hii:i=p.outs.length:=sV
   subst hii
   have hqd:=hoq.le
   refine bE 21 [0] ?_
   refine eE 0 rfl hoq fun G8 hle8 hA=>?_
   refine rG (.inr rfl) (Ho:=[]) rfl (.tmp rfl) (.tmp rfl) (.tmp rfl) trivial ?_
   have hol:(vO p rs).length=p.outs.length:=by unfold vO;rw [bX]
   refine ⟨rfl,.inl ⟨vO p rs,o,q,d,hfol,rfl,hA,hqd,⟨by omega,fun t ht=>(hbq t sV).up hle8⟩,fun zs hz=>?_⟩⟩
   unfold vO at hz
   obtain ⟨x,hx,rfl⟩:=dY.1 hz
   have hx7:=f7 x hx
   exact he9.at (k:=x.toNat) sV
 refine dW ?_
 refine eJ [[4]] ?_
 refine dV ?_
 refine gZ 18 [1] ?_
 refine rG (.inr rfl) (Ho:=[]) rfl (.tmp rfl) (.tmp rfl) (.tmp rfl) trivial ?_
 exact ⟨rfl,.inr ⟨hno,k9,rfl⟩⟩
end
section
attribute [local irreducible] sX pb tQ tN p2 cst yF
theorem bd (G:Imm) (n:Nat) (hn:n≤4096) :
 Does Tryz.prog 254 [.int .i64 (n:Int)] G [] (fun v G' Ho=>∃ b,v=.tuple #[.slice (some ⟨b,0,none⟩) (List.replicate n (default:IV)).length n,.int .i64 0]∧G'=G∧Ho=[(0,some b,tK 89 (List.replicate n (default:IV)) [])]):=by
 refine D0 Tryz.func254 Tryz.ntmps254 fun w=>?_
 refine aK 12 [] ?_
 refine jV 6 ?_
 refine aJ 13 [0] ?_
 refine iC (α:=IV) 0 rfl T.sl39 T.el89 rfl rfl sV sV fun b1=>?_
 refine aW 5 [] ?_
 refine iK (.inr rfl) (Ho:=[(0,some b1,tK 89 (List.replicate n (default:IV)) [])]) rfl (.tmp rfl) (.tmp rfl) ⟨rfl,trivial⟩ ?_
 exact ⟨b1,by simp,rfl,rfl⟩
theorem be (G:Imm) (n j:Nat) (hn:n≤4096) (hj:j<n) :
 Does Tryz.prog 212 [.int .i64 (n:Int),.int .i64 (j:Int)] G [] (fun v G' Ho=>∃ s l d,v=.tuple #[.slice s (List.length l) d,.int .i64 0]∧Arr G' s l∧List.length l=n∧n≤d∧Bigs G' l (uS n j)∧Ho=[]):=by
 refine D0 Tryz.func212 Tryz.ntmps212 fun w=>?_
 refine aK 9 [] ?_
 refine bV 0 rfl (bd _ n hn) fun v1 G1 Ho1 hle1 hp=>?_
 obtain ⟨b1,rfl,rfl,rfl⟩:=hp
 have ho3:OwnA (some ⟨b1,0,none⟩) n (List.replicate n (default:IV)) []:=.inr ⟨b1,rfl,by rw [aE];rfl,by rw [aE];exact aG _,by simp only [maxLen];omega⟩
 obtain ⟨r0,hr0⟩:∃ r0,r0=List.replicate n (default:IV):=⟨_,rfl⟩
 have lr0:r0.length=n:=by rw [hr0,aE]
 rw [←hr0] at ho3 ⊢
 refine aJ 22 [0] ?_
 refine jV 20 ?_
 refine aJ 18 [0] ?_
 refine bV 1 rfl (LK _ _ tF) fun v2 G2 Ho2 hle2 hp=>?_
 obtain ⟨ri2,rfl,hri2,rfl⟩:=hp
 refine fW (α:=IV) T.sl39 ?_
 refine eX (z:=ri2) (m:=(j:Int)) 0 T.size89 rfl rfl rfl ho3 sV rfl fun ho1=>?_
 have hB:Bigs G2 (r0.set j ri2) (uS n j):=by
  rw [hr0];unfold uS
  exact (rR G2 n).set j hri2
 have hl9:(r0.set j ri2).length=n:=by rw [aH];exact lr0
 rw [aF] at ho1 ⊢
 obtain ⟨r9,hr9⟩:∃ r9,r9=r0.set j ri2:=⟨_,rfl⟩
 rw [←hr9] at ho1 hB hl9 ⊢
 refine aW 10 [] ?_
 refine eE 0 rfl ho1 fun G3 hle3 hA3=>?_
 refine cZ 4 rfl (show _=Value.slice (some ⟨b1,0,none⟩) r9.length n by rw [hl9,lr0]) ?_
 refine eG ?_
 exact ⟨_,r9,n,rfl,hA3,hl9,aG _,hB.up hle3,rfl⟩
end
theorem Rq:pb 2=pw 4:=by unfold pb pw;decide
theorem Lu {N:Nat} {gs:List (List Int)} (h:Even 4 N gs):EvenB 2 N gs:=fun zs hz=>⟨(h zs hz).1,fun z hz'=>by rw [Rq];exact (h zs hz).2 z hz'⟩
theorem Uy (n j:Nat):Below 2 (uS n j):=fun z hz=>by
 rw [Rq];exact Dq n j 4 sV z hz
theorem IX {os:List (List Int)} {n:Nat} (hl:os.length=n):(os=(List.range n).map (uS n))↔∀ t:Nat,t<n→os[t]?.getD []=uS n t:=by
 constructor
 · intro h t ht
   rw [h,cK,fK ht];rfl
 intro h
 refine fL fun i=>?_
 rcases aM i n with h1 | h1
 · have:=h i h1
   rw [aB sV] at this ⊢
   rw [cK,fK h1]
   show some os[i]=some (uS n i)
   rw [←this];rfl
 rw [cQ sV,cQ (by rw [bX,iJ];omega)]
section
attribute [local irreducible] sX pb pw tQ tN p2 cst yF tR uX tG uS
theorem IY (G:Imm) (p:PV) (ac ao:Option Addr) (cc co:Nat) (hc:Arr G ac p.code) (ho:Arr G ao p.outs) (h1:p.code.length≤1099511627776) (h2:p.outs.length≤1099511627776) (hP:¬tG p=true) :
 Does Tryz.prog 124 [.agg #[.int .i64 p.ins,.int .i64 p.regs,.slice ac p.code.length cc,.slice ao p.outs.length co]] G [] (fun v G' Ho=>v=.tuple #[.int .i64 (vH p).1,.int .i64 80]∧G'=G∧Ho=[]):=by
 have hf:(vH p).2=true:=by unfold tG at hP;simpa using hP
 have h:=TI G p ac ao cc co hc ho h1 h2
 rw [hf] at h
 exact h
theorem UI (G:Imm) (p:PV) (ac ao:Option Addr) (cc co:Nat) (a:Option Addr) (c:Nat) (l:List R2) (hc:Arr G ac p.code) (ho:Arr G ao p.outs) (hcl:p.code.length≤1099511627776) (hol:p.outs.length≤1099511627776) (ha:Arr G a l) (hac:l.length≤c) (hl:l.length≤1048576) (hR:wG l) (hP:tG p=true) :
 Does Tryz.prog 172 [.agg #[.int .i64 p.ins,.int .i64 p.regs,.slice ac p.code.length cc,.slice ao p.outs.length co],.slice a l.length c] G [] (fun v G' Ho=>v=.tuple #[.bool (decide (vB p l)),.int .i64 0]∧Ho=[]):=by
 have hl1:=hR.1
 have hl15:=hR.2.1
 have hev:=Lu (Lj hl15 (fun i hi=>(hR.2.2.1 i hi).1))
 have hgl:=Dp l
 obtain ⟨f1,f2,f3,f4,f5,f6,f7,f8⟩:=wT hP
 refine D0 Tryz.func172 Tryz.ntmps172 fun w=>?_
 by_cases hI:p.ins=l.length
 · by_cases hO:p.outs.length=l.length
   · refine aK 2 [] ?_
     refine cV 0 fun b1=>?_
     refine aJ 7 [] ?_
     refine bV 1 rfl (IH _ a c l sW sV hac hR hl15 hR.2.2.1) fun v1 G1 Ho1 hle1 hp=>?_
     obtain ⟨gs1,gr1,gc1,rfl,hga1,hgb1,hgc1,rfl⟩:=hp
     replace hc:=hc.up hle1
     replace ho:=ho.up hle1
     replace ha:=ha.up hle1
     refine aJ 21 [0,0] ?_
     refine bW rfl (Iv _ p _ _ _ _ sW sW hcl hol hP) ?_
     refine aJ 24 [0,0] ?_
     refine jV 35 ?_
     refine aJ 22 [0,0,0] ?_
     refine bV 20 rfl (UG _ p ac ao gs1 cc co gc1 gr1 (uX l) 2 l.length sW sW sW sW hev sV sV hP (by rw [hgb1.1,hgl,hI])) fun v9 G9 Ho9 hle9 hp=>?_
     obtain ⟨rfl,⟨os,ob,orr,oc,hfo,rfl,hoA,hol9,hoB,hoE⟩ | ⟨hno,k9,rfl⟩⟩:=hp
     · have hos:=xQ hfo
       have hoL:=hoB.1
       replace ha:=ha.up hle9
       have hiff:vB p l↔∀ t:Nat,t<l.length→os[t]?.getD []=uS l.length t:=by
        rw [←IX sV]
        unfold vB
        rw [hfo]
        exact ⟨fun h=>lZ h.2.2.2,fun h=>⟨hP,hI,hO,by rw [h]⟩⟩
       refine bJ 28 [0] ?_
       refine rX (ι:=Nat×Imm) (fun (i,Gx)=>([(54,.int .i64 (i:Int)),(53,.int .i64 (orr.length:Int)),(52,.slice ob (List.length orr) oc),(1,.slice a (List.length l) c)],[(0,some b1,.cells #[.int .i64 p.ins,.int .i64 p.regs,.slice ac p.code.length cc,.slice ao p.outs.length co] 26)])) (fun (i,Gx)=>Gx) (fun (i,Gx)=>i≤l.length∧G9.le Gx∧∀ t:Nat,t<i→os[t]?.getD []=uS l.length t) (fun (i,Gx)=>l.length - i) ((0,G9)) (⟨aU _,cA _,fun t ht=>by omega⟩) fun ⟨i,Gx⟩=>fun hk=>?_
       obtain ⟨hi0,hgx,hall⟩:=hk
       replace hoA:=hoA.up hgx
       rcases aM i l.length with hil | hil
       · obtain ⟨l1,a1,a2,a3,a4⟩:=(hoB.up hgx).2 i sV
         have hE1:=hoE.at (k:=i) sV
         refine aK 14 [1] ?_
         refine dP (α:=SV) T.sl86 ?_
         refine fQ 0 T.one39 ?_
         refine aJ 9 [] ?_
         refine bV 20 rfl (be _ l.length i sV hil) fun v1 G2 Ho1 hle2 hp=>?_
         obtain ⟨s2,l2,d2,rfl,hA2,hl2,hd2,hB2,rfl⟩:=hp
         refine aJ 11 [] ?_
         refine kD 66 rfl (show _=Value.slice (orr[i]?.getD default).a l1.length (orr[i]?.getD default).c by rw [a1];rfl) ?_
         refine bV 20 rfl (ZY _ _ _ _ _ l1 l2 (os[i]?.getD []) (uS l.length i) (a3.up hle2) hA2 (a4.up hle2) hB2 (by rw [a4.1,hE1.1];omega) sV (2+3*p.code.length) sV hE1.2 ((Uy _ _).mono sV)) fun v1 G3 Ho1 hle3 hp=>?_
         obtain ⟨rfl,rfl,rfl⟩:=hp
         by_cases he:os[i]?.getD []=uS l.length i
         · have he2:¬¬(os[i]?.getD []=uS l.length i):=fun h=>h he
           refine aN (dK rfl) ?_
           refine aW 10 [0] ?_
           refine cS ((i+1,G3)) ?_ ?_
           · refine ⟨by omega,aZ hgx hle2,fun t ht=>?_⟩
             rcases aM t i with h1 | h1
             · exact hall t h1
             have e:t=i:=sV
             rw [e];exact he
           show l.length - (i+1)<l.length - i
           omega
         have hnI:¬vB p l:=fun h=>he (hiff.1 h i hil)
         refine aN (dK rfl) ?_
         refine aW 15 [1] ?_
         refine eG ?_
         exact ⟨by rw [bF hnI],rfl⟩
       have hyI:vB p l:=hiff.2 (fun t ht=>hall t sV)
       refine bE 19 [0] ?_
       refine eG ?_
       exact ⟨by rw [cL hyI],rfl⟩
     have hnI:¬vB p l:=fun h=>by have:=h.2.2.2;rw [hno] at this;cases this
     refine aW 25 [1] ?_
     refine eG ?_
     exact ⟨by rw [bF hnI],rfl⟩
   have hnI:¬vB p l:=fun h=>hO h.2.2.1
   refine aK 2 [] ?_
   refine cV 0 fun b1=>?_
   refine aJ 7 [] ?_
   refine bV 1 rfl (IH _ a c l sW sV hac hR hl15 hR.2.2.1) fun v1 G1 Ho1 hle1 hp=>?_
   obtain ⟨gs1,gr1,gc1,rfl,hga1,hgb1,hgc1,rfl⟩:=hp
   replace hc:=hc.up hle1
   replace ho:=ho.up hle1
   replace ha:=ha.up hle1
   refine aJ 21 [0,0] ?_
   refine bW rfl (Iv _ p _ _ _ _ sW sW hcl hol hP) ?_
   refine aJ 24 [0,0] ?_
   refine jV 35 ?_
   refine aW 24 [0,1] ?_
   refine eG ?_
   all_goals exact ⟨by rw [bF hnI],rfl⟩
 have hnI:¬vB p l:=fun h=>hI h.2.1
 refine aK 2 [] ?_
 refine cV 0 fun b1=>?_
 refine aJ 7 [] ?_
 refine bV 1 rfl (IH _ a c l sW sV hac hR hl15 hR.2.2.1) fun v1 G1 Ho1 hle1 hp=>?_
 obtain ⟨gs1,gr1,gc1,rfl,hga1,hgb1,hgc1,rfl⟩:=hp
 replace hc:=hc.up hle1
 replace ho:=ho.up hle1
 replace ha:=ha.up hle1
 refine aJ 21 [0,0] ?_
 refine bW rfl (Iv _ p _ _ _ _ sW sW hcl hol hP) ?_
 refine aJ 24 [0,0] ?_
 refine Io 35 ?_
 refine aW 18 [1] ?_
 refine eG ?_
 all_goals exact ⟨by rw [bF hnI],rfl⟩
end
theorem DU {G:Imm} {n j:Nat} {x:IV} (hx:Big G x 1) (hj:j<n):Bigs G ((List.replicate n (default:IV)).set j x) (uS n j):=by
 unfold uS
 exact (rR G n).set j hx
section
attribute [local irreducible] sX sZ pb pw tQ tN p2 vI uX tR tG uS cst yF
theorem bg (G:Imm) (k:Nat) (hk15:k≤15):Does Tryz.prog 209 [.int .i64 (k:Int)] G [] (fun v G' Ho=>∃ (s:Option Addr) (r:List SV) (c':Nat),v=.slice s r.length c'∧Arr G' s r∧BGrid G' r (uY k)∧r.length≤c'∧Ho=[]):=by
 refine D0 Tryz.func209 Tryz.ntmps209 fun w=>?_
 refine fO 9 (tK 39 ([]:List SV) []) ?_
 refine cF 18 [] ?_
 refine jQ (ι:=Nat×Imm×List SV×(Option Addr×Nat×List Value)) (fun (i,Gx,r,(o,d,j))=>([(7,.int .i64 (i:Int)),(3,.slice o r.length d),(6,.int .i64 (↑k:Int)),(2,.slice none 0 0),(0,.int .i64 (↑k:Int))],[(9,o.map (·.block),tK 39 r j)])) (fun (i,Gx,r,(o,d,j))=>Gx) (fun (i,Gx,r,(o,d,j))=>i≤k∧G.le Gx∧r.length=i∧BGrid Gx r ((uY k).take i)∧OwnA o d r j) (fun (i,Gx,r,(o,d,j))=>k - i) ((0,G,[],(none,0,[]))) (⟨aU _,cA _,rfl,by rw [bN];exact BGrid.nil _,eW⟩) rfl ⟨rfl,rfl,rfl,rfl,rfl,trivial⟩ ⟨rfl,trivial⟩ fun ⟨i,Gx,r,(o,d,j)⟩=>fun hk=>?_
 obtain ⟨hi1,hi2,hi3,hi4,hi5⟩:=hk
 rcases aM i k with hil | hil
 · refine aK 20 [1] ?_
   refine iC (α:=IV) 10 rfl T.sl39 T.el89 rfl rfl sV sV fun b1=>?_
   refine aJ 7 [] ?_
   refine bV 11 rfl (LK _ 1 tF) fun v1 G1 Ho1 hle1 hp=>?_
   obtain ⟨ro1,rfl,hro1,rfl⟩:=hp
   have ho2:OwnA (some ⟨b1,0,none⟩) (List.replicate ((k:Int)).toNat (default:IV)).length (List.replicate ((k:Int)).toNat (default:IV)) []:=iI (by rw [aE];simp only [maxLen];omega)
   refine aN (lS (α:=IV) T.sl39 rfl rfl ho2 Az) ?_
   refine eX (α:=IV) (z:=ro1) (m:=(i:Int)) 10 T.size89 rfl rfl rfl ho2 Az rfl fun ho3=>?_
   refine cR 10 rfl ho3 fun G3 hle3 hA3=>?_
   refine aJ 5 [] ?_
   refine fF (α:=SV) 11 [⟨_,_,_⟩] rfl T.sl86 T.el39 rfl rfl rfl rfl rfl fun b2=>?_
   refine kO (α:=SV) 9 T.sl86 T.el39 (fZ 11 rfl) fun a1 c1 junk1 ho1=>?_
   refine aW 8 [] ?_
   refine cZ 7 rfl (show _=Value.int .i64 ((i+1:Nat):Int) from rfl) ?_
   refine cS ((i+1,_,r++[⟨some ⟨b1,0,none⟩,(List.replicate ((k:Int)).toNat (default:IV)).length,(List.replicate ((k:Int)).toNat (default:IV)).length⟩],(a1,c1,junk1))) ?_ ?_
   · refine ⟨by omega,aZ hi2 (aZ hle1 hle3),by rw [aI,hi3];rfl,?_,ho1⟩
     have e:(uY k).take (i+1)=(uY k).take i++[uS k i]:=by
      rw [dE]
      congr 1
      unfold uY
      rw [cK,fK hil];rfl
     rw [e]
     exact BGrid.snoc (hi4.up (aZ hle1 hle3)) ⟨_,by rw [aH],aG _,hA3,(DU hro1 hil).up hle3⟩
   show k - (i+1)<k - i
   omega
 have hie:i=k:=sV
 subst hie
 have e:(uY i).take i=uY i:=dD (by rw [zB];exact aG _)
 rw [e] at hi4
 refine bE 19 [0] ?_
 refine eE 9 rfl hi5 fun G8 hle8 hA8=>?_
 refine bO ?_
 exact ⟨_,_,_,rfl,hA8,hi4.up hle8,hi5.le,rfl⟩
end
theorem bh (G:Imm) (a:Option Addr) (c:Nat) (l:List R2) (ha:Arr G a l) (hl:l.length≤1048576) :
 Does Tryz.prog 25 [.slice a l.length c] G [] (fun v G' Ho=>∃ s d,v=.slice s l.length d∧Arr G' s l∧l.length≤d∧Ho=[]):=by
 refine D0 Tryz.func25 Tryz.ntmps25 fun w=>?_
 by_cases hne:a=none
 · subst hne
   have hl0:l=[]:=by
    rcases ha.2 with h0 | ⟨_,_,h,_⟩
    · exact List.length_eq_zero_iff.mp h0
    cases h
   subst hl0
   refine fO 0 (tK 51 ([]:List R2) []) ?_
   refine aK 9 [] ?_
   refine aN (gH T.sl22 rfl rfl) ?_
   refine bJ 2 [] ?_
   refine dN (fun hc1=>?_) fun hc1=>?_
   refine bE 7 [] ?_
   rotate_left
   refine aK 4 [] ?_
   refine rA 1 rfl T.sl22 fun b1=>?_
   refine aA 1 [] ?_
   rotate_left
   refine bO ?_
   · exact ⟨none,0,rfl,⟨rfl,.inl rfl⟩,aG _,rfl⟩
   exact absurd rfl hc1
 refine aK 9 [] ?_
 refine aN (gH T.sl22 rfl rfl) ?_
 refine aJ 7 [0] ?_
 refine rA 0 rfl T.sl22 fun b1=>?_
 refine aA 1 [] ?_
 refine oV 0 (tK 51 ([]:List R2) []) rfl rfl ?_
 refine nM (α:=R2) (xs:=[]) (ys:=l) (junk:=[]) 0 rfl T.sl22 T.el51 rfl rfl rfl (.inr ⟨b1,rfl,rfl,aG _,aU _⟩) (qB ha) (by rw [cT];omega) FA fun a1 c1 junk1 ho1=>?_
 rw [fT] at ho1 ⊢
 refine aW 4 [] ?_
 refine eE 0 rfl ho1 fun G1 hle1 harr1=>?_
 refine bO ?_
 exact ⟨a1,c1,rfl,harr1,ho1.le,rfl⟩
theorem Po (a b c d:Int):Jd a b c d↔Jd c d a b:=by
 unfold Jd
 by_cases h:(a=0∧b=0)∨(c=0∧d=0)
 · rw [aR h,aR h.symm];exact And.comm
 rw [aL h,aL (fun h2=>h h2.symm)];omega
instance (l:List R2):Decidable (zC l):=Classical.propDecidable _
theorem UK (G:Imm) (a:Option Addr) (c:Nat) (l:List R2) (ha:Arr G a l) (h1:l.length≤1048576):Does Tryz.prog 165 [.slice a l.length c,.func (.func 166) #[] #[]] G [] (fun v G' Ho=>v=.bool (decide (zC l))∧G'=G∧Ho=[]):=by
 refine (ZS G a c l ha h1).mono fun v G' Ho _ ⟨b,e,h1,h2,h3⟩=>?_
 subst e
 refine ⟨?_,h2,h3⟩
 congr 1
 by_cases h:zC l
 · rw [cL h];exact h1.2 h
 rw [bF h]
 exact Bool.eq_false_iff.2 (fun h2=>h (h1.1 h2))
theorem c75 (G:Imm) (k1 k2:Int) (a:Option Addr) (c:Nat) (l:List R2) (ha:Arr G a l) (hl:l.length≤1048576) :
 Does Tryz.prog 75 [.agg #[.int .i64 k1,.int .i64 k2,.slice a l.length c]] G [] (fun v G' Ho=>v=.int .i64 (tY k1 k2 l)∧G'=G∧Ho=[]):=by
 refine D0 Tryz.func75 Tryz.ntmps75 fun w=>?_
 refine aK 2 [] ?_
 refine cV 0 fun b1=>?_
 refine aJ 10 [0] ?_
 apply bZ 4 9 13 rfl
 intro hg1
 refine aA 7 [0] ?_
 exact cU 4 0
 intro hg1
 refine aA 4 [] ?_
 exact cU 4 0
 refine aA 1 [] ?_
 apply bZ 4 14 18 rfl
 intro hg1
 refine aA 7 [0] ?_
 exact cU 4 0
 intro hg1
 refine aA 4 [] ?_
 exact cU 4 0
 refine aA 1 [] ?_
 apply bZ 4 19 23 rfl
 intro hg1
 refine aA 7 [0] ?_
 exact cU 4 0
 intro hg1
 refine aA 4 [] ?_
 exact cU 4 0
 refine bJ 2 [] ?_
 refine dN (fun hc1=>?_) fun hc1=>?_
 refine bE 7 [] ?_
 refine bO ?_
 rotate_left
 refine cF 9 [] ?_
 rotate_left
 · exact ⟨congrArg _ (Aq (by unfold uK;omega)).symm,rfl,rfl⟩
 have hP:uK k1∧uK k2:=by unfold uK;omega
 refine gC (ι:=Nat) (fun j=>([(3,.int .i64 (j:Int)),(1,.pointer (some ⟨b1,0,none⟩))],[(0,some b1,.cells #[.int .i64 k1,.int .i64 k2,.slice a (List.length l) c] 134)])) (fun j=>j≤l.length∧∀ i:Nat,i<j→uO (l[i]?.getD default).a (l[i]?.getD default).b) (fun j=>l.length - j) (0) (⟨aU _,fun i h=>absurd h sV⟩) fun j=>fun hk=>?_
 obtain ⟨hj,hno⟩:=hk
 refine cF 10 [0] ?_
 refine dN (fun hc2=>?_) fun hc2=>?_
 refine aK 9 [0] ?_
 refine dP (α:=R2) T.sl22 ?_
 refine mM T.agg51 ?_
 refine bW rfl (by apply ZJ <;> first | assumption | omega | rfl) ?_
 refine aN (dK rfl) ?_
 refine bJ 2 [] ?_
 refine dN (fun hc3=>?_) fun hc3=>?_
 refine bE 11 [] ?_
 refine bO ?_
 rotate_left
 refine bE 8 [] ?_
 rotate_left
 refine cF 20 [0,0,0] ?_
 refine dN (fun hc3=>?_) fun hc3=>?_
 refine bE 7 [] ?_
 refine bO ?_
 rotate_left
 refine cF 9 [] ?_
 rotate_left
 · exact ⟨congrArg _ (Ll (fun h=>absurd (h j sV) sW)).symm,rfl,rfl⟩
 · refine cS (j+1) ?_ ?_
   · refine ⟨by omega,fun i hi=>?_⟩
     rcases aM i j with h | h
     · exact hno i h
     have e:i=j:=sV
     subst e;exact bD.1 sW
   omega
 · have hA:Bw l:=fun i hi=>hno i sV
   exact ⟨congrArg _ (Hq hP hA sV).symm,rfl,rfl⟩
 have hA:Bw l:=fun i hi=>hno i sV
 have hnear:∀ i:Nat,i<l.length→uO (l[i]?.getD default).a (l[i]?.getD default).b:=hA
 clear hno
 have hL:(l.length:Int)=k1+k2 - 1:=sV
 refine gC (ι:=Nat) (fun m=>([(4,.int .i64 (m:Int)),(1,.pointer (some ⟨b1,0,none⟩))],[(0,some b1,.cells #[.int .i64 k1,.int .i64 k2,.slice a (List.length l) c] 134)])) (fun m=>m≤l.length∧∀ i:Nat,i<m→¬((l[i]?.getD default).a=0∧(l[i]?.getD default).b=0)∧∀ k:Nat,k<i→¬Jd (l[i]?.getD default).a (l[i]?.getD default).b (l[k]?.getD default).a (l[k]?.getD default).b) (fun m=>l.length - m) (0) (⟨aU _,fun i h=>absurd h sV⟩) fun m=>fun hk=>?_
 obtain ⟨hm,hn2⟩:=hk
 refine cF 10 [0] ?_
 refine dN (fun hc4=>?_) fun hc4=>?_
 refine aK 10 [0] ?_
 refine dP (α:=R2) T.sl22 ?_
 refine mM T.agg51 ?_
 refine bW rfl So ?_
 refine bJ 2 [] ?_
 refine dN (fun hc5=>?_) fun hc5=>?_
 refine bE 12 [] ?_
 refine bO ?_
 rotate_left
 refine cF 8 [] ?_
 rotate_left
 refine bE 11 [] ?_
 refine bO ?_
 rotate_left
 · exact ⟨congrArg _ (zY hP hA (.inl ⟨m,by omega,by assumption⟩)).symm,rfl,rfl⟩
 · refine gC (ι:=Nat) (fun k=>([(5,.int .i64 (k:Int)),(4,.int .i64 (↑m:Int)),(1,.pointer (some ⟨b1,0,none⟩))],[(0,some b1,.cells #[.int .i64 k1,.int .i64 k2,.slice a (List.length l) c] 134)])) (fun k=>k≤m∧∀ i:Nat,i<k→¬Jd (l[m]?.getD default).a (l[m]?.getD default).b (l[i]?.getD default).a (l[i]?.getD default).b) (fun k=>m - k) (0) (⟨aU _,fun i h=>absurd h sV⟩) fun k=>fun hk=>?_
   obtain ⟨hk0,hn3⟩:=hk
   refine cF 8 [] ?_
   refine dN (fun hc6=>?_) fun hc6=>?_
   refine cF 5 [] ?_
   refine eB [0] [] T.mixed [[0],[1,0],[2]] ?_
   refine jC (α:=R2) 3 T.sl22 ?_
   refine pN 4 T.agg51 ?_
   refine eJ [[5],[6,0],[7]] ?_
   refine jC (α:=R2) 8 T.sl22 ?_
   refine pN 9 T.agg51 ?_
   refine fE 10 ?_
   refine bW rfl (ZO _ _ _ _ _ (hnear _ sV) (hnear _ sV)) ?_
   refine fV ?_
   refine cE ?_
   refine dN (fun hc7=>?_) fun hc7=>?_
   refine bE 15 [] ?_
   refine bO ?_
   rotate_left
   refine bE 8 [] ?_
   rotate_left
   refine bE 11 [] ?_
   rotate_left
   · exact ⟨congrArg _ (zY hP hA (.inr ((Up l).2 ⟨m,by omega,k,by omega,hnear k sV,hnear m sV,(Po _ _ _ _).1 sW⟩))).symm,rfl,rfl⟩
   · refine cS (k+1) ?_ ?_
     · refine ⟨by omega,fun i hi=>?_⟩
       rcases aM i k with h | h
       · exact hn3 i h
       have e:i=k:=sV
       subst e;assumption
     omega
   refine cS (m+1) ?_ ?_
   · refine ⟨by omega,fun i hi=>?_⟩
     rcases aM i m with h | h
     · exact hn2 i h
     have e:i=m:=sV
     subst e;exact ⟨by assumption,fun k0 h0=>hn3 k0 sV⟩
   omega
 refine ⟨congrArg _ (Ut hP hA hL ?_).symm,rfl,rfl⟩
 rintro (⟨i,hi,h0⟩ | h0)
 · exact (hn2 i sV).1 h0
 obtain ⟨j0,hj0,i0,hi0,_,_,h1⟩:=(Up l).1 h0
 exact (hn2 j0 sV).2 i0 hi0 ((Po _ _ _ _).1 h1)
theorem UL (G:Imm) (k1 k2:Int) (a:Option Addr) (c:Nat) (l:List R2) (ha:Arr G a l) (hl:l.length≤1048576) (hlc:l.length≤c) :
 Does Tryz.prog 122 [.int .i64 k1,.int .i64 k2,.slice a l.length c] G [] (fun v G' Ho=>∃ pv:Value,v=.tuple #[pv,.int .i64 (tY k1 k2 l)]∧Ho=[]):=by
 refine D0 Tryz.func122 Tryz.ntmps122 fun w=>?_
 refine aK 10 [] ?_
 refine bW rfl (by apply TZ <;> first | assumption | omega | rfl) ?_
 refine aN (dK rfl) ?_
 refine aA 1 [] ?_
 apply bZ 4 16 20 rfl
 intro hg1
 refine aA 3 [] ?_
 refine bW rfl (by apply TZ <;> first | assumption | omega | rfl) ?_
 refine aA 1 [] ?_
 refine aN (dK rfl) ?_
 refine aA 1 [] ?_
 exact cU 4 0
 intro hg1
 refine aA 4 [] ?_
 exact cU 4 0
 refine bJ 2 [] ?_
 refine dN (fun hc1=>?_) fun hc1=>?_
 refine bE 8 [] ?_
 rotate_left
 refine cF 11 [] ?_
 rotate_left
 · refine eG ?_
   exact ⟨_,by rw [Aq (by unfold uK;omega)],rfl⟩
 have hP:uK k1∧uK k2:=by unfold uK;omega
 refine gC (ι:=Nat) (fun j=>([(23,.int .i64 (j:Int)),(0,.int .i64 k1),(1,.int .i64 k2),(2,.slice a l.length c),(22,.int .i64 (l.length:Int)),(21,.slice a (List.length l) c)],[])) (fun j=>j≤l.length∧∀ i:Nat,i<j→uO (l[i]?.getD default).a (l[i]?.getD default).b) (fun j=>l.length - j) (0) (⟨aU _,fun i h=>absurd h sV⟩) fun j=>fun hk=>?_
 obtain ⟨hj,hno⟩:=hk
 refine cF 6 [] ?_
 refine dN (fun hc2=>?_) fun hc2=>?_
 refine aK 6 [] ?_
 refine dP (α:=R2) T.sl22 ?_
 refine mM T.agg51 ?_
 refine aQ 0 rfl T.zero51 fun b1=>?_
 refine aJ 6 [0,0] ?_
 refine bW rfl Og ?_
 refine aN (dK rfl) ?_
 refine bJ 2 [] ?_
 refine dN (fun hc3=>?_) fun hc3=>?_
 refine bE 12 [] ?_
 rotate_left
 refine bE 7 [] ?_
 rotate_left
 refine aK 16 [] ?_
 apply bZ 3 38 41 rfl
 intro hg1
 refine aA 3 [] ?_
 refine bW rfl (UK _ _ _ _ sW sV) ?_
 refine aA 1 [] ?_
 exact cU 3 0
 intro hg1
 refine aA 3 [] ?_
 exact cU 3 0
 refine bJ 2 [] ?_
 refine dN (fun hc3=>?_) fun hc3=>?_
 refine bE 8 [] ?_
 rotate_left
 refine aK 5 [] ?_
 refine bV 0 rfl (TR _ _ _ _ sW sV uU) fun v1 G1 Ho1 hle1 hp=>?_
 obtain ⟨ti1,tj1,tb1,rfl,htb1,rfl,rfl⟩:=hp
 refine bJ 15 [] ?_
 refine rM rfl (fun hc4=>?_) fun hc4=>?_
 refine bE 8 [] ?_
 rotate_left
 refine aK 7 [] ?_
 refine bV 0 rfl (bh _ _ _ _ sW sV) fun v2 G2 Ho2 hle2 hp=>?_
 obtain ⟨s2,d2,rfl,hs2,hsd2,rfl⟩:=hp
 refine aN (fB (cs:=[_,_,_]) T.st251 rfl rfl rfl) ?_
 refine cV 0 fun b1=>?_
 refine aW 5 [] ?_
 rotate_left
 · refine eG ?_
   exact ⟨_,by rw [Ll (fun h=>absurd (h j sV) sW)],rfl⟩
 · refine cZ 23 rfl (show _=Value.int .i64 ((j+1:Nat):Int) from rfl) ?_
   refine cS (j+1) ?_ ?_
   · refine ⟨by omega,fun i hi=>?_⟩
     rcases aM i j with h | h
     · exact hno i h
     have e:i=j:=sV
     subst e;exact bD.1 sW
   omega
 · have hA:Bw l:=fun i hi=>hno i sV
   have e:tY k1 k2 l=71:=hc3.elim (fun h=>Hq hP hA h) (fun h=>zY hP hA (.inl h))
   refine eG ?_
   exact ⟨_,by rw [e],rfl⟩
 · have hA:Bw l:=fun i hi=>hno i sV
   have e:tY k1 k2 l=71:=zY hP hA (.inr (htb1.1 sW))
   refine eG ?_
   exact ⟨_,by rw [e],rfl⟩
 have hA:Bw l:=fun i hi=>hno i sV
 have e:tY k1 k2 l=0:=Ut hP hA (dO fun h=>hc3 (.inl h)) (fun h=>h.elim (fun h=>hc3 (.inr h)) (fun h=>absurd (htb1.2 h) (by rw [hc4];decide)))
 refine eG ?_
 exact ⟨_,by rw [e],rfl⟩
theorem bi (G:Imm) (a:Option Addr) (c:Nat) (l:List R2) (ha:Arr G a l) (hl:l.length≤1048576) (hR:wG l) :
 Does Tryz.prog 184 [.slice a l.length c] G [] (fun v G' Ho=>v=.bool (decide (1=1))∧G'=G∧Ho=[]):=by
 refine D0 Tryz.func184 Tryz.ntmps184 fun w=>?_
 refine cF 14 [] ?_
 refine gC (ι:=Nat) (fun j=>([(7,.int .i64 (j:Int)),(6,.int .i64 (l.length:Int)),(5,.slice a (List.length l) c),(0,.slice a (List.length l) c)],[])) (fun j=>j≤l.length) (fun j=>l.length - j) (0) (aU _) fun j=>fun (hk:j≤l.length)=>?_
 refine cF 6 [] ?_
 refine dN (fun hc1=>?_) fun hc1=>?_
 refine aK 6 [] ?_
 refine dP (α:=R2) T.sl22 ?_
 refine mM T.agg51 ?_
 refine aQ 0 rfl T.zero51 fun b1=>?_
 refine aJ 6 [0,0] ?_
 refine bW rfl Og ?_
 refine aN (dK rfl) ?_
 refine bJ 2 [] ?_
 refine dN (fun hc2=>?_) fun hc2=>?_
 refine bE 11 [] ?_
 rotate_left
 refine bE 7 [] ?_
 rotate_left
 refine aK 11 [] ?_
 apply cW 4 18 22 rfl
 intro hg1
 refine aA 7 [] ?_
 exact cU 4 0
 intro hg1
 refine aA 4 [] ?_
 exact cU 4 0
 refine aW 4 [] ?_
 rotate_left
 · exfalso
   have h:=(hR.2.2.1 j sV).1
   exact absurd h sW
 · refine cZ 7 rfl (show _=Value.int .i64 ((j+1:Nat):Int) from rfl) ?_
   refine cS (j+1) ?_ ?_
   · omega
   omega
 refine bO ?_
 have h1:=hR.1
 have h2:=hR.2.1
 exact ⟨by rw [cL sV,cL rfl],rfl,rfl⟩
end Go.Proofs.YtngphgeghfdjbaaGreatDoor
end
