/- sT of the proof (part 6): what the rows' text needs of the texts that lead to it. -/
import Derived.Test.YtngphgeghfdjbaaGreatDoorMAe
set_option linter.unusedVariables false
set_option linter.unusedSimpArgs false
set_option linter.unusedSectionVars false
set_option maxHeartbeats 4000000
noncomputable section
set_option maxRecDepth 100000
namespace Go.Proofs.YtngphgeghfdjbaaGreatDoor
open Go Go.Sl
structure PH where
 ins:Int
 regs:Int
 ac:Option Addr
 cn:Nat
 cc:Nat
 ao:Option Addr
 on:Nat
 oc:Nat
instance:Inhabited PH:=⟨⟨0,0,none,0,0,none,0,0⟩⟩
instance:Cells PH:=⟨4,fun x=>[.int .i64 x.ins,.int .i64 x.regs,.slice x.ac x.cn x.cc,.slice x.ao x.on x.oc],fun _=>rfl,fun _=>rfl⟩
def Fk (pn:Nat) (l:List PH):Bool:=l.any (fun p=>decide (80<p.regs)) || decide (600<(l.map (·.cn)).sum) || decide (15<pn)
theorem EO {pn:Nat} {l:List PH} {k:Nat} (hk:k<l.length) (h:80<(l[k]?.getD default).regs):Fk pn l=true:=by
 have h2:l.any (fun p=>decide (80<p.regs))=true:=by
  rw [List.any_eq_true]
  rw [aC hk,gN] at h
  exact ⟨l[k],dA hk,cR h⟩
 unfold Fk
 rw [h2]
 rfl
theorem JI {pn:Nat} {l:List PH} (h:∀ p∈l,¬80<p.regs):Fk pn l=decide (600<(((l.map (·.cn)).sum:Nat):Int)∨15<(pn:Int)):=by
 have h2:l.any (fun p=>decide (80<p.regs))=false:=by
  rw [List.any_eq_false]
  intro p hp
  simpa using h p hp
 unfold Fk
 rw [h2,Bool.false_or]
 rw [Bool.eq_iff_iff]
 simp only [lE,aQ]
 omega
theorem EP (x y z:PH) {C:Nat} (hx:x.cn≤C) (hy:y.cn≤C) (hz:z.cn≤C) (k:Nat):(([x,y,z]:List PH)[k]?.getD default).cn≤C:=by
 match k with
 | 0=>exact hx
 | 1=>exact hy
 | 2=>exact hz
 | k+3=>exact aT _
theorem Zl (x y z:PH) {C:Nat} (hx:x.cn≤C) (hy:y.cn≤C) (hz:z.cn≤C) (k:Nat) (hk:k≤3):((([x,y,z]:List PH).take k).map (·.cn)).sum≤3*C:=by
 match k,hk with
 | 0,_=>exact aT _
 | 1,_=>show x.cn+0≤3*C;omega
 | 2,_=>show x.cn+(y.cn+0)≤3*C;omega
 | 3,_=>show x.cn+(y.cn+(z.cn+0))≤3*C;omega
theorem Tu (x y z:PH) (k:Nat) (hk:k<3):((([x,y,z]:List PH).take (k+1)).map (·.cn)).sum=((([x,y,z]:List PH).take k).map (·.cn)).sum+(([x,y,z]:List PH)[k]?.getD default).cn:=by
 match k,hk with
 | 0,_=>show x.cn+0=0+x.cn;omega
 | 1,_=>show x.cn+(y.cn+0)=x.cn+0+y.cn;omega
 | 2,_=>show x.cn+(y.cn+(z.cn+0))=x.cn+(y.cn+0)+z.cn;omega
theorem Zm (x y z:PH) {q:PH→Prop} (k:Nat) (hk:k<3) (h:∀ p∈([x,y,z]:List PH).take k,q p) (h1:q (([x,y,z]:List PH)[k]?.getD default)):∀ p∈([x,y,z]:List PH).take (k+1),q p:=by
 intro p hp
 rw [eG,eV] at hp
 rcases hp with hp | hp
 · exact h p hp
 have hk':k<([x,y,z]:List PH).length:=hk
 rw [aC hk'] at hp h1
 have e:p=([x,y,z]:List PH)[k]:=by simpa using hp
 rw [e];exact h1
theorem c17 (G:Imm) (k1 k2:Int) (pa:Option Addr) (pn pc:Nat) (x y z:PH) (hx:x.cn≤1099511627776) (hy:y.cn≤1099511627776) (hz:z.cn≤1099511627776) :
 Does Tryz.prog 17 [.agg #[.int .i64 k1,.int .i64 k2,.slice pa pn pc,.int .i64 x.ins,.int .i64 x.regs,.slice x.ac x.cn x.cc,.slice x.ao x.on x.oc,.int .i64 y.ins,.int .i64 y.regs,.slice y.ac y.cn y.cc,.slice y.ao y.on y.oc,.int .i64 z.ins,.int .i64 z.regs,.slice z.ac z.cn z.cc,.slice z.ao z.on z.oc]] G [] (fun v G' Ho=>v=.bool (Fk pn [x,y,z])∧G'=G∧Ho=[]):=by
 refine D0 Tryz.func17 Tryz.ntmps17 fun w=>?_
 refine aM 2 [] ?_
 refine cV 0 fun b1=>?_
 refine aL 12 [] ?_
 refine aN (eI 0 T.agg26 rfl rfl rfl rfl) ?_
 refine aA 1 [] ?_
 refine aN (eI 0 T.agg26 rfl rfl rfl rfl) ?_
 refine aA 1 [] ?_
 refine aN (eI 0 T.agg26 rfl rfl rfl rfl) ?_
 refine fC (α:=PH) 1 [⟨_,_,_,_,_,_,_,_⟩,⟨_,_,_,_,_,_,_,_⟩,⟨_,_,_,_,_,_,_,_⟩] rfl T.sl122 T.el26 rfl rfl rfl rfl rfl fun b2=>?_
 refine bR 5 [] ?_
 refine fS (ι:=Nat×Nat) (fun (k,n)=>([(14,.int .i64 (k:Int)),(3,.int .i64 (n:Int)),(13,.int .i64 (↑(List.length [PH.mk (PH.ins x) (PH.regs x) (PH.ac x) (PH.cn x) (PH.cc x) (PH.ao x) (PH.on x) (PH.oc x),PH.mk (PH.ins y) (PH.regs y) (PH.ac y) (PH.cn y) (PH.cc y) (PH.ao y) (PH.on y) (PH.oc y),PH.mk (PH.ins z) (PH.regs z) (PH.ac z) (PH.cn z) (PH.cc z) (PH.ao z) (PH.on z) (PH.oc z)]):Int)),(12,.slice (some (Addr.mk b2 0 none)) (List.length [PH.mk (PH.ins x) (PH.regs x) (PH.ac x) (PH.cn x) (PH.cc x) (PH.ao x) (PH.on x) (PH.oc x),PH.mk (PH.ins y) (PH.regs y) (PH.ac y) (PH.cn y) (PH.cc y) (PH.ao y) (PH.on y) (PH.oc y),PH.mk (PH.ins z) (PH.regs z) (PH.ac z) (PH.cn z) (PH.cc z) (PH.ao z) (PH.on z) (PH.oc z)]) 3),(1,.pointer (some ⟨b1,0,none⟩))],[(1,some b2,rV (α:=PH) 26 ([PH.mk (PH.ins x) (PH.regs x) (PH.ac x) (PH.cn x) (PH.cc x) (PH.ao x) (PH.on x) (PH.oc x),PH.mk (PH.ins y) (PH.regs y) (PH.ac y) (PH.cn y) (PH.cc y) (PH.ao y) (PH.on y) (PH.oc y),PH.mk (PH.ins z) (PH.regs z) (PH.ac z) (PH.cn z) (PH.cc z) (PH.ao z) (PH.on z) (PH.oc z)]) ([])),(0,some b1,.cells #[.int .i64 k1,.int .i64 k2,.slice pa pn pc,.int .i64 (PH.ins x),.int .i64 (PH.regs x),.slice (PH.ac x) (PH.cn x) (PH.cc x),.slice (PH.ao x) (PH.on x) (PH.oc x),.int .i64 (PH.ins y),.int .i64 (PH.regs y),.slice (PH.ac y) (PH.cn y) (PH.cc y),.slice (PH.ao y) (PH.on y) (PH.oc y),.int .i64 (PH.ins z),.int .i64 (PH.regs z),.slice (PH.ac z) (PH.cn z) (PH.cc z),.slice (PH.ao z) (PH.on z) (PH.oc z)] 28)])) (fun (k,n)=>k≤3∧n=((([x,y,z]:List PH).take k).map (·.cn)).sum∧∀ p∈([x,y,z]:List PH).take k,¬80<p.regs) (fun (k,n)=>3 - k) ((0,0)) (⟨aT _,rfl,fun p h=>absurd h sI⟩) fun ⟨k,n⟩=>fun hk=>?_
 obtain ⟨hk3,hn,hno⟩:=hk
 refine cJ 6 [] ?_
 refine dL (fun hc1=>?_) fun hc1=>?_
 refine aM 6 [] ?_
 refine aN (dF T.sl122 rfl rfl rG) ?_
 rotate_left
 refine aM 10 [] ?_
 apply cA 5 29 34 rfl
 intro hg1
 refine aA 9 [0] ?_
 exact cQ 5 0
 intro hg1
 refine aA 5 [] ?_
 exact cQ 5 0
 refine aY 4 [] ?_
 refine bT ?_
 rotate_left
 · have hk2:k<3:=by
    have h:(k:Int)<3:=hc1
    omega
   have hcn:=EP x y z hx hy hz (k:Int).toNat
   have hs3:n≤3*1099511627776:=by rw [hn];exact Zl x y z hx hy hz k hk3
   refine aN (Lq (α:=PH) (xs:=[x,y,z]) (junk:=[]) 1 T.agg26 rfl rfl (show 0≤(k:Int)∧(k:Int)<(([x,y,z]:List PH).length:Int) from ⟨by omega,hc1⟩)) ?_
   refine aU 2 rfl T.zero26 fun b3=>?_
   refine bR 20 [2,2,2] ?_
   refine dL (fun hc2=>?_) fun hc2=>?_
   refine bG 11 [] ?_
   refine bT ?_
   rotate_left
   refine bG 7 [] ?_
   rotate_left
   · exact ⟨congrArg Value.bool (EO (l:=[x,y,z]) (k:=k) hk2 hc2).symm,rfl,rfl⟩
   refine dC 14 rfl (show _=Value.int .i64 ((k+1:Nat):Int) from rfl) ?_
   refine dC 3 rfl (show _=Value.int .i64 ((n+([x,y,z][(k:Int).toNat]?.getD default).cn:Nat):Int) from rfl) ?_
   refine cP ((k+1,n+([x,y,z][(k:Int).toNat]?.getD default).cn)) ?_ ?_
   · exact ⟨hk2,by rw [hn];exact (Tu x y z k hk2).symm,Zm x y z (q:=fun p=>¬80<p.regs) k hk2 hno hc2⟩
   show 3 - (k+1)<3 - k
   omega
 have hk2:k=3:=by
  have h:¬(k:Int)<3:=hc1
  omega
 subst hk2
 rw [show Fk pn [x,y,z]=_ from JI (pn:=pn) (l:=[x,y,z]) hno,hn]
 exact ⟨rfl,rfl,rfl⟩
def tG (k:Nat):List (List Int):=(List.range k).map (tC k)
theorem xF (k:Nat):(tG k).length=k:=by unfold tG;rw [bS,gY]
theorem Zn (k j:Nat):(tC k j).length=k:=by unfold tC;rw [aG,aE]
theorem zP (k:Nat):Even 4 k (tG k):=fun zs hz=>by
 unfold tG at hz
 obtain ⟨j,hj,rfl⟩:=dP.1 hz
 exact ⟨Zn k j,Bc k j 4 rG⟩
def Me (p:PV):Prop:=∀ i∈p.code,¬(i.op=6∨i.op=8)
instance (p:PV):Decidable (Me p):=inferInstanceAs (Decidable (∀ i∈p.code,_))
theorem EQ {i:Sl.Instr} (rs:List (List Int)) (h:¬(i.op=6∨i.op=8)):∃ x,wJ i rs=some x:=by
 unfold wJ
 by_cases h1:i.op=2
 · exact ⟨_,aR h1⟩
 by_cases h2:i.op=3
 · exact ⟨_,by simp only [h1,eP];rw [aR h2]⟩
 by_cases h3:i.op=4
 · exact ⟨_,by simp only [h1,h2,eP];rw [aR h3]⟩
 by_cases h4:i.op=5∨i.op=7
 · exact ⟨_,by simp only [h1,h2,h3,eP];rw [aR h4]⟩
 exact ⟨_,by simp only [h1,h2,h3,h4,h,eP];rfl⟩
theorem Iq {p:PV} (h:Me p) (gs:List (List Int)):∀ k:Nat,k≤p.code.length→∃ rs,wH p gs k=some rs
 | 0,_=>⟨_,rfl⟩
 | k+1,hk=>by
   obtain ⟨rs,h1⟩:=Iq h gs k rG
   have hm:p.code[(k:Int).toNat]?.getD default∈p.code:=by
    rw [aF,aC rG];exact dA _
   obtain ⟨x,h2⟩:=EQ rs (h _ hm)
   exact ⟨_,Ax (x:=rs) h1 h2⟩
theorem Ct {p:PV} (h:Me p) (gs:List (List Int)):∃ os,sC p gs=some os:=by
 obtain ⟨rs,h1⟩:=Iq h gs _ (aH _)
 exact ⟨_,by unfold sC;rw [h1];rfl⟩
def tW (p:PV) (k:Int) (l:List R2):Prop:=p.ins=k∧p.outs.length=l.length∧Me p∧sC p (tG k.toNat)=some (l.map fun q=>tP q.a q.b k.toNat)
instance (p:PV) (k:Int) (l:List R2):Decidable (tW p k l):=inferInstanceAs (Decidable (_∧_))
theorem Rh {os:List (List Int)} {l:List R2} {k:Nat} (hl:os.length=l.length):(os=l.map fun q=>tP q.a q.b k)↔∀ t:Nat,t<l.length→os[t]?.getD []=tP (l[t]?.getD default).a (l[t]?.getD default).b k:=by
 constructor
 · intro h t ht
   rw [h,cF,aC ht];rfl
 intro h
 refine fG fun i=>?_
 rcases aJ i l.length with h1 | h1
 · have:=h i h1
   rw [aC rG,gN] at this
   rw [aC rG,cF,this,aC h1];rfl
 rw [cM rG,cM (by rw [bS];omega)]
theorem Wg {xs ys:List Int} {k:Nat} (h1:xs.length=k) (h2:ys.length=k):xs=ys↔∀ t:Nat,t<k→xs[t]?.getD 0=ys[t]?.getD 0:=by
 constructor
 · intro h t _;rw [h]
 intro h
 refine fG fun i=>?_
 rcases aJ i k with h3 | h3
 · have:=h i h3
   rw [aC rG,aC rG] at this ⊢
   exact congrArg some this
 rw [cM rG,cM rG]
theorem Cu (a b:Int) (k:Nat):(tP a b k).length=k:=by unfold tP;rw [bS,gY]
def sT (k:Int):Prop:=1≤k∧k≤8
instance (k:Int):Decidable (sT k):=inferInstanceAs (Decidable (_∧_))
def zQ (l:List R2):Prop:=∀ i:Nat,i<l.length→tA (l[i]?.getD default).a (l[i]?.getD default).b
def xG (l:List R2):Prop:=∃ i:Nat,i<l.length∧((l[i]?.getD default).a=0∧(l[i]?.getD default).b=0)
open Classical in
def sN (k1 k2:Int) (l:List R2):Int:=
 if ¬(sT k1∧sT k2) then 70 else if ¬zQ l then 70 else if ¬((l.length:Int)=k1+k2 - 1) then 71 else if xG l∨Twin l then 71 else 0
theorem yS {k1 k2:Int} {l:List R2} (h:¬(sT k1∧sT k2)):sN k1 k2 l=70:=by unfold sN;rw [aR h]
theorem Ir {k1 k2:Int} {l:List R2} (h:¬zQ l):sN k1 k2 l=70:=by
 unfold sN
 by_cases h1:¬(sT k1∧sT k2)
 · rw [aR h1]
 rw [aK h1,aR h]
theorem Ei {k1 k2:Int} {l:List R2} (h1:sT k1∧sT k2) (h2:zQ l) (h:¬((l.length:Int)=k1+k2 - 1)):sN k1 k2 l=71:=by
 unfold sN;rw [aK (fun h=>h h1),aK (fun h=>h h2),aR h]
theorem xZ {k1 k2:Int} {l:List R2} (h1:sT k1∧sT k2) (h2:zQ l) (h:xG l∨Twin l):sN k1 k2 l=71:=by
 unfold sN;rw [aK (fun h=>h h1),aK (fun h=>h h2)]
 by_cases h3:¬((l.length:Int)=k1+k2 - 1)
 · rw [aR h3]
 rw [aK h3,aR h]
theorem Ri {k1 k2:Int} {l:List R2} (h1:sT k1∧sT k2) (h2:zQ l) (h3:(l.length:Int)=k1+k2 - 1) (h:¬(xG l∨Twin l)):sN k1 k2 l=0:=by
 unfold sN;rw [aK (fun h=>h h1),aK (fun h=>h h2),aK (fun h=>h h3),aK h]
theorem Fl {k1 k2:Int} {l:List R2} (h:sN k1 k2 l=0):sT k1∧sT k2∧(l.length:Int)=k1+k2 - 1∧uM l:=by
 by_cases h1:sT k1∧sT k2
 · by_cases h2:zQ l
   · by_cases h3:(l.length:Int)=k1+k2 - 1
     · by_cases h4:xG l∨Twin l
       · rw [xZ h1 h2 h4] at h;omega
       refine ⟨h1.1,h1.2,h3,?_,?_,fun i hi=>⟨h2 i hi,fun h5=>h4 (.inl ⟨i,hi,h5⟩)⟩,fun h5=>h4 (.inr h5)⟩
       · have:=h1.1.1;have:=h1.2.1;omega
       have:=h1.1.2;have:=h1.2.2;omega
     rw [Ei h1 h2 h3] at h;omega
   rw [Ir h2] at h;omega
 rw [yS h1] at h;omega
open Classical in
def tB (k1 k2:Int) (l:List R2) (x y z:PV):Int×Int:=
 if ¬sN k1 k2 l=0 then (0,sN k1 k2 l)
 else if ¬rP x=true then (1,80) else if ¬tW x k1 l then (1,180)
 else if ¬rP y=true then (2,80) else if ¬tW y k2 l then (2,180)
 else if ¬rP z=true then (3,80) else if ¬tJ z l then (3,180) else (0,0)
end Go.Proofs.YtngphgeghfdjbaaGreatDoor
namespace Go.Proofs.YtngphgeghfdjbaaGreatDoor
open Go Go.Sl Go.ChangeShapes Go.WideShapes Go.RowKit Go.Joins
theorem ER {H:Type} (d:DataW H):1≤Rows.uptoBulk d:=by
 cases d with
 | lit l=>cases l <;> simp [Rows.uptoBulk]
 | nil=>simp [Rows.uptoBulk]
 | ptr d=>simp [Rows.uptoBulk]
 | slice elems spare=>simp [Rows.uptoBulk]
 | agg parts=>simp [Rows.uptoBulk]
 | iface t d=>simp [Rows.uptoBulk]
 | map sA=>simp [Rows.uptoBulk]
 | held h=>simp [Rows.uptoBulk]
theorem ES {H:Type} (l:List (DataW H)):l.length≤Rows.uptoBulkAll l:=by
 induction l with
 | nil=>simp [Rows.uptoBulkAll]
 | cons x r ih=>have:=ER x;simp only [Rows.uptoBulkAll,bV];omega
theorem Be {H:Type} (l r:List (DataW H)):l.length≤Rows.uptoBulk (.slice l r):=by
 have:=ES l
 simp only [Rows.uptoBulk];omega
theorem Tv:Tryz.prog.underlying 3=some (.int .i64):=rR
theorem Bf:Tryz.prog.cellsOf 3=1:=rR
theorem JJ:Tryz.prog.cellsOf 22=1:=rR
theorem JK:Tryz.prog.cellsOf 23=1:=rR
theorem JL:Tryz.prog.cellsOf 24=1:=rR
theorem Oc:Tryz.prog.cellsOf 26=4:=rR
theorem JM:Tryz.prog.cellsOf 28=15:=rR
theorem Wh:Tryz.prog.cellsOf 51=2:=rR
theorem Wi:Tryz.prog.cellsOf 211=5:=rR
section
variable {H:Type} {enc:TypeId×Value→H}
theorem MK {P:Program} {W:World} {E Ti:TypeId} {f0 f1:Field} (hi:P.underlying Ti=some (.int .i64)) (hs:P.underlying E=some (.struct #[f0,f1]))
 (h0:f0.type=Ti∧f0.offset=0) (h1:f1.type=Ti∧f1.offset=1) (hc:P.cellsOf Ti=1) (hcE:P.cellsOf E=2) :
 RY (α:=R2) enc P W E (fun _ _=>True):=fun n cs x h=>by
 obtain ⟨xs,m,_,_,hl,hxl,hf⟩:=oJ hs h
 rw [hcE] at hl
 match cs,hl with
 | [v0,v1],_ =>
   have hxl':xs.length=2:=hxl
   match xs,hxl' with
   | [y0,y1],_ =>
     have k0:=hf 0 f0 rfl;have k1:=hf 1 f1 rfl
     rw [h0.1,h0.2,hc] at k0;rw [h1.1,h1.2,hc] at k1
     obtain ⟨a0,e0,_,_⟩:=fX hi k0
     obtain ⟨a1,e1,_,_⟩:=fX hi k1
     simp at e0 e1
     exact ⟨⟨a0,a1⟩,by rw [e0,e1];rfl,trivial⟩
theorem Zo {W:World} {n:Nat} {v:Value} {d:DataW H×List MemPlace} (h:DataW.trod enc Tryz.prog W 0 (fun _=>true) true n 22 [v]=some d) :
 ∃ (a:Option Addr) (c:Nat) (l:List R2),v=.slice a l.length c∧Arr (vN W) a l∧l.length≤c∧l.length≤Rows.uptoBulk d.1:=by
 obtain ⟨a,c,xs,e,hA,hl,hd⟩:=Ig (α:=R2) Tryz.underlying22 Wh rW (MK Tv Tryz.underlying51 ⟨rfl,rfl⟩ ⟨rfl,rfl⟩ Bf Wh) h
 simp only [hD,and_true] at e
 refine ⟨a,c,xs,e,hA,hl,?_⟩
 rcases hd with ⟨_,rfl⟩ | ⟨l,r,e,hl,_⟩
 · exact aT _
 rw [e,←hl];exact Be l r
theorem Bg {W:World} {n:Nat} {v0 v1 v2 v3:Value} {y:DataW H×List MemPlace} (h:DataW.trod enc Tryz.prog W 0 (fun _=>true) true n 26 [v0,v1,v2,v3]=some y) :
 ∃ (p:PV) (ac ao:Option Addr) (cc co:Nat),[v0,v1,v2,v3]=[.int .i64 p.ins,.int .i64 p.regs,.slice ac p.code.length cc,.slice ao p.outs.length co]∧Arr (vN W) ac p.code∧Arr (vN W) ao p.outs∧
  p.code.length≤Rows.uptoBulk y.1∧p.outs.length≤Rows.uptoBulk y.1:=by
 obtain ⟨xs,m,_,e,hl,hxl,hf⟩:=oJ Tryz.underlying26 h
 have hxl':xs.length=4:=hxl
 match xs,hxl' with
 | [y0,y1,y2,y3],_ =>
   have h0:DataW.trod enc Tryz.prog W 0 (fun _=>true) true m 3 (List.take (Tryz.prog.cellsOf 3) (List.drop 0 [v0,v1,v2,v3]))=some y0:=hf 0 _ rfl
   have h1:DataW.trod enc Tryz.prog W 0 (fun _=>true) true m 3 (List.take (Tryz.prog.cellsOf 3) (List.drop 1 [v0,v1,v2,v3]))=some y1:=hf 1 _ rfl
   have h2:DataW.trod enc Tryz.prog W 0 (fun _=>true) true m 23 (List.take (Tryz.prog.cellsOf 23) (List.drop 2 [v0,v1,v2,v3]))=some y2:=hf 2 _ rfl
   have h3:DataW.trod enc Tryz.prog W 0 (fun _=>true) true m 24 (List.take (Tryz.prog.cellsOf 24) (List.drop 3 [v0,v1,v2,v3]))=some y3:=hf 3 _ rfl
   rw [Bf] at h0
   rw [Bf] at h1
   rw [JK] at h2
   rw [JL] at h3
   obtain ⟨k0,e0,_,_⟩:=fX Tv h0
   obtain ⟨k1,e1,_,_⟩:=fX Tv h1
   obtain ⟨a2,c2,xs,e2,ha2,hl2,hd2⟩:=Ig (α:=Sl.Instr) Tryz.underlying23 Wi rW (Yr Tv Tryz.underlying211 ⟨rfl,rfl⟩ ⟨rfl,rfl⟩ ⟨rfl,rfl⟩ ⟨rfl,rfl⟩ ⟨rfl,rfl⟩ Bf Wi) h2
   obtain ⟨a3,c3,ys,e3,ha3,hl3,hd3⟩:=Ig (α:=Int) Tryz.underlying24 Bf rW (IF Tv) h3
   replace e0:[v0]=[.int .i64 k0]:=e0
   replace e1:[v1]=[.int .i64 k1]:=e1
   replace e2:[v2]=[.slice a2 xs.length c2]:=e2
   replace e3:[v3]=[.slice a3 ys.length c3]:=e3
   simp only [hD,and_true] at e0 e1 e2 e3
   subst e0 e1 e2 e3
   have b2:xs.length≤Rows.uptoBulk y2.1:=by
    rcases hd2 with ⟨_,rfl⟩ | ⟨l,r,e,hl,_⟩
    · exact aT _
    rw [e,←hl];exact Be l r
   have b3:ys.length≤Rows.uptoBulk y3.1:=by
    rcases hd3 with ⟨_,rfl⟩ | ⟨l,r,e,hl,_⟩
    · exact aT _
    rw [e,←hl];exact Be l r
   refine ⟨⟨k0,k1,xs,ys⟩,a2,a3,c2,c3,rfl,ha2,ha3,?_,?_⟩
   · rw [e]
     simp only [Rows.uptoBulk,Rows.uptoBulkAll,bX,iT]
     omega
   rw [e]
   simp only [Rows.uptoBulk,Rows.uptoBulkAll,bX,iT]
   omega
theorem Zp {W:World} {r:Reach} {b0:Nat} {v:Value} {d:DataW H} {ps:List MemPlace} (hv:Value.okWide Tryz.prog W r b0 28 v) (h:DataW.Trod enc Tryz.prog W 0 (fun _=>true) true 28 v d ps) :
 ∃ (k1 k2:Int) (pl:List R2) (pa:Option Addr) (pc:Nat) (xp yp zp:PV) (xac xao yac yao zac zao:Option Addr) (xcc xoc ycc yoc zcc zoc:Nat),
  v=.agg #[.int .i64 k1,.int .i64 k2,.slice pa pl.length pc,.int .i64 xp.ins,.int .i64 xp.regs,.slice xac xp.code.length xcc,.slice xao xp.outs.length xoc,.int .i64 yp.ins,.int .i64 yp.regs,.slice yac yp.code.length ycc,.slice yao yp.outs.length yoc,.int .i64 zp.ins,.int .i64 zp.regs,.slice zac zp.code.length zcc,.slice zao zp.outs.length zoc]∧Arr (vN W) pa pl∧pl.length≤pc∧pl.length≤Rows.uptoBulk d∧
  Arr (vN W) xac xp.code∧Arr (vN W) xao xp.outs∧xp.code.length≤Rows.uptoBulk d∧xp.outs.length≤Rows.uptoBulk d∧Arr (vN W) yac yp.code∧Arr (vN W) yao yp.outs∧yp.code.length≤Rows.uptoBulk d∧yp.outs.length≤Rows.uptoBulk d∧Arr (vN W) zac zp.code∧Arr (vN W) zao zp.outs∧zp.code.length≤Rows.uptoBulk d∧zp.outs.length≤Rows.uptoBulk d:=by
 obtain ⟨cs,rfl,hsz⟩:=okWide_struct Tryz.underlying28 hv
 obtain ⟨n,h⟩:=h
 rw [JM] at hsz
 obtain ⟨a0,a1,a2,a3,a4,a5,a6,a7,a8,a9,a10,a11,a12,a13,a14,rfl⟩:∃ a0 a1 a2 a3 a4 a5 a6 a7 a8 a9 a10 a11 a12 a13 a14:Value,cs=#[a0,a1,a2,a3,a4,a5,a6,a7,a8,a9,a10,a11,a12,a13,a14]:=by
  match cs,hsz with
  | ⟨[a0,a1,a2,a3,a4,a5,a6,a7,a8,a9,a10,a11,a12,a13,a14]⟩,_=>exact ⟨a0,a1,a2,a3,a4,a5,a6,a7,a8,a9,a10,a11,a12,a13,a14,rfl⟩
 obtain ⟨xs,m,_,e,hl,hxl,hf⟩:=oJ Tryz.underlying28 h
 have hxl':xs.length=6:=hxl
 match xs,hxl' with
 | [y0,y1,y2,y3,y4,y5],_ =>
   have h0:DataW.trod enc Tryz.prog W 0 (fun _=>true) true m 3 (List.take (Tryz.prog.cellsOf 3) (List.drop 0 [a0,a1,a2,a3,a4,a5,a6,a7,a8,a9,a10,a11,a12,a13,a14]))=some y0:=hf 0 _ rfl
   have h1:DataW.trod enc Tryz.prog W 0 (fun _=>true) true m 3 (List.take (Tryz.prog.cellsOf 3) (List.drop 1 [a0,a1,a2,a3,a4,a5,a6,a7,a8,a9,a10,a11,a12,a13,a14]))=some y1:=hf 1 _ rfl
   have h2:DataW.trod enc Tryz.prog W 0 (fun _=>true) true m 22 (List.take (Tryz.prog.cellsOf 22) (List.drop 2 [a0,a1,a2,a3,a4,a5,a6,a7,a8,a9,a10,a11,a12,a13,a14]))=some y2:=hf 2 _ rfl
   have h3:DataW.trod enc Tryz.prog W 0 (fun _=>true) true m 26 (List.take (Tryz.prog.cellsOf 26) (List.drop 3 [a0,a1,a2,a3,a4,a5,a6,a7,a8,a9,a10,a11,a12,a13,a14]))=some y3:=hf 3 _ rfl
   have h4:DataW.trod enc Tryz.prog W 0 (fun _=>true) true m 26 (List.take (Tryz.prog.cellsOf 26) (List.drop 7 [a0,a1,a2,a3,a4,a5,a6,a7,a8,a9,a10,a11,a12,a13,a14]))=some y4:=hf 4 _ rfl
   have h5:DataW.trod enc Tryz.prog W 0 (fun _=>true) true m 26 (List.take (Tryz.prog.cellsOf 26) (List.drop 11 [a0,a1,a2,a3,a4,a5,a6,a7,a8,a9,a10,a11,a12,a13,a14]))=some y5:=hf 5 _ rfl
   rw [Bf] at h0
   rw [Bf] at h1
   rw [JJ] at h2
   rw [Oc] at h3
   rw [Oc] at h4
   rw [Oc] at h5
   obtain ⟨k1,e0,_,_⟩:=fX Tv h0
   obtain ⟨k2,e1,_,_⟩:=fX Tv h1
   obtain ⟨pa,pc,pl,e2,hpa,hpc,hpb⟩:=Zo (v:=a2) h2
   obtain ⟨xp,xac,xao,xcc,xoc,e3,hxc,hxo,hx1,hx2⟩:=Bg (v0:=a3) (v1:=a4) (v2:=a5) (v3:=a6) h3
   obtain ⟨yp,yac,yao,ycc,yoc,e4,hyc,hyo,hy1,hy2⟩:=Bg (v0:=a7) (v1:=a8) (v2:=a9) (v3:=a10) h4
   obtain ⟨zp,zac,zao,zcc,zoc,e5,hzc,hzo,hz1,hz2⟩:=Bg (v0:=a11) (v1:=a12) (v2:=a13) (v3:=a14) h5
   replace e0:[a0]=[.int .i64 k1]:=e0
   replace e1:[a1]=[.int .i64 k2]:=e1
   simp only [hD,and_true] at e0 e1 e3 e4 e5
   obtain ⟨e30,e31,e32,e33⟩:=e3
   obtain ⟨e40,e41,e42,e43⟩:=e4
   obtain ⟨e50,e51,e52,e53⟩:=e5
   subst e0 e1 e2 e30 e31 e32 e33 e40 e41 e42 e43 e50 e51 e52 e53
   have ed:d=.agg [y0.1,y1.1,y2.1,y3.1,y4.1,y5.1]:=(Prod.mk.inj e).1
   have hb:Rows.uptoBulk y2.1≤Rows.uptoBulk d∧Rows.uptoBulk y3.1≤Rows.uptoBulk d∧Rows.uptoBulk y4.1≤Rows.uptoBulk d∧Rows.uptoBulk y5.1≤Rows.uptoBulk d:=by
    rw [ed]
    simp only [Rows.uptoBulk,Rows.uptoBulkAll]
    omega
   exact ⟨k1,k2,pl,pa,pc,xp,yp,zp,xac,xao,yac,yao,zac,zao,xcc,xoc,ycc,yoc,zcc,zoc,rfl,hpa,hpc,by omega,hxc,hxo,by omega,by omega,hyc,hyo,by omega,by omega,hzc,hzo,by omega,by omega⟩
end
end Go.Proofs.YtngphgeghfdjbaaGreatDoor
namespace Go.Proofs.YtngphgeghfdjbaaGreatDoor
open Go Go.Sl
structure U8 where
 v:Int
 deriving DecidableEq
instance:Inhabited U8:=⟨⟨0⟩⟩
instance:Cells U8:=⟨1,fun n=>[.int .u8 n.v],fun _=>rfl,fun _=>rfl⟩
structure RS where
 k:Nat
 wr:Bool
def nx (B:List U8) (s:RS) (g:Int→Bool):Int×RS:=
 if s.wr=true∨s.k=B.length∨g (B[s.k]?.getD default).v=false then (0,⟨s.k,true⟩) else ((B[s.k]?.getD default).v,⟨s.k+1,false⟩)
def US (op c:Int):Bool:=
 if op=5∨op=6 then decide ((c≠0∧-512≤c)∧c≤512) else if op=7∨op=8 then decide (1≤c∧c≤64) else decide (c=0)
def i16 (h l:Int):Int:=if 32768≤h*256+l then h*256+l - 65536 else h*256+l
def hiC (op h:Int):Bool:=(List.range 256).any fun l=>US op (i16 h (l:Int))
structure UV where
 k1:Int
 k2:Int
 pl:List R2
 x:PV
 y:PV
 z:PV
theorem ET (G:Imm) (c:Int) (h:0≤c∧c≤64) :
 Does Tryz.prog 317 [.int .i64 c] G [] (fun v G' Ho=>∃ r:IV,v=.agg (Cells.enc r).toArray∧Big G' r (p2 c.toNat)∧Ho=[]):=by
 obtain ⟨n,rfl⟩:=Int.eq_ofNat_of_zero_le h.1
 rw [aF]
 exact UB G n rG
section
attribute [local irreducible] rI pb sB rZ p2 cst
end
section
attribute [local irreducible] rI pb sB rZ
theorem Ej {G:Imm} {l:List IV} {zs:List Int} {r:IV} {z:Int} (h:Bigs G l zs) (hr:Big G r z):Bigs G (l++[r]) (zs++[z]):=by
 have e1:=h.1
 refine ⟨by rw [aI,aI,e1];rfl,fun i hi=>?_⟩
 rw [aI,gM] at hi
 rcases aJ i l.length with h3 | h3
 · rw [aZ h3,aZ rG];exact h.2 i h3
 have h4:i=l.length:=rG
 subst h4
 rw [cH (aH _),cH rG,e1,jK];exact hr
def Wj (P:Nat→Int) (n:Nat):List Int:=(List.range n).map P
theorem Is (P:Nat→Int) (n:Nat):Wj P (n+1)=Wj P n++[P n]:=by unfold Wj;rw [List.range_succ,pH];rfl
theorem KX (G:Imm) (a:Option Addr) (c:Nat) (xs:List IV) (g:Nat) (fst:List Value) (P:Nat→Int) (hg:uH Tryz.prog g) (ha:Arr G a xs) (hl:xs.length≤1048576)
 (hf:∀ k:Nat,k<xs.length→∀ G',G.le G'→Does Tryz.prog g (fst++[.agg (Cells.enc (xs[((k:Nat):Int).toNat]?.getD default)).toArray]++[]) G' [] (fun v G'' Ho=>∃ r:IV,v=.agg (Cells.enc r).toArray∧Big G'' r (P k)∧Ho=[])) :
 Does Tryz.prog 318 [.slice a xs.length c,.func (.func g) fst.toArray #[]] G [] (fun v G' Ho=>∃ (s:Option Addr) (r:List IV) (d:Nat),v=.slice s r.length d∧Arr G' s r∧r.length≤d∧Bigs G' r (Wj P xs.length)∧Ho=[]):=by
 refine D0 Tryz.func318 Tryz.ntmps318 fun w=>?_
 refine fU 9 (rV 89 ([]:List IV) []) ?_
 refine cJ 19 [] ?_
 refine jC (ι:=Nat×Imm×List IV×(Option Addr×Nat×List Value)) (fun (k,Gx,r,(o,d,j))=>([(10,.int .i64 (k:Int)),(5,.slice o r.length d),(9,.int .i64 (xs.length:Int)),(8,.slice a (List.length xs) c),(4,.slice none 0 0),(1,.func (Go.Fn.func g) (List.toArray fst) #[])],[(9,o.map (·.block),rV 89 r j)])) (fun (k,Gx,r,(o,d,j))=>Gx) (fun (k,Gx,r,(o,d,j))=>k≤xs.length∧G.le Gx∧r.length=k∧Bigs Gx r (Wj P k)∧OwnA o d r j) (fun (k,Gx,r,(o,d,j))=>xs.length - k) ((0,G,[],(none,0,[]))) (⟨aT _,cD _,rfl,⟨rfl,fun i h=>absurd h sI⟩,fF⟩) rfl ⟨rfl,rfl,rfl,rfl,rfl,rfl,trivial⟩ ⟨rfl,trivial⟩ fun ⟨k,Gx,r,(o,d,j)⟩=>fun hk=>?_
 obtain ⟨hk1,hk2,hk3,hk4,hk5⟩:=hk
 replace ha:=ha.up hk2
 rcases aJ k xs.length with hkl | hkl
 · refine aM 13 [1] ?_
   refine dI (α:=IV) T.sl39 ?_
   refine lP T.agg89 ?_
   refine aU 10 rfl T.zero89 fun b1=>?_
   refine aL 7 [10,10] ?_
   refine gW (fst:=fst) (cap:=[]) 20 rfl hg rfl rfl (hf k hkl _ hk2) (sR trivial) fun v1 G1 Ho1 hle1 hp=>?_
   obtain ⟨r1,rfl,hr1,rfl⟩:=hp
   refine fC (α:=IV) 11 [(r1)] rfl T.sl39 T.el89 rfl rfl rfl rfl rfl fun b2=>?_
   refine jW (α:=IV) 9 T.sl39 T.el89 (fZ 11 rfl) fun a1 c1 junk1 ho1=>?_
   refine aY 8 [] ?_
   refine dC 10 rfl (show _=Value.int .i64 ((k+1:Nat):Int) from rfl) ?_
   refine cP ((k+1,G1,r++[r1],(a1,c1,junk1))) ?_ ?_
   · refine ⟨hkl,bA hk2 hle1,by rw [aI,hk3];rfl,?_,ho1⟩
     rw [Is];exact Ej (hk4.up hle1) hr1
   show xs.length - (k+1)<xs.length - k
   omega
 have hkl:k=xs.length:=rG
 subst hkl
 refine bG 19 [0] ?_
 refine dW 9 rfl hk5 fun G8 hle8 hA8=>?_
 refine bT ?_
 exact ⟨o,r,d,rfl,hA8,hk5.le,hk4.up hle8,rfl⟩
theorem PD (G:Imm) (a:Option Addr) (c:Nat) (xs:List IV) (g bk:Nat) (cap:List Value) (P:Nat→Int) (hg:uH Tryz.prog g) (ha:Arr G a xs) (hl:xs.length≤1048576)
 (hf:∀ k:Nat,k<xs.length→∀ G',G.le G'→Does Tryz.prog g ([]++[.agg (Cells.enc (xs[((k:Nat):Int).toNat]?.getD default)).toArray]++cap) G' [(0,some bk,.cells #[.int .i64 ((k:Int) - 1)] 3)] (fun v G'' Ho=>∃ r:IV,v=.agg (Cells.enc r).toArray∧Big G'' r (P k)∧Ho=[(0,some bk,.cells #[.int .i64 (((k+1:Nat):Int) - 1)] 3)])) :
 Does Tryz.prog 318 [.slice a xs.length c,.func (.func g) #[] cap.toArray] G [(0,some bk,.cells #[.int .i64 (-1)] 3)] (fun v G' Ho=>∃ (s:Option Addr) (r:List IV) (d:Nat),v=.slice s r.length d∧Arr G' s r∧r.length≤d∧Bigs G' r (Wj P xs.length)∧Ho=[(0,some bk,.cells #[.int .i64 ((xs.length:Int) - 1)] 3)]):=by
 refine D0 Tryz.func318 Tryz.ntmps318 fun w=>?_
 refine fU 9 (rV 89 ([]:List IV) []) ?_
 refine cJ 19 [] ?_
 refine Wc.reH 0 (.cells #[.int .i64 (((0:Nat):Int) - 1)] 3) rfl rfl ?_
 refine jC (ι:=Nat×Imm×List IV×(Option Addr×Nat×List Value)) (fun (k,Gx,r,(o,d,j))=>([(10,.int .i64 (k:Int)),(5,.slice o r.length d),(9,.int .i64 (xs.length:Int)),(8,.slice a (List.length xs) c),(4,.slice none 0 0),(1,.func (Go.Fn.func g) #[] (List.toArray cap))],[(0,some bk,.cells #[.int .i64 ((k:Int) - 1)] 3),(9,o.map (·.block),rV 89 r j)])) (fun (k,Gx,r,(o,d,j))=>Gx) (fun (k,Gx,r,(o,d,j))=>k≤xs.length∧G.le Gx∧r.length=k∧Bigs Gx r (Wj P k)∧OwnA o d r j) (fun (k,Gx,r,(o,d,j))=>xs.length - k) ((0,G,[],(none,0,[]))) (⟨aT _,cD _,rfl,⟨rfl,fun i h=>absurd h sI⟩,fF⟩) rfl ⟨rfl,rfl,rfl,rfl,rfl,rfl,trivial⟩ ⟨rfl,rfl,trivial⟩ fun ⟨k,Gx,r,(o,d,j)⟩=>fun hk=>?_
 obtain ⟨hk1,hk2,hk3,hk4,hk5⟩:=hk
 replace ha:=ha.up hk2
 rcases aJ k xs.length with hkl | hkl
 · refine aM 13 [1] ?_
   refine dI (α:=IV) T.sl39 ?_
   refine lP T.agg89 ?_
   refine aU 10 rfl T.zero89 fun b1=>?_
   refine aL 7 [10,10] ?_
   refine gW (fst:=[]) (cap:=cap) 0 rfl hg rfl rfl (hf k hkl _ hk2) (sR ⟨rfl,trivial⟩) fun v1 G1 Ho1 hle1 hp=>?_
   obtain ⟨r1,rfl,hr1,rfl⟩:=hp
   refine fC (α:=IV) 11 [(r1)] rfl T.sl39 T.el89 rfl rfl rfl rfl rfl fun b2=>?_
   refine jW (α:=IV) 9 T.sl39 T.el89 (fZ 11 rfl) fun a1 c1 junk1 ho1=>?_
   refine aY 8 [] ?_
   refine dC 10 rfl (show _=Value.int .i64 ((k+1:Nat):Int) from rfl) ?_
   refine cP ((k+1,G1,r++[r1],(a1,c1,junk1))) ?_ ?_
   · refine ⟨hkl,bA hk2 hle1,by rw [aI,hk3];rfl,?_,ho1⟩
     rw [Is];exact Ej (hk4.up hle1) hr1
   show xs.length - (k+1)<xs.length - k
   omega
 have hkl:k=xs.length:=rG
 subst hkl
 refine bG 19 [0] ?_
 refine dW 9 rfl hk5 fun G8 hle8 hA8=>?_
 refine dQ (.inr rfl) (Ho:=[(0,some bk,.cells #[.int .i64 ((xs.length:Int) - 1)] 3)]) rfl (.tmp rfl) ⟨rfl,trivial⟩ ?_
 exact ⟨o,r,d,rfl,hA8,hk5.le,hk4.up hle8,rfl⟩
end
section
attribute [local irreducible] rI pb sB rZ
theorem Mf {G:Imm} {b:Nat} {cs:List Value} {T:TypeId} {fz:Nat×Nat} (h:G b=some (.cells cs.toArray T fz)) (k:Nat) {v:Value} (hv:cs[k]?=some v):G.cell b k=some v:=by
 simp only [Imm.cell,h];simpa using hv
theorem Od (xs:List Int) (f:Int→Int):Wj (fun k=>f (xs[k]?.getD 0)) xs.length=xs.map f:=by
 unfold Wj
 apply jD
 · rw [bS,bS,gY]
 intro i h1 h2
 rw [bS] at h2
 rw [iJ,lJ,iJ,aC h2];rfl
theorem Wk (xs ys:List Int) (f:Int→Int→Int) (h:xs.length=ys.length):Wj (fun k=>f (xs[k]?.getD 0) (ys[k]?.getD 0)) xs.length=List.zipWith f xs ys:=by
 unfold Wj
 apply jD
 · rw [bS,gY,hZ,h,nL]
 intro i h1 h2
 rw [hZ] at h2
 rw [iJ,lJ,nD,aC (show i<xs.length by omega),aC (show i<ys.length by omega)];rfl
def Cv (G':Imm) (v:Value) (zs:List Int):Prop:=∃ (s:Option Addr) (r:List IV) (d:Nat),v=.slice s r.length d∧Arr G' s r∧r.length≤d∧Bigs G' r zs
theorem Bh {G:Imm} {l:List IV} {xs:List Int} {m:Nat} (h:Bigs G l xs) (hm:Below m xs) {k:Nat} (hk:k<l.length):(l[k]?.getD default).n≤m:=iC (h.2 k hk) (hm.at k)
theorem UT (G:Imm) (a:Option Addr) (c:Nat) (l:List IV) (xs:List Int) (m:Nat) (ha:Arr G a l) (hb:Bigs G l xs) (hm:Below m xs) (hmm:m≤268435456) (hl:l.length≤1048576) :
 Does Tryz.prog 293 [.slice a l.length c] G [] (fun v G' Ho=>Cv G' v (xs.map fun x=>-x)∧Ho=[]):=by
 have hf:∀ k:Nat,k<l.length→∀ G',G.le G'→Does Tryz.prog 55 ([]++[.agg (Cells.enc (l[(k:Int).toNat]?.getD default)).toArray]++[]) G' [] (fun v G'' Ho=>∃ r:IV,v=.agg (Cells.enc r).toArray∧Big G'' r (-(xs[k]?.getD 0))∧Ho=[]):=fun k hk G' hG=>by
  have h1:=Bh hb hm hk
  exact (c55 G' _ _ ((hb.2 k hk).up hG) rG).mono fun v G'' Ho _ ⟨r,e1,e2,e3,e4⟩=>⟨r,e1,e2,e4⟩
 have h180:=KX G a c l 55 [] (fun k=>-(xs[k]?.getD 0)) T.fn55 ha hl hf
 rw [hb.1,Od xs (fun x=>-x),←hb.1] at h180
 refine D0 Tryz.func293 Tryz.ntmps293 fun w=>?_
 refine aM 8 [] ?_
 refine bU 0 rfl (h180) fun v1 G1 Ho1 hle1 hp=>?_
 obtain ⟨s1,r1,d1,rfl,hA1,hl81,hB1,rfl⟩:=hp
 replace ha:=ha.up hle1
 replace hb:=hb.up hle1
 refine aY 4 [] ?_
 refine bT ?_
 exact ⟨⟨_,_,_,rfl,hA1,hl81,hB1⟩,rfl⟩
theorem UU (G:Imm) (bk bf bb h:Nat) (x:IV) (k:Nat) (a':Option Addr) (c':Nat) (ys:List IV) (R:Int) (hgh:uH Tryz.prog h) (hy:Arr G a' ys) (hk:k<ys.length) (hkl:k≤1048576) (hf:G bf=some (.cells [.func (.func h) #[] #[]].toArray 361)) (hb:G bb=some (.cells [.slice a' ys.length c'].toArray 39))
 (hh:Does Tryz.prog h ([]++[.agg (Cells.enc x).toArray,.agg (Cells.enc (ys[((k:Nat):Int).toNat]?.getD default)).toArray]++[]) G [] (fun v G'' Ho=>∃ r:IV,v=.agg (Cells.enc r).toArray∧Big G'' r R∧Ho=[])) :
 Does Tryz.prog 335 [.agg (Cells.enc x).toArray,.pointer (some ⟨bk,0,none⟩),.pointer (some ⟨bf,0,none⟩),.pointer (some ⟨bb,0,none⟩)] G [(0,some bk,.cells #[.int .i64 ((k:Int) - 1)] 3)]
  (fun v G' Ho=>∃ r:IV,v=.agg (Cells.enc r).toArray∧Big G' r R∧Ho=[(0,some bk,.cells #[.int .i64 (((k+1:Nat):Int) - 1)] 3)]):=by
 have hfc:=Mf hf 0 rfl
 have hbc:=Mf hb 0 rfl
 have e:(k:Int).toNat=(((k:Int) - 1)+1).toNat:=rG
 rw [e] at hh
 refine D0 Tryz.func335 Tryz.ntmps335 fun w=>?_
 refine aM 2 [] ?_
 refine cV 1 fun b1=>?_
 refine aU 2 rfl T.zero89 fun b2=>?_
 refine bR 10 [0,0] ?_
 refine Wc.draw [1,2,0] [(2,7),(0,6),(2,6),(1,6)] T.mixed rfl ?_
 refine gR 0 [] rfl (eS T.one361 rfl rH) ?_
 refine eD [[1,1]] ?_
 refine gR 2 [] rfl (eS T.one39 rfl rH) ?_
 refine fE 3 ?_
 refine aA 1 [0] ?_
 refine eE ?_
 refine iM (α:=IV) 4 T.sl39 ?_
 refine oI 5 T.agg89 ?_
 refine fE 6 ?_
 refine gW (fst:=[]) (cap:=[]) 20 rfl hgh rfl rfl hh (sR trivial) fun v1 G1 Ho1 hle1 hp=>?_
 obtain ⟨r1,rfl,hr1,rfl⟩:=hp
 refine bO 7 ?_
 refine aA 1 [2] ?_
 refine fO ?_
 refine iG 2 [] ?_
 refine iD 0 (.cells #[.int .i64 (((k+1:Nat):Int) - 1)] 3) rfl (by rw [show (((k+1:Nat):Int) - 1)=(k:Int) - 1+1 by omega];rfl) ?_
 refine dQ (.inr rfl) (Ho:=[(0,some bk,.cells #[.int .i64 (((k+1:Nat):Int) - 1)] 3)]) rfl (.agg 2 rfl rfl T.agg89) ⟨rfl,trivial⟩ ?_
 exact ⟨r1,rfl,hr1,rfl⟩
theorem PE (G:Imm) (h:Nat) (a a':Option Addr) (c c':Nat) (l l':List IV) (F:Nat→Int) (hgh:uH Tryz.prog h) (ha:Arr G a l) (ha':Arr G a' l') (hlen:l.length=l'.length) (hl:l.length≤1048576)
 (hh:∀ k:Nat,k<l.length→∀ G',G.le G'→Does Tryz.prog h ([]++[.agg (Cells.enc (l[((k:Nat):Int).toNat]?.getD default)).toArray,.agg (Cells.enc (l'[((k:Nat):Int).toNat]?.getD default)).toArray]++[]) G' [] (fun v G'' Ho=>∃ r:IV,v=.agg (Cells.enc r).toArray∧Big G'' r (F k)∧Ho=[])) :
 Does Tryz.prog 319 [.slice a l.length c,.slice a' l'.length c',.func (.func h) #[] #[]] G [] (fun v G' Ho=>∃ (s:Option Addr) (r:List IV) (d:Nat),v=.tuple #[.slice s r.length d,.int .i64 0]∧Arr G' s r∧r.length≤d∧Bigs G' r (Wj F l.length)∧Ho=[]):=by
 refine D0 Tryz.func319 Tryz.ntmps319 fun w=>?_
 refine aM 2 [] ?_
 refine cV 0 fun b1=>?_
 refine cV 1 fun b2=>?_
 refine aL 19 [0,0] ?_
 refine aU 2 rfl T.zero3 fun b3=>?_
 refine aL 6 [2] ?_
 refine aN (nB rfl rfl) ?_
 refine Wl.freeze 1 rfl fun G1 hg1 hb1=>?_
 refine Wl.freeze 0 rfl fun G2 hg2 hb2=>?_
 replace hb1:=hg2 _ _ hb1
 have hG:=bA hg1 hg2
 replace ha:=ha.up hG
 replace ha':=ha'.up hG
 refine nO 2 (.cells #[.int .i64 (-1)] 3) rfl rfl ?_
 refine Wl.call 2 rfl T.fn318 rfl (PD _ a c l 335 b3 [.pointer (some ⟨b3,0,none⟩),.pointer (some ⟨b2,0,none⟩),.pointer (some ⟨b1,0,none⟩)] F T.fn335 ha hl
  (fun k hk G' hG'=>UU G' b3 b2 b1 h _ k a' c' l' (F k) hgh (ha'.up hG') rG rG (hG' _ _ hb1) (hG' _ _ hb2) (hh k hk G' (bA hG hG')))) (sR ⟨rfl,trivial⟩) (fun v1 G3 Ho1 hle1 hp=>?_)
 obtain ⟨s,r,d,rfl,hA,hd,hB,rfl⟩:=hp
 refine aY 5 [] ?_
 refine eJ ?_
 exact ⟨s,r,d,rfl,hA,hd,hB,rfl⟩
theorem UW (G:Imm) (a a':Option Addr) (c c':Nat) (l l':List IV) (xs ys:List Int) (m:Nat) (ha:Arr G a l) (ha':Arr G a' l') (hb:Bigs G l xs) (hb':Bigs G l' ys) (hm:Below m xs) (hm':Below m ys) (hmm:m≤268435456) (hlen:l.length=l'.length) (hl:l.length≤1048576) :
 Does Tryz.prog 295 [.slice a l.length c,.slice a' l'.length c'] G [] (fun v G' Ho=>∃ (s:Option Addr) (r:List IV) (d:Nat),v=.tuple #[.slice s r.length d,.int .i64 0]∧Arr G' s r∧r.length≤d∧Bigs G' r (List.zipWith (·+·) xs ys)∧Ho=[]):=by
 have h181:=PE G 42 a a' c c' l l' (fun k=>xs[k]?.getD 0+ys[k]?.getD 0) T.fn42 ha ha' hlen hl (fun k hk G' hG=>by
  have h1:=Bh hb hm hk
  have h2:=Bh hb' hm' (show k<l'.length by omega)
  exact TD G' _ _ _ _ ((hb.2 k hk).up hG) ((hb'.2 k rG).up hG) Pe Pe)
 rw [hb.1,Wk xs ys (·+·) (by rw [←hb.1,←hb'.1,hlen]),←hb.1] at h181
 refine D0 Tryz.func295 Tryz.ntmps295 fun w=>?_
 refine aM 10 [] ?_
 refine bU 0 rfl (h181) fun v1 G1 Ho1 hle1 hp=>?_
 obtain ⟨s1,r1,d1,rfl,hA1,hl81,hB1,rfl⟩:=hp
 replace ha:=ha.up hle1
 replace ha':=ha'.up hle1
 replace hb:=hb.up hle1
 replace hb':=hb'.up hle1
 refine aY 7 [] ?_
 refine eJ ?_
 exact ⟨_,_,_,rfl,hA1,hl81,hB1,rfl⟩
theorem UX (G:Imm) (a a':Option Addr) (c c':Nat) (l l':List IV) (xs ys:List Int) (m:Nat) (ha:Arr G a l) (ha':Arr G a' l') (hb:Bigs G l xs) (hb':Bigs G l' ys) (hm:Below m xs) (hm':Below m ys) (hmm:m≤268435456) (hlen:l.length=l'.length) (hl:l.length≤1048576) :
 Does Tryz.prog 297 [.slice a l.length c,.slice a' l'.length c'] G [] (fun v G' Ho=>∃ (s:Option Addr) (r:List IV) (d:Nat),v=.tuple #[.slice s r.length d,.int .i64 0]∧Arr G' s r∧r.length≤d∧Bigs G' r (List.zipWith (· - ·) xs ys)∧Ho=[]):=by
 have h181:=PE G 159 a a' c c' l l' (fun k=>xs[k]?.getD 0 - ys[k]?.getD 0) T.fn159 ha ha' hlen hl (fun k hk G' hG=>by
  have h1:=Bh hb hm hk
  have h2:=Bh hb' hm' (show k<l'.length by omega)
  exact OL G' _ _ _ _ ((hb.2 k hk).up hG) ((hb'.2 k rG).up hG) Pe Pe)
 rw [hb.1,Wk xs ys (· - ·) (by rw [←hb.1,←hb'.1,hlen]),←hb.1] at h181
 refine D0 Tryz.func297 Tryz.ntmps297 fun w=>?_
 refine aM 10 [] ?_
 refine bU 0 rfl (h181) fun v1 G1 Ho1 hle1 hp=>?_
 obtain ⟨s1,r1,d1,rfl,hA1,hl81,hB1,rfl⟩:=hp
 replace ha:=ha.up hle1
 replace ha':=ha'.up hle1
 replace hb:=hb.up hle1
 replace hb':=hb'.up hle1
 refine aY 7 [] ?_
 refine eJ ?_
 exact ⟨_,_,_,rfl,hA1,hl81,hB1,rfl⟩
theorem UY (G:Imm) (a:Option Addr) (c:Nat) (l:List IV) (xs:List Int) (y:IV) (z:Int) (m:Nat) (ha:Arr G a l) (hb:Bigs G l xs) (hm:Below m xs) (hmm:m≤268435456) (hl:l.length≤1048576) (hy:Big G y z) (hyn:y.n≤268435456) :
 Does Tryz.prog 298 [.slice a l.length c,.agg (Cells.enc y).toArray] G [] (fun v G' Ho=>Cv G' v (xs.map fun x=>z*x)∧Ho=[]):=by
 have hf:∀ k:Nat,k<l.length→∀ G',G.le G'→Does Tryz.prog 65 ([.agg (Cells.enc y).toArray]++[.agg (Cells.enc (l[(k:Int).toNat]?.getD default)).toArray]++[]) G' [] (fun v G'' Ho=>∃ r:IV,v=.agg (Cells.enc r).toArray∧Big G'' r (z*xs[k]?.getD 0)∧Ho=[]):=fun k hk G' hG=>by
  have h1:=Bh hb hm hk
  exact TC G' _ _ _ _ (hy.up hG) ((hb.2 k hk).up hG) rG Pe
 have h180:=KX G a c l 65 [.agg (Cells.enc y).toArray] (fun k=>z*xs[k]?.getD 0) T.fn65 ha hl hf
 rw [hb.1,Od xs (fun x=>z*x),←hb.1] at h180
 refine D0 Tryz.func298 Tryz.ntmps298 fun w=>?_
 refine aM 2 [] ?_
 refine cV 0 fun b1=>?_
 refine aL 7 [0] ?_
 refine aN (nB rfl rfl) ?_
 refine bU 1 rfl (h180) fun v1 G1 Ho1 hle1 hp=>?_
 obtain ⟨s1,r1,d1,rfl,hA1,hl81,hB1,rfl⟩:=hp
 replace ha:=ha.up hle1
 replace hb:=hb.up hle1
 replace hy:=hy.up hle1
 refine aY 4 [] ?_
 refine bT ?_
 exact ⟨⟨_,_,_,rfl,hA1,hl81,hB1⟩,rfl⟩
theorem JN (xs:List Int) (z:Int):Wj (fun k=>xs[k]?.getD 0 / z) xs.length=xs.map (· / z):=Od xs (· / z)
theorem UZ (G:Imm) (a:Option Addr) (c:Nat) (l:List IV) (xs:List Int) (y:IV) (z:Int) (m:Nat) (ha:Arr G a l) (hb:Bigs G l xs) (hm:Below m xs) (hmm:m≤268435456) (hl:l.length≤1048576) (hy:Big G y z) (hyn:y.n≤268435456) (hy0:z≠0) :
 Does Tryz.prog 300 [.slice a l.length c,.agg (Cells.enc y).toArray] G [] (fun v G' Ho=>((∀ i:Nat,i<xs.length→xs[i]?.getD 0 % z=0)→∃ (s:Option Addr) (r:List IV) (d:Nat),v=.tuple #[.slice s r.length d,.int .i64 0]∧Arr G' s r∧r.length≤d∧Bigs G' r (xs.map (· / z)))∧
  (¬(∀ i:Nat,i<xs.length→xs[i]?.getD 0 % z=0)→v=.tuple #[.slice none 0 0,.int .i64 20])∧Ho=[]):=by
 have hxl:=hb.1
 refine D0 Tryz.func300 Tryz.ntmps300 fun w=>?_
 refine fU 9 (rV 89 ([]:List IV) []) ?_
 have hz0:¬Aa z=0:=fun h=>hy0 (Io.1 h)
 refine aM 2 [] ?_
 refine cV 10 fun b1=>?_
 refine aL 8 [10] ?_
 refine cG rfl (Qj _ y z hy (aP hyn rW)) ?_
 refine bR 20 [0] ?_
 refine jC (ι:=Nat×Imm×List IV×(Option Addr×Nat×List Value)) (fun (k,Gx,r,(o,d,j))=>([(17,.int .i64 (k:Int)),(6,.slice o r.length d),(16,.int .i64 (l.length:Int)),(15,.slice a (List.length l) c),(3,.pointer (some ⟨b1,0,none⟩))],[(9,o.map (·.block),rV 89 r j),(10,some b1,.cells (List.toArray (Cells.enc y)) 89)])) (fun (k,Gx,r,(o,d,j))=>Gx) (fun (k,Gx,r,(o,d,j))=>k≤l.length∧G.le Gx∧r.length=k∧Bigs Gx r (Wj (fun k=>xs[k]?.getD 0 / z) k)∧OwnA o d r j∧(∀ i:Nat,i<k→xs[i]?.getD 0 % z=0)) (fun (k,Gx,r,(o,d,j))=>l.length - k) ((0,G,[],(none,0,[]))) (⟨aT _,cD _,rfl,⟨rfl,fun i h=>absurd h sI⟩,fF,fun i h=>absurd h rG⟩) rfl ⟨rfl,rfl,rfl,rfl,rfl,trivial⟩ ⟨rfl,rfl,trivial⟩ fun ⟨k,Gx,r,(o,d,j)⟩=>fun hk=>?_
 obtain ⟨hk1,hk2,hk3,hk4,hk5,hk6⟩:=hk
 replace ha:=ha.up hk2
 replace hb:=hb.up hk2
 replace hy:=hy.up hk2
 rcases aJ k l.length with hkl | hkl
 · have hx:=hb.2 k hkl
   have hxn:(l[(k:Int).toNat]?.getD default).n≤268435456:=by rw [aF];exact aP (Bh hb hm hkl) hmm
   have hx:Big Gx (l[(k:Int).toNat]?.getD default) (xs[k]?.getD 0):=by rw [aF];exact hx
   have hlt:((xs[k]?.getD 0 % z).natAbs:Int)<pb y.n:=by
    have e2:=Tt (x:=xs[k]?.getD 0) hy0
    have e3:=Big.lt hy
    omega
   refine aM 13 [1] ?_
   refine dI (α:=IV) T.sl39 ?_
   refine lP T.agg89 ?_
   refine aU 11 rfl T.zero89 fun b2=>?_
   refine aL 7 [11,11,10] ?_
   refine bU 12 rfl (TE _ _ _ _ _ hx hy hxn hyn hy0) fun v1 G1 Ho1 hle1 hp=>?_
   obtain ⟨q1,r1,rfl,hq1,hr1,rfl⟩:=hp
   replace hk4:=hk4.up hle1
   replace ha:=ha.up hle1
   replace hb:=hb.up hle1
   replace hy:=hy.up hle1
   replace hx:=hx.up hle1
   refine aA 4 [] ?_
   refine aU 12 rfl T.zero89 fun b3=>?_
   refine aU 13 rfl T.zero89 fun b4=>?_
   refine aL 9 [12,13,13] ?_
   refine cG rfl (Qj _ r1 (xs[k]?.getD 0 % z) hr1 (aP (iC hr1 hlt) (aP hyn rW))) ?_
   refine bR 3 [] ?_
   refine dL (fun hc1=>?_) fun hc1=>?_
   refine bG 13 [] ?_
   rotate_left
   refine aM 5 [12] ?_
   refine fC (α:=IV) 14 [(q1)] rfl T.sl39 T.el89 rfl rfl rfl rfl rfl fun b5=>?_
   refine jW (α:=IV) 9 T.sl39 T.el89 (fZ 14 rfl) fun a1 c1 junk1 ho1=>?_
   refine aY 8 [] ?_
   rotate_left
   · refine eJ ?_
     have hno:¬(∀ i:Nat,i<xs.length→xs[i]?.getD 0 % z=0):=fun h=>hc1 (Io.2 (h k rG))
     exact ⟨fun h=>absurd h hno,fun _=>rfl,rfl⟩
   have hdz:xs[k]?.getD 0 % z=0:=Io.1 (dZ fun h=>hc1 h)
   refine dC 17 rfl (show _=Value.int .i64 ((k+1:Nat):Int) from rfl) ?_
   refine cP ((k+1,_,r++[q1],(a1,c1,junk1))) ?_ ?_
   · refine ⟨hkl,bA hk2 hle1,by rw [aI,hk3];rfl,?_,ho1,fun i hi=>?_⟩
     · rw [Is];exact Ej hk4 hq1
     rcases aJ i k with h | h
     · exact hk6 i h
     have e:i=k:=rG
     rw [e];exact hdz
   show l.length - (k+1)<l.length - k
   omega
 have hkl:k=l.length:=rG
 subst hkl
 refine bG 20 [0] ?_
 refine dW 9 rfl hk5 fun G8 hle8 hA8=>?_
 refine eJ ?_
 rw [hxl] at hk6
 refine ⟨fun _=>⟨o,r,d,rfl,hA8,hk5.le,?_⟩,fun h=>absurd hk6 h,rfl⟩
 rw [←JN,←hxl];exact hk4.up hle8
theorem VA (G:Imm) (a a':Option Addr) (c c':Nat) (l l':List IV) (xs ys:List Int) (m:Nat) (ha:Arr G a l) (ha':Arr G a' l') (hb:Bigs G l xs) (hb':Bigs G l' ys) (hm:Below m xs) (hm':Below m ys) (hmm:m≤268435456) (hlen:l.length=l'.length) (hl:l.length≤1048576) :
 Does Tryz.prog 294 [.slice a l.length c,.slice a' l'.length c'] G [] (fun v G' Ho=>Cv G' v (List.zipWith (·+·) xs ys)∧Ho=[]):=by
 refine D0 Tryz.func294 Tryz.ntmps294 fun w=>?_
 refine aM 9 [] ?_
 refine bU 0 rfl (UW _ a a' c c' l l' xs ys m ha ha' hb hb' hm hm' hmm hlen hl) fun v1 G1 Ho1 hle1 hp=>?_
 obtain ⟨s1,r1,d1,rfl,hA1,hl81,hB1,rfl⟩:=hp
 replace ha:=ha.up hle1
 replace ha':=ha'.up hle1
 replace hb:=hb.up hle1
 replace hb':=hb'.up hle1
 refine aY 14 [] ?_
 refine bT ?_
 exact ⟨⟨_,_,_,rfl,hA1,hl81,hB1⟩,rfl⟩
theorem VB (G:Imm) (a a':Option Addr) (c c':Nat) (l l':List IV) (xs ys:List Int) (m:Nat) (ha:Arr G a l) (ha':Arr G a' l') (hb:Bigs G l xs) (hb':Bigs G l' ys) (hm:Below m xs) (hm':Below m ys) (hmm:m≤268435456) (hlen:l.length=l'.length) (hl:l.length≤1048576) :
 Does Tryz.prog 296 [.slice a l.length c,.slice a' l'.length c'] G [] (fun v G' Ho=>Cv G' v (List.zipWith (· - ·) xs ys)∧Ho=[]):=by
 refine D0 Tryz.func296 Tryz.ntmps296 fun w=>?_
 refine aM 9 [] ?_
 refine bU 0 rfl (UX _ a a' c c' l l' xs ys m ha ha' hb hb' hm hm' hmm hlen hl) fun v1 G1 Ho1 hle1 hp=>?_
 obtain ⟨s1,r1,d1,rfl,hA1,hl81,hB1,rfl⟩:=hp
 replace ha:=ha.up hle1
 replace ha':=ha'.up hle1
 replace hb:=hb.up hle1
 replace hb':=hb'.up hle1
 refine aY 14 [] ?_
 refine bT ?_
 exact ⟨⟨_,_,_,rfl,hA1,hl81,hB1⟩,rfl⟩
theorem VC (G:Imm) (a:Option Addr) (c:Nat) (l:List IV) (xs:List Int) (y:IV) (z:Int) (m:Nat) (ha:Arr G a l) (hb:Bigs G l xs) (hm:Below m xs) (hmm:m≤268435456) (hl:l.length≤1048576) (hy:Big G y z) (hyn:y.n≤268435456) (hy0:z≠0) :
 Does Tryz.prog 299 [.slice a l.length c,.agg (Cells.enc y).toArray] G [] (fun v G' Ho=>((∀ i:Nat,i<xs.length→xs[i]?.getD 0 % z=0)→∃ (s:Option Addr) (r:List IV) (d:Nat),v=.tuple #[.slice s r.length d,.bool true]∧Arr G' s r∧r.length≤d∧Bigs G' r (xs.map (· / z)))∧
  (¬(∀ i:Nat,i<xs.length→xs[i]?.getD 0 % z=0)→v=.tuple #[.slice none 0 0,.bool false])∧Ho=[]):=by
 have h:=UZ G a c l xs y z m ha hb hm hmm hl hy hyn hy0
 by_cases hd:∀ i:Nat,i<xs.length→xs[i]?.getD 0 % z=0
 · have h1:=h.mono fun v G' Ho _ ⟨p1,p2,p3⟩=>(⟨p1 hd,p3⟩:(∃ (s:Option Addr) (r:List IV) (d:Nat),v=Value.tuple #[.slice s r.length d,.int .i64 0]∧Arr G' s r∧r.length≤d∧Bigs G' r (xs.map (· / z)))∧Ho=[])
   refine D0 Tryz.func299 Tryz.ntmps299 fun w=>?_
   refine aM 2 [] ?_
   refine cV 0 fun b1=>?_
   refine aL 8 [0] ?_
   refine bU 1 rfl (h1) fun v1 G1 Ho1 hle1 hp=>?_
   obtain ⟨⟨s1,r1,d1,rfl,hA1,hl81,hB1⟩,rfl⟩:=hp
   replace ha:=ha.up hle1
   replace hb:=hb.up hle1
   replace hy:=hy.up hle1
   refine aY 17 [] ?_
   refine eJ ?_
   exact ⟨fun _=>⟨_,_,_,rfl,hA1,hl81,hB1⟩,fun h=>absurd hd h,rfl⟩
 have h1:=h.mono fun v G' Ho _ ⟨p1,p2,p3⟩=>(⟨p2 hd,p3⟩:v=Value.tuple #[.slice none 0 0,.int .i64 20]∧Ho=[])
 refine D0 Tryz.func299 Tryz.ntmps299 fun w=>?_
 refine aM 2 [] ?_
 refine cV 0 fun b1=>?_
 refine aL 8 [0] ?_
 refine bU 1 rfl (h1) fun v1 G1 Ho1 hle1 hp=>?_
 obtain ⟨rfl,rfl⟩:=hp
 replace ha:=ha.up hle1
 replace hb:=hb.up hle1
 replace hy:=hy.up hle1
 refine aY 17 [] ?_
 refine eJ ?_
 exact ⟨fun h=>absurd h hd,fun _=>rfl,rfl⟩
def EU:Value:=.agg #[.func (.func 293) #[] #[],.func (.func 294) #[] #[],.func (.func 296) #[] #[],.func (.func 298) #[] #[],.func (.func 299) #[] #[]]
theorem VD (G:Imm):Does Tryz.prog 251 [] G [] (fun v G' Ho=>v=EU∧G'=G∧Ho=[]):=by
 refine D0 Tryz.func251 Tryz.ntmps251 fun w=>?_
 refine aM 2 [] ?_
 refine aU 0 rfl T.zero352 fun b1=>?_
 refine aL 4 [] ?_
 refine aN (gI (cs:=[_,_,_,_,_]) T.st352 rfl rfl rfl) ?_
 refine aY 4 [0] ?_
 refine dQ (.inr rfl) (Ho:=[]) rfl (.agg 0 rfl rfl T.agg352) trivial ?_
 exact ⟨rfl,rfl,rfl⟩
end
section
attribute [local irreducible] rI pb sB rZ p2 cst
def EvenB (m N:Nat) (rs:List (List Int)):Prop:=∀ zs∈rs,zs.length=N∧Below m zs
theorem EvenB.at {m N:Nat} {rs:List (List Int)} (h:EvenB m N rs) {k:Nat} (hk:k<rs.length):(rs[k]?.getD []).length=N∧Below m (rs[k]?.getD []):=by
 rw [aC hk];exact h _ (dA hk)
def Oe (i:Sl.Instr) (rs:List (List Int)) (H0:Hp) (v:Value) (G':Imm) (Ho:Hp):Prop:=
 ∃ s:SV,v=.tuple #[.slice s.a s.n s.c,.bool (decide (wJ i rs≠none))]∧(∀ z,wJ i rs=some z→BRow G' s z)∧Ho=H0
theorem wI {i:Sl.Instr} {rs:List (List Int)} {H0:Hp} {s:SV} {G':Imm} {z:List Int} (h:wJ i rs=some z) (hx:BRow G' s z):Oe i rs H0 (.tuple #[.slice s.a s.n s.c,.bool true]) G' H0:=
 ⟨s,by rw [cR (show wJ i rs≠none from fun e=>by rw [e] at h;cases h)],fun z' h'=>by rw [h] at h';cases h';exact hx,rfl⟩
theorem Rj {i:Sl.Instr} {rs:List (List Int)} {H0:Hp} {G':Imm} (h:wJ i rs=none):Oe i rs H0 (.tuple #[.slice none 0 0,.bool false]) G' H0:=
 ⟨⟨none,0,0⟩,by rw [bF (show ¬wJ i rs≠none from fun e=>e h)],(fun z hz=>by rw [h] at hz;cases hz),rfl⟩
theorem vU {G:Imm} {s:Option Addr} {r:List IV} {d:Nat} {zs:List Int} (hA:Arr G s r) (hd:r.length≤d) (hB:Bigs G r zs):BRow G ⟨s,r.length,d⟩ zs:=⟨r,rfl,hd,hA,hB⟩
theorem EV (xs:List Int):(xs.map fun x=>-1*x)=xs.map fun x=>-x:=by
 congr 1;funext x;rw [oG,fB]
theorem EW (xs ys:List Int):List.zipWith (fun x y=>x+1*y) xs ys=List.zipWith (·+·) xs ys:=by
 congr 1;funext x y;rw [fB]
theorem EX (xs ys:List Int):List.zipWith (fun x y=>x+(-1)*y) xs ys=List.zipWith (· - ·) xs ys:=by
 congr 1;funext x y;rw [oG,fB];rfl
theorem VE (G:Imm) (i:Sl.Instr) (o:Option Addr) (d:Nat) (r:List SV) (j:List Value) (rs:List (List Int)) (m N:Nat) (hob:OwnA o d r j) (hg:BGrid G r rs) (hm:EvenB m N rs) (hN:N≤1048576) (hm2:m≤268435456)
 (hop:1≤i.op∧i.op≤8) (ha:0≤i.a∧i.a<r.length) (hb:0≤i.b∧i.b<r.length)
 (hcst:i.op≠1→i.op≠2→i.op≠3→i.op≠4→cst i≠0∧((cst i).natAbs:Int)<pb 3)
 (hc1:i.op=5∨i.op=6→-9223372036854775808≤i.c∧i.c≤9223372036854775807) (hc2:¬(i.op=5∨i.op=6)→0≤i.c∧i.c≤64) :
 Does Tryz.prog 292 [EU,.slice o r.length d,.agg (Cells.enc i).toArray] G [(0,o.map (·.block),rV 39 r j)] (fun v G' Ho=>Oe i rs [(0,o.map (·.block),rV 39 r j)] v G' Ho):=by
 have hca:=hob.le
 obtain ⟨la,a1,a2,a3,a4⟩:=hg.2 i.a.toNat rG
 obtain ⟨lb,b1,b2,b3,b4⟩:=hg.2 i.b.toNat rG
 have hrl:=hg.1
 obtain ⟨na,ma⟩:=hm.at (k:=i.a.toNat) rG
 obtain ⟨nb,mb⟩:=hm.at (k:=i.b.toNat) rG
 have hla:la.length≤1048576:=by rw [a4.1,na];exact hN
 have hlab:la.length=lb.length:=by rw [a4.1,b4.1,na,nb]
 refine D0 Tryz.func292 Tryz.ntmps292 fun w=>?_
 have h118:=UT G _ (r[i.a.toNat]?.getD default).c la _ m a3 a4 ma hm2 hla
 have h119:=VA G _ _ (r[i.a.toNat]?.getD default).c (r[i.b.toNat]?.getD default).c la lb _ _ m a3 b3 a4 b4 ma mb hm2 hlab hla
 have h121:=VB G _ _ (r[i.a.toNat]?.getD default).c (r[i.b.toNat]?.getD default).c la lb _ _ m a3 b3 a4 b4 ma mb hm2 hlab hla
 rw [a1] at h118
 rw [a1,b1] at h119 h121
 have h123:∀ G1 y z,G.le G1→Big G1 y z→y.n≤268435456→Does Tryz.prog 298 [.slice (r[i.a.toNat]?.getD default).a (r[i.a.toNat]?.getD default).n (r[i.a.toNat]?.getD default).c,.agg (Cells.enc y).toArray] G1 [] (fun v G' Ho=>Cv G' v ((rs[i.a.toNat]?.getD []).map fun x=>z*x)∧Ho=[]):=fun G1 y z hG hy hyn=>by
  have h:=UY G1 _ (r[i.a.toNat]?.getD default).c la _ y z m (a3.up hG) (a4.up hG) ma hm2 hla hy hyn
  rw [a1] at h;exact h
 have h124:∀ G1 y z,G.le G1→Big G1 y z→y.n≤268435456→z≠0→Does Tryz.prog 299 [.slice (r[i.a.toNat]?.getD default).a (r[i.a.toNat]?.getD default).n (r[i.a.toNat]?.getD default).c,.agg (Cells.enc y).toArray] G1 [] (fun v G' Ho=>(tK z (rs[i.a.toNat]?.getD [])→∃ (s:Option Addr) (r':List IV) (d:Nat),v=.tuple #[.slice s r'.length d,.bool true]∧Arr G' s r'∧r'.length≤d∧Bigs G' r' ((rs[i.a.toNat]?.getD []).map (· / z)))∧
  (¬tK z (rs[i.a.toNat]?.getD [])→v=.tuple #[.slice none 0 0,.bool false])∧Ho=[]):=fun G1 y z hG hy hyn hz=>by
  have h:=VC G1 _ (r[i.a.toNat]?.getD default).c la _ y z m (a3.up hG) (a4.up hG) ma hm2 hla hy hyn hz
  rw [a1] at h;exact h
 by_cases h2:i.op=2
 · refine aM 2 [] ?_
   refine cV 1 fun b5=>?_
   refine cV 2 fun b6=>?_
   refine bR 5 [] ?_
   refine dT [0,1,2] [] T.mixed [[0],[1],[2,2]] ?_
   refine kB (α:=SV) 3 T.sl86 ?_
   refine lV 4 0 0 T.one39 ?_
   refine eD [[5],[6],[7,2]] ?_
   refine kB (α:=SV) 8 T.sl86 ?_
   refine lV 9 0 0 T.one39 ?_
   refine eD [[10],[11]] ?_
   refine dY ?_
   refine Ar.gl 21 [2,1,1] ?_
   refine gW (fst:=[]) (cap:=[]) 3 rfl T.fn293 rfl rfl (h118) (sR trivial) fun v1 G1 Ho1 hle1 hp=>?_
   obtain ⟨⟨s1,r1,d1,rfl,hA1,hl81,hB1⟩,rfl⟩:=hp
   replace a3:=a3.up hle1
   replace a4:=a4.up hle1
   replace b3:=b3.up hle1
   replace b4:=b4.up hle1
   refine aY 7 [] ?_
   refine qV [0] ?_
   exact wI (by unfold wJ;simp only [h2,eO];rw [EV]) (vU hA1 hl81 hB1)
 by_cases h3:i.op=3
 · refine aM 2 [] ?_
   refine cV 1 fun b5=>?_
   refine cV 2 fun b6=>?_
   refine bR 5 [] ?_
   refine dT [0,1,2] [] T.mixed [[0],[1],[2,2]] ?_
   refine kB (α:=SV) 3 T.sl86 ?_
   refine lV 4 0 0 T.one39 ?_
   refine eD [[5],[6],[7,2]] ?_
   refine kB (α:=SV) 8 T.sl86 ?_
   refine lV 9 0 0 T.one39 ?_
   refine eD [[10],[11]] ?_
   refine dY ?_
   refine Ar.gl 29 [2,0,1,1] ?_
   refine gW (fst:=[]) (cap:=[]) 3 rfl T.fn294 rfl rfl (h119) (sR trivial) fun v1 G1 Ho1 hle1 hp=>?_
   obtain ⟨⟨s1,r1,d1,rfl,hA1,hl81,hB1⟩,rfl⟩:=hp
   replace a3:=a3.up hle1
   replace a4:=a4.up hle1
   replace b3:=b3.up hle1
   replace b4:=b4.up hle1
   refine aY 7 [] ?_
   refine qV [0] ?_
   exact wI (by unfold wJ;simp only [h3,eO];rw [aK (by decide),EW]) (vU hA1 hl81 hB1)
 by_cases h4:i.op=4
 · refine aM 2 [] ?_
   refine cV 1 fun b5=>?_
   refine cV 2 fun b6=>?_
   refine bR 5 [] ?_
   refine dT [0,1,2] [] T.mixed [[0],[1],[2,2]] ?_
   refine kB (α:=SV) 3 T.sl86 ?_
   refine lV 4 0 0 T.one39 ?_
   refine eD [[5],[6],[7,2]] ?_
   refine kB (α:=SV) 8 T.sl86 ?_
   refine lV 9 0 0 T.one39 ?_
   refine eD [[10],[11]] ?_
   refine dY ?_
   refine Ar.gl 36 [2,0,0,1,1] ?_
   refine gW (fst:=[]) (cap:=[]) 3 rfl T.fn296 rfl rfl (h121) (sR trivial) fun v1 G1 Ho1 hle1 hp=>?_
   obtain ⟨⟨s1,r1,d1,rfl,hA1,hl81,hB1⟩,rfl⟩:=hp
   replace a3:=a3.up hle1
   replace a4:=a4.up hle1
   replace b3:=b3.up hle1
   replace b4:=b4.up hle1
   refine aY 7 [] ?_
   refine qV [0] ?_
   exact wI (by unfold wJ;simp only [h4,eO];rw [aK (by decide),aK (by decide),EX]) (vU hA1 hl81 hB1)
 by_cases h1:i.op=1
 · refine aM 2 [] ?_
   refine cV 1 fun b5=>?_
   refine cV 2 fun b6=>?_
   refine bR 5 [] ?_
   refine dT [0,1,2] [] T.mixed [[0],[1],[2,2]] ?_
   refine kB (α:=SV) 3 T.sl86 ?_
   refine lV 4 0 0 T.one39 ?_
   refine eD [[5],[6],[7,2]] ?_
   refine kB (α:=SV) 8 T.sl86 ?_
   refine lV 9 0 0 T.one39 ?_
   refine eD [[10],[11]] ?_
   refine dY ?_
   refine iG 69 [2,0,0,0,0,0,0,0] ?_
   refine qV [0] ?_
   exact wI (by unfold wJ;simp only [h1];rfl) ⟨la,a1,a2,a3,a4⟩
 obtain ⟨hk0,hk3⟩:=hcst h1 h2 h3 h4
 by_cases h5:i.op=5
 · have hc9:=hc1 (.inl h5)
   have e5:cst i=i.c:=Qq (.inl h5)
   rw [e5] at hk3
   refine aM 2 [] ?_
   refine cV 1 fun b5=>?_
   refine cV 2 fun b6=>?_
   refine bR 5 [] ?_
   refine dT [0,1,2] [] T.mixed [[0],[1],[2,2]] ?_
   refine kB (α:=SV) 3 T.sl86 ?_
   refine lV 4 0 0 T.one39 ?_
   refine eD [[5],[6],[7,2]] ?_
   refine kB (α:=SV) 8 T.sl86 ?_
   refine lV 9 0 0 T.one39 ?_
   refine eD [[10],[11]] ?_
   refine dY ?_
   refine oV 38 [2,0,0,0,1] ?_
   refine dT [0,1,2] [(2,6),(1,6),(0,6)] T.mixed [[0],[1,1],[2],[3]] ?_
   refine fE 4 ?_
   refine aA 1 [2] ?_
   refine bO 5 ?_
   refine bU 3 rfl (HH _ i.c hc9) fun v1 G1 Ho1 hle1 hp=>?_
   obtain ⟨rk,rfl,hrk,rfl⟩:=hp
   replace a3:=a3.up hle1
   replace a4:=a4.up hle1
   replace b3:=b3.up hle1
   replace b4:=b4.up hle1
   refine bO 6 ?_
   refine gW (fst:=[]) (cap:=[]) 3 rfl T.fn298 rfl rfl (h123 _ rk _ rH hrk (aP (iC hrk hk3) rW)) (sR trivial) fun v2 G2 Ho2 hle2 hp=>?_
   obtain ⟨⟨s2,r2,d2,rfl,hA2,hl82,hB2⟩,rfl⟩:=hp
   replace hrk:=hrk.up hle2
   replace a3:=a3.up hle2
   replace a4:=a4.up hle2
   replace b3:=b3.up hle2
   replace b4:=b4.up hle2
   refine eE ?_
   refine eD [[7],[8]] ?_
   refine dY ?_
   refine iG 4 [] ?_
   refine qV [0] ?_
   all_goals exact wI (by unfold wJ;simp only [h5,true_or,eO];rw [aK (by decide),aK (by decide),aK (by decide),e5]) (vU rH rH rH)
 by_cases h6:i.op=6
 · have hc9:=hc1 (.inr h6)
   have e5:cst i=i.c:=Qq (.inr h6)
   rw [e5] at hk3 hk0
   have h124Y:tK (i.c) (rs[i.a.toNat]?.getD [])→∀ G1 y,G.le G1→Big G1 y (i.c)→y.n≤268435456→Does Tryz.prog 299 [.slice (r[i.a.toNat]?.getD default).a (r[i.a.toNat]?.getD default).n (r[i.a.toNat]?.getD default).c,.agg (Cells.enc y).toArray] G1 [] (fun v G' Ho=>(∃ (s:Option Addr) (r':List IV) (d:Nat),v=.tuple #[.slice s r'.length d,.bool true]∧Arr G' s r'∧r'.length≤d∧Bigs G' r' ((rs[i.a.toNat]?.getD []).map (· / (i.c))))∧Ho=[]):=
    fun hd G1 y hG hy hyn=>(h124 G1 y _ hG hy hyn hk0).mono fun v G' Ho _ ⟨p1,p2,p3⟩=>⟨p1 hd,p3⟩
   have h124N:¬tK (i.c) (rs[i.a.toNat]?.getD [])→∀ G1 y,G.le G1→Big G1 y (i.c)→y.n≤268435456→Does Tryz.prog 299 [.slice (r[i.a.toNat]?.getD default).a (r[i.a.toNat]?.getD default).n (r[i.a.toNat]?.getD default).c,.agg (Cells.enc y).toArray] G1 [] (fun v G' Ho=>v=.tuple #[.slice none 0 0,.bool false]∧Ho=[]):=
    fun hd G1 y hG hy hyn=>(h124 G1 y _ hG hy hyn hk0).mono fun v G' Ho _ ⟨p1,p2,p3⟩=>⟨p2 hd,p3⟩
   by_cases hd:tK (i.c) (rs[i.a.toNat]?.getD [])
   · skip
     refine aM 2 [] ?_
     refine cV 1 fun b5=>?_
     refine cV 2 fun b6=>?_
     refine bR 5 [] ?_
     refine dT [0,1,2] [] T.mixed [[0],[1],[2,2]] ?_
     refine kB (α:=SV) 3 T.sl86 ?_
     refine lV 4 0 0 T.one39 ?_
     refine eD [[5],[6],[7,2]] ?_
     refine kB (α:=SV) 8 T.sl86 ?_
     refine lV 9 0 0 T.one39 ?_
     refine eD [[10],[11]] ?_
     refine dY ?_
     refine oV 52 [2,0,0,0,0,0,1] ?_
     refine dT [0,1,2] [(2,6),(1,6),(0,6)] T.mixed [[0],[1,1],[2],[3]] ?_
     refine fE 4 ?_
     refine aA 1 [2] ?_
     refine bO 5 ?_
     refine bU 3 rfl (HH _ i.c hc9) fun v1 G1 Ho1 hle1 hp=>?_
     obtain ⟨rk,rfl,hrk,rfl⟩:=hp
     replace a3:=a3.up hle1
     replace a4:=a4.up hle1
     replace b3:=b3.up hle1
     replace b4:=b4.up hle1
     refine bO 6 ?_
     refine gW (fst:=[]) (cap:=[]) 3 rfl T.fn299 rfl rfl (h124Y hd _ rk rH hrk (aP (iC hrk hk3) rW)) (sR trivial) fun v2 G2 Ho2 hle2 hp=>?_
     obtain ⟨⟨s2,r2,d2,rfl,hA2,hl82,hB2⟩,rfl⟩:=hp
     replace hrk:=hrk.up hle2
     replace a3:=a3.up hle2
     replace a4:=a4.up hle2
     replace b3:=b3.up hle2
     replace b4:=b4.up hle2
     refine eE ?_
     refine eD [[7],[8],[9],[10]] ?_
     refine dY ?_
     refine iG 4 [] ?_
     refine qV [0] ?_
     all_goals exact wI (by unfold wJ;simp only [h6,true_or,eO];first | (rw [aK (by decide),aK (by decide),aK (by decide),aK (by decide),e5,aR hd]) | (rw [aK (by decide),aK (by decide),aK (by decide),aK (by decide)];exact (by rw [e5];exact aR hd))) (vU rH rH rH)
   skip
   refine aM 2 [] ?_
   refine cV 1 fun b5=>?_
   refine cV 2 fun b6=>?_
   refine bR 5 [] ?_
   refine dT [0,1,2] [] T.mixed [[0],[1],[2,2]] ?_
   refine kB (α:=SV) 3 T.sl86 ?_
   refine lV 4 0 0 T.one39 ?_
   refine eD [[5],[6],[7,2]] ?_
   refine kB (α:=SV) 8 T.sl86 ?_
   refine lV 9 0 0 T.one39 ?_
   refine eD [[10],[11]] ?_
   refine dY ?_
   refine oV 52 [2,0,0,0,0,0,1] ?_
   refine dT [0,1,2] [(2,6),(1,6),(0,6)] T.mixed [[0],[1,1],[2],[3]] ?_
   refine fE 4 ?_
   refine aA 1 [2] ?_
   refine bO 5 ?_
   refine bU 3 rfl (HH _ i.c hc9) fun v1 G1 Ho1 hle1 hp=>?_
   obtain ⟨rk,rfl,hrk,rfl⟩:=hp
   replace a3:=a3.up hle1
   replace a4:=a4.up hle1
   replace b3:=b3.up hle1
   replace b4:=b4.up hle1
   refine bO 6 ?_
   refine gW (fst:=[]) (cap:=[]) 3 rfl T.fn299 rfl rfl (h124N hd _ rk rH hrk (aP (iC hrk hk3) rW)) (sR trivial) fun v2 G2 Ho2 hle2 hp=>?_
   obtain ⟨rfl,rfl⟩:=hp
   replace hrk:=hrk.up hle2
   replace a3:=a3.up hle2
   replace a4:=a4.up hle2
   replace b3:=b3.up hle2
   replace b4:=b4.up hle2
   refine eE ?_
   refine eD [[7],[8],[9],[10]] ?_
   refine dY ?_
   refine iG 4 [] ?_
   refine qV [0] ?_
   all_goals exact Rj (by unfold wJ;simp only [h6,true_or,eO];rw [aK (by decide),aK (by decide),aK (by decide),aK (by decide),e5,aK hd])
 have hc64:=hc2 (fun h=>h.elim h5 h6)
 have e5:cst i=p2 i.c.toNat:=DP (fun h=>h.elim h5 h6)
 rw [e5] at hk3 hk0
 by_cases h7:i.op=7
 · refine aM 2 [] ?_
   refine cV 1 fun b5=>?_
   refine cV 2 fun b6=>?_
   refine bR 5 [] ?_
   refine dT [0,1,2] [] T.mixed [[0],[1],[2,2]] ?_
   refine kB (α:=SV) 3 T.sl86 ?_
   refine lV 4 0 0 T.one39 ?_
   refine eD [[5],[6],[7,2]] ?_
   refine kB (α:=SV) 8 T.sl86 ?_
   refine lV 9 0 0 T.one39 ?_
   refine eD [[10],[11]] ?_
   refine dY ?_
   refine oV 45 [2,0,0,0,0,1] ?_
   refine dT [0,1,2] [(2,6),(1,6),(0,6)] T.mixed [[0],[1,1],[2],[3]] ?_
   refine fE 4 ?_
   refine aA 1 [2] ?_
   refine bO 5 ?_
   refine bU 3 rfl (ET _ i.c hc64) fun v1 G1 Ho1 hle1 hp=>?_
   obtain ⟨rk,rfl,hrk,rfl⟩:=hp
   replace a3:=a3.up hle1
   replace a4:=a4.up hle1
   replace b3:=b3.up hle1
   replace b4:=b4.up hle1
   refine bO 6 ?_
   refine gW (fst:=[]) (cap:=[]) 3 rfl T.fn298 rfl rfl (h123 _ rk _ rH hrk (aP (iC hrk hk3) rW)) (sR trivial) fun v2 G2 Ho2 hle2 hp=>?_
   obtain ⟨⟨s2,r2,d2,rfl,hA2,hl82,hB2⟩,rfl⟩:=hp
   replace hrk:=hrk.up hle2
   replace a3:=a3.up hle2
   replace a4:=a4.up hle2
   replace b3:=b3.up hle2
   replace b4:=b4.up hle2
   refine eE ?_
   refine eD [[7],[8]] ?_
   refine dY ?_
   refine iG 4 [] ?_
   refine qV [0] ?_
   all_goals exact wI (by unfold wJ;simp only [h7,or_true,eO];rw [aK (by decide),aK (by decide),aK (by decide),e5]) (vU rH rH rH)
 have h8:i.op=8:=rG
 have h124Y:tK (p2 i.c.toNat) (rs[i.a.toNat]?.getD [])→∀ G1 y,G.le G1→Big G1 y (p2 i.c.toNat)→y.n≤268435456→Does Tryz.prog 299 [.slice (r[i.a.toNat]?.getD default).a (r[i.a.toNat]?.getD default).n (r[i.a.toNat]?.getD default).c,.agg (Cells.enc y).toArray] G1 [] (fun v G' Ho=>(∃ (s:Option Addr) (r':List IV) (d:Nat),v=.tuple #[.slice s r'.length d,.bool true]∧Arr G' s r'∧r'.length≤d∧Bigs G' r' ((rs[i.a.toNat]?.getD []).map (· / (p2 i.c.toNat))))∧Ho=[]):=
  fun hd G1 y hG hy hyn=>(h124 G1 y _ hG hy hyn hk0).mono fun v G' Ho _ ⟨p1,p2,p3⟩=>⟨p1 hd,p3⟩
 have h124N:¬tK (p2 i.c.toNat) (rs[i.a.toNat]?.getD [])→∀ G1 y,G.le G1→Big G1 y (p2 i.c.toNat)→y.n≤268435456→Does Tryz.prog 299 [.slice (r[i.a.toNat]?.getD default).a (r[i.a.toNat]?.getD default).n (r[i.a.toNat]?.getD default).c,.agg (Cells.enc y).toArray] G1 [] (fun v G' Ho=>v=.tuple #[.slice none 0 0,.bool false]∧Ho=[]):=
  fun hd G1 y hG hy hyn=>(h124 G1 y _ hG hy hyn hk0).mono fun v G' Ho _ ⟨p1,p2,p3⟩=>⟨p2 hd,p3⟩
 by_cases hd:tK (p2 i.c.toNat) (rs[i.a.toNat]?.getD [])
 · skip
   refine aM 2 [] ?_
   refine cV 1 fun b5=>?_
   refine cV 2 fun b6=>?_
   refine bR 5 [] ?_
   refine dT [0,1,2] [] T.mixed [[0],[1],[2,2]] ?_
   refine kB (α:=SV) 3 T.sl86 ?_
   refine lV 4 0 0 T.one39 ?_
   refine eD [[5],[6],[7,2]] ?_
   refine kB (α:=SV) 8 T.sl86 ?_
   refine lV 9 0 0 T.one39 ?_
   refine eD [[10],[11]] ?_
   refine dY ?_
   refine oV 59 [2,0,0,0,0,0,0,1] ?_
   refine dT [0,1,2] [(2,6),(1,6),(0,6)] T.mixed [[0],[1,1],[2],[3]] ?_
   refine fE 4 ?_
   refine aA 1 [2] ?_
   refine bO 5 ?_
   refine bU 3 rfl (ET _ i.c hc64) fun v1 G1 Ho1 hle1 hp=>?_
   obtain ⟨rk,rfl,hrk,rfl⟩:=hp
   replace a3:=a3.up hle1
   replace a4:=a4.up hle1
   replace b3:=b3.up hle1
   replace b4:=b4.up hle1
   refine bO 6 ?_
   refine gW (fst:=[]) (cap:=[]) 3 rfl T.fn299 rfl rfl (h124Y hd _ rk rH hrk (aP (iC hrk hk3) rW)) (sR trivial) fun v2 G2 Ho2 hle2 hp=>?_
   obtain ⟨⟨s2,r2,d2,rfl,hA2,hl82,hB2⟩,rfl⟩:=hp
   replace hrk:=hrk.up hle2
   replace a3:=a3.up hle2
   replace a4:=a4.up hle2
   replace b3:=b3.up hle2
   replace b4:=b4.up hle2
   refine eE ?_
   refine eD [[7],[8],[9],[10]] ?_
   refine dY ?_
   refine iG 4 [] ?_
   refine qV [0] ?_
   all_goals exact wI (by unfold wJ;simp only [h8,or_true,eO];first | (rw [aK (by decide),aK (by decide),aK (by decide),aK (by decide),e5,aR hd]) | (rw [aK (by decide),aK (by decide),aK (by decide),aK (by decide)];exact (by rw [e5];exact aR hd))) (vU rH rH rH)
 skip
 refine aM 2 [] ?_
 refine cV 1 fun b5=>?_
 refine cV 2 fun b6=>?_
 refine bR 5 [] ?_
 refine dT [0,1,2] [] T.mixed [[0],[1],[2,2]] ?_
 refine kB (α:=SV) 3 T.sl86 ?_
 refine lV 4 0 0 T.one39 ?_
 refine eD [[5],[6],[7,2]] ?_
 refine kB (α:=SV) 8 T.sl86 ?_
 refine lV 9 0 0 T.one39 ?_
 refine eD [[10],[11]] ?_
 refine dY ?_
 refine oV 59 [2,0,0,0,0,0,0,1] ?_
 refine dT [0,1,2] [(2,6),(1,6),(0,6)] T.mixed [[0],[1,1],[2],[3]] ?_
 refine fE 4 ?_
 refine aA 1 [2] ?_
 refine bO 5 ?_
 refine bU 3 rfl (ET _ i.c hc64) fun v1 G1 Ho1 hle1 hp=>?_
 obtain ⟨rk,rfl,hrk,rfl⟩:=hp
 replace a3:=a3.up hle1
 replace a4:=a4.up hle1
 replace b3:=b3.up hle1
 replace b4:=b4.up hle1
 refine bO 6 ?_
 refine gW (fst:=[]) (cap:=[]) 3 rfl T.fn299 rfl rfl (h124N hd _ rk rH hrk (aP (iC hrk hk3) rW)) (sR trivial) fun v2 G2 Ho2 hle2 hp=>?_
 obtain ⟨rfl,rfl⟩:=hp
 replace hrk:=hrk.up hle2
 replace a3:=a3.up hle2
 replace a4:=a4.up hle2
 replace b3:=b3.up hle2
 replace b4:=b4.up hle2
 refine eE ?_
 refine eD [[7],[8],[9],[10]] ?_
 refine dY ?_
 refine iG 4 [] ?_
 refine qV [0] ?_
 all_goals exact Rj (by unfold wJ;simp only [h8,or_true,eO];rw [aK (by decide),aK (by decide),aK (by decide),aK (by decide),e5,aK hd])
end
theorem JO:pw 5≤pb 3:=by unfold pw pb;decide
theorem Zq {m k:Nat} {x y:Int} (hx:(x.natAbs:Int)<pb m) (hy:(y.natAbs:Int)<pb k):((x*y).natAbs:Int)<pb (m+k):=by
 rw [mH,eW,Te]
 have h1:=aW (bK hy) (show (0:Int)≤x.natAbs by omega)
 have h2:=kA hx (vG k)
 omega
theorem Below.mono {m k:Nat} {zs:List Int} (h:Below m zs) (hk:m≤k):Below k zs:=fun z hz=>iL (h z hz) (Lx hk)
section
attribute [local irreducible] rI pb sB rZ p2 cst
end
theorem Bj {m k:Nat} {xs:List Int} {f:Int→Int} (h:∀ x:Int,(x.natAbs:Int)<pb m→((f x).natAbs:Int)<pb k) (hx:Below m xs):Below k (xs.map f):=fun z hz=>by
 obtain ⟨x,h1,rfl⟩:=dP.1 hz
 exact h x (hx x h1)
theorem It {m k:Nat} {xs ys:List Int} {f:Int→Int→Int} (h:∀ x y:Int,(x.natAbs:Int)<pb m→(y.natAbs:Int)<pb m→((f x y).natAbs:Int)<pb k) (hx:Below m xs) (hy:Below m ys):Below k (List.zipWith f xs ys):=fun z hz=>by
 rw [kL] at hz
 obtain ⟨n,hn,rfl⟩:=hz
 rw [nD]
 exact h _ _ (hx _ (dA _)) (hy _ (dA _))
theorem Zr {i:Sl.Instr} {rs:List (List Int)} {m N:Nat} {x:List Int} (he:EvenB m N rs) (ha:0≤i.a∧i.a<rs.length) (hb:i.op=3∨i.op=4→0≤i.b∧i.b<rs.length)
 (hz:i.op=5∨i.op=7→((cst i).natAbs:Int)<pb 3) (h:wJ i rs=some x):x.length=N∧Below (m+3) x:=by
 obtain ⟨haL,haB⟩:=he.at (k:=i.a.toNat) rG
 have hp:=vG m
 have h4:4294967296*pb m≤pb (m+3):=by rw [←uV];exact Lx rG
 unfold wJ at h
 simp only at h
 split at h
 · cases h
   exact ⟨by rw [bS];exact haL,Bj (fun x hx=>by omega) haB⟩
 split at h
 · rename_i h3
   obtain ⟨hbL,hbB⟩:=he.at (k:=i.b.toNat) (by have:=hb (.inl h3);omega)
   cases h
   exact ⟨by rw [hZ,haL,hbL,nL],It (fun x y hx hy=>by omega) haB hbB⟩
 split at h
 · rename_i h4
   obtain ⟨hbL,hbB⟩:=he.at (k:=i.b.toNat) (by have:=hb (.inr h4);omega)
   cases h
   exact ⟨by rw [hZ,haL,hbL,nL],It (fun x y hx hy=>by omega) haB hbB⟩
 split at h
 · rename_i h57
   cases h
   exact ⟨by rw [bS];exact haL,Bj (fun x hx=>by rw [Nat.add_comm];exact Zq (hz h57) hx) haB⟩
 split at h
 · split at h
   · cases h
     refine ⟨by rw [bS];exact haL,Bj (fun x hx=>?_) haB⟩
     have h1:(x / cst i).natAbs≤x.natAbs:=Int.natAbs_ediv_le_natAbs _ _
     omega
   cases h
 cases h
 exact ⟨haL,haB.mono rG⟩
theorem EvenB.mono {m k N:Nat} {rs:List (List Int)} (h:EvenB m N rs) (hk:m≤k):EvenB k N rs:=fun zs hz=>⟨(h zs hz).1,(h zs hz).2.mono hk⟩
theorem Zs {m N:Nat} {rs:List (List Int)} {x:List Int} (h:EvenB m N rs) (hx:x.length=N∧Below m x) (k:Nat):EvenB m N (rs.set k x):=fun zs hz=>by
 rcases iQ hz with h1 | h1
 · exact h zs h1
 rw [h1];exact hx
theorem BGrid.set {G:Imm} {r:List SV} {rs:List (List Int)} (h:BGrid G r rs) {s:SV} {x:List Int} (hs:BRow G s x) (k:Nat):BGrid G (r.set k s) (rs.set k x):=by
 refine ⟨by rw [aG,aG];exact h.1,fun i hi=>?_⟩
 rw [aG] at hi
 have hrl:=h.1
 rw [eH,eH]
 by_cases e:k=i
 · subst e
   rw [aR rfl,aR rfl,aR hi,aR (by omega)]
   exact hs
 rw [aK e,aK e]
 exact h.2 i hi
section
attribute [local irreducible] rI pb sB rZ p2 cst wJ
theorem VF (G:Imm) (k:Int) (s:SV):Does Tryz.prog 252 [.int .i64 k,.slice s.a s.n s.c] G [] (fun v G' Ho=>v=.bool true∧G'=G∧Ho=[]):=by
 refine D0 Tryz.func252 Tryz.ntmps252 fun w=>?_
 refine bG 11 [] ?_
 refine bT ?_
 exact ⟨rfl,rfl,rfl⟩
def EY (p:PV) (gs:List (List Int)) (m N:Nat) (o:Option Addr) (d:Nat) (r:List SV) (j:List Value) (v:Value) (G':Imm) (Ho:Hp):Prop:=
 ∃ (r':List SV) (k:Int),v=.int .i64 k∧Ho=[(0,o.map (·.block),rV 39 r' j)]∧r'.length=r.length∧OwnA o d r' j∧
  ((∃ rs',wH p gs p.code.length=some rs'∧k=-1∧BGrid G' r' rs'∧EvenB (m+3*p.code.length) N rs')∨(sC p gs=none∧0≤k))
theorem VG (G:Imm) (p:PV) (gs:List (List Int)) (ac ao:Option Addr) (cc co:Nat) (o:Option Addr) (d:Nat) (r:List SV) (j:List Value) (m N:Nat) (hc:Arr G ac p.code) (hob:OwnA o d r j) (hg:BGrid G r (vA p gs)) (hm:EvenB m N (vA p gs)) (hN:N≤1048576)
 (hmm:m+3*p.code.length≤268435456) (hlen:p.code.length≤16384) (hr:(r.length:Int)=p.regs) (hrr:r.length≤128) (hmay:∀ i∈p.code,vO i p.regs=true) :
 Does Tryz.prog 250 [EU,.agg #[.int .i64 p.ins,.int .i64 p.regs,.slice ac p.code.length cc,.slice ao p.outs.length co],.slice o r.length d,.func (.func 252) #[] #[]] G [(0,o.map (·.block),rV 39 r j)] (EY p gs m N o d r j):=by
 refine D0 Tryz.func250 Tryz.ntmps250 fun w=>?_
 refine aM 2 [] ?_
 refine cV 1 fun b1=>?_
 refine cV 2 fun b2=>?_
 refine bR 3 [] ?_
 refine Wc.scope ?_
 refine cJ 13 [2] ?_
 refine qN (ι:=Nat×Imm×List SV×List (List Int)) (fun (i,Gx,r2,rs)=>([(16,.int .i64 (i:Int)),(2,.slice o r2.length d),(15,.int .i64 (↑p.code.length:Int)),(14,.slice ac p.code.length cc),(4,.pointer (some ⟨b1,0,none⟩)),(3,.func (Go.Fn.func 252) #[] #[])],[(0,o.map (·.block),rV 39 r2 j),(2,some b2,.cells #[.int .i64 p.ins,.int .i64 p.regs,.slice ac p.code.length cc,.slice ao p.outs.length co] 26),(1,some b1,.cells #[.func (Go.Fn.func 293) #[] #[],.func (Go.Fn.func 294) #[] #[],.func (Go.Fn.func 296) #[] #[],.func (Go.Fn.func 298) #[] #[],.func (Go.Fn.func 299) #[] #[]] 352)])) (fun (i,Gx,r2,rs)=>Gx) (fun (i,Gx,r2,rs)=>i≤p.code.length∧G.le Gx∧r2.length=r.length∧OwnA o d r2 j∧BGrid Gx r2 rs∧EvenB (m+3*i) N rs∧wH p gs i=some rs) (fun (i,Gx,r2,rs)=>p.code.length - i) ((0,G,r,vA p gs)) (⟨aT _,cD _,rfl,hob,hg,hm,rfl⟩) fun ⟨i,Gx,r2,rs⟩=>fun hk=>?_
 obtain ⟨hi0,hgx,hr2,ho2,hg2,hb2,hrun⟩:=hk
 replace hc:=hc.up hgx
 have hrl:=hg2.1
 rcases aJ i p.code.length with hic | hic
 · have hmem:(p.code[(i:Int).toNat]?.getD default)∈p.code:=by
    rw [aF,aC hic];exact dA hic
   have hmi:=hmay _ hmem
   obtain ⟨m1,m2,m3,m4,m5,m6,m7,m8⟩:=Eb hmi
   have m9:(p.code[(i:Int).toNat]?.getD default).a<rs.length:=rG
   have hbz:(p.code[(i:Int).toNat]?.getD default).op=3∨(p.code[(i:Int).toNat]?.getD default).op=4∨(p.code[(i:Int).toNat]?.getD default).b=0:=by
    unfold vO at hmi
    rw [aB,aB,aQ] at hmi
    exact hmi.1.1.2.2.2.2
   have mb:0≤(p.code[(i:Int).toNat]?.getD default).b∧(p.code[(i:Int).toNat]?.getD default).b<r2.length:=by
    rcases hbz with h | h | h
    · have:=m4 (.inl h);omega
    · have:=m4 (.inr h);omega
    omega
   have mt:0≤(p.code[(i:Int).toNat]?.getD default).to∧(p.code[(i:Int).toNat]?.getD default).to<r2.length:=rG
   have ma:0≤(p.code[(i:Int).toNat]?.getD default).a∧(p.code[(i:Int).toNat]?.getD default).a<r2.length:=rG
   have hmi9:m+3*i≤268435456:=rG
   have hk3:(p.code[(i:Int).toNat]?.getD default).op≠1→(p.code[(i:Int).toNat]?.getD default).op≠2→(p.code[(i:Int).toNat]?.getD default).op≠3→(p.code[(i:Int).toNat]?.getD default).op≠4→cst (p.code[(i:Int).toNat]?.getD default)≠0∧((cst (p.code[(i:Int).toNat]?.getD default)).natAbs:Int)<pb 3:=fun a b c d=>⟨(m6 a b c d).1,iL (m6 a b c d).2 JO⟩
   refine aM 14 [1] ?_
   refine dI (α:=Sl.Instr) T.sl23 ?_
   refine lP T.agg211 ?_
   refine aU 3 rfl T.zero211 fun b3=>?_
   refine aL 9 [3,1,3] ?_
   refine bU 0 rfl (VE _ (p.code[(i:Int).toNat]?.getD default) o d r2 j rs (m+3*i) N ho2 hg2 hb2 hN hmi9 m1 ma mb hk3 m7 m8) fun v1 G1 Ho1 hle1 hp=>?_
   obtain ⟨x,rfl,hx,rfl⟩:=hp
   replace hc:=hc.up hle1
   replace hg2:=hg2.up hle1
   by_cases hd:wJ (p.code[((i:Nat):Int).toNat]?.getD default) rs=none
   · have hd2:¬wJ (p.code[(i:Int).toNat]?.getD default) rs≠none:=fun h=>h hd
     refine aL 11 [] ?_
     refine aN (eF rfl) ?_
     refine aY 16 [1] ?_
     refine pY ?_
     refine pJ [0] ?_
     exact ⟨r2,(i:Int),rfl,rfl,hr2,ho2,.inr ⟨Im hrun hd hic,by omega⟩⟩
   obtain ⟨z,hz⟩:=Option.ne_none_iff_exists'.1 hd
   have hxz:=hx z hz
   have hok:wJ (p.code[(i:Int).toNat]?.getD default) rs≠none:=hd
   refine aL 11 [] ?_
   refine aN (eF rfl) ?_
   refine bR 2 [] ?_
   refine dL (fun hc1=>?_) fun hc1=>?_
   refine bG 13 [] ?_
   refine pY ?_
   refine pJ [0] ?_
   rotate_left
   refine aM 8 [3] ?_
   refine fP (α:=SV) T.sl86 ?_
   refine eT (z:=_) 0 T.size39 rfl rfl rfl rH rG rfl fun ho1=>?_
   refine aL 7 [] ?_
   refine gW (fst:=[]) (cap:=[]) 4 rfl T.fn252 rfl rfl (VF _ _ _) (sR trivial) fun v2 G2 Ho2 hle2 hp=>?_
   obtain ⟨rfl,rfl,rfl⟩:=hp
   refine aY 11 [0] ?_
   rotate_left
   · exact absurd hok hc1
   refine dC 2 rfl (show _=Value.slice o (r2.set (p.code[(i:Int).toNat]?.getD default).to.toNat x).length d by rw [aG]) ?_
   refine cP ((i+1,_,r2.set (p.code[(i:Int).toNat]?.getD default).to.toNat x,rs.set (p.code[(i:Int).toNat]?.getD default).to.toNat z)) ?_ ?_
   · refine ⟨by omega,bA hgx hle1,by rw [aG];exact hr2,by assumption,hg2.set hxz _,?_,Ax (x:=rs) hrun hz⟩
     have hs:=Zr (i:=p.code[(i:Int).toNat]?.getD default) hb2 (by rw [←hrl];exact ma) (fun _=>by rw [←hrl];exact mb) (fun h=>(hk3 (fun e=>by rw [e] at h;omega) (fun e=>by rw [e] at h;omega) (fun e=>by rw [e] at h;omega) (fun e=>by rw [e] at h;omega)).2) hz
     rw [show m+3*(i+1)=m+3*i+3 by omega]
     exact Zs (hb2.mono rG) hs _
   show p.code.length - (i+1)<p.code.length - i
   omega
 have hii:i=p.code.length:=rG
 subst hii
 refine bG 18 [0] ?_
 refine pY ?_
 refine pJ [0] ?_
 exact ⟨r2,-1,rfl,rfl,hr2,ho2,.inl ⟨rs,hrun,rfl,hg2,hb2⟩⟩
end
theorem Fm (G:Imm) (p:PV) (ac ao:Option Addr) (cc co:Nat) (hc:Arr G ac p.code) (ho:Arr G ao p.outs) (h1:p.code.length≤1099511627776) (h2:p.outs.length≤1099511627776) (hR:rP p=true) :
 Does Tryz.prog 124 [.agg #[.int .i64 p.ins,.int .i64 p.regs,.slice ac p.code.length cc,.slice ao p.outs.length co]] G [] (fun v G' Ho=>v=.tuple #[.int .i64 (tO p).1,.int .i64 0]∧G'=G∧Ho=[]):=by
 have hf:(tO p).2=false:=by unfold rP at hR;simpa using hR
 have h:=ON G p ac ao cc co hc ho h1 h2
 rw [hf] at h
 exact h
theorem Zt {x y:Int} (h:sB x y=0):x=y:=by
 unfold sB at h
 split at h
 · omega
 split at h <;> omega
theorem Zu {za zb:List Int} {i:Nat} (h:za.take i=zb.take i) (h1:i<za.length) (h2:i<zb.length) (he:za[i]?.getD 0=zb[i]?.getD 0):za.take (i+1)=zb.take (i+1):=by
 rw [aC h1,aC h2] at he
 rw [eG,eG,h,aC h1,aC h2]
 have e:za[i]=zb[i]:=he
 rw [e]
theorem Rk (m n:Nat):Below m (List.replicate n 0):=fun z hz=>by rw [iY hz];exact vG m
section
attribute [local irreducible] rI pb sB rZ p2 cst tO
theorem VH (G:Imm) (p:PV) (ac ao:Option Addr) (cc co:Nat) (hc:Arr G ac p.code) (ho:Arr G ao p.outs) (h1:p.code.length≤1099511627776) (h2:p.outs.length≤1099511627776) (hR:rP p=true) (n:Int) (hn:n=p.ins) :
 Does Tryz.prog 291 [.agg #[.int .i64 p.ins,.int .i64 p.regs,.slice ac p.code.length cc,.slice ao p.outs.length co],.int .i64 n] G [] (fun v G' Ho=>v=.int .i64 0∧G'=G∧Ho=[]):=by
 refine D0 Tryz.func291 Tryz.ntmps291 fun w=>?_
 refine aM 2 [] ?_
 refine cV 0 fun b1=>?_
 refine aL 6 [0] ?_
 refine cG rfl (Fm _ p _ _ _ _ hc ho h1 h2 hR) ?_
 refine aY 36 [0,0,0] ?_
 refine bT ?_
 exact ⟨rfl,rfl,rfl⟩
theorem VI (G:Imm) (a b:Option Addr) (ca cb:Nat) (la lb:List IV) (za zb:List Int) (ha:Arr G a la) (hb:Arr G b lb) (hA:Bigs G la za) (hB:Bigs G lb zb) (h1:la.length≤1048576) (h2:lb.length≤1048576) (m:Nat) (hm:m≤268435456) (ba:Below m za) (bb:Below m zb) :
 Does Tryz.prog 255 [.slice a la.length ca,.slice b lb.length cb] G [] (fun v G' Ho=>∃ k:Int,v=.int .i64 k∧(k=0↔za=zb)∧G'=G∧Ho=[]):=by
 have e1:=hA.1
 have e2:=hB.1
 refine D0 Tryz.func255 Tryz.ntmps255 fun w=>?_
 by_cases hn:la.length=lb.length
 · refine cJ 41 [0,0] ?_
   refine fS (ι:=Nat) (fun i=>([(22,.int .i64 (i:Int)),(21,.int .i64 (la.length:Int)),(20,.slice a (List.length la) ca),(1,.slice b (List.length lb) cb)],[])) (fun i=>i≤la.length∧za.take i=zb.take i) (fun i=>la.length - i) (0) (⟨aT _,rfl⟩) fun i=>fun hk=>?_
   obtain ⟨hi,hz⟩:=hk
   rcases aJ i la.length with hia | hia
   · have hx9:=hA.at (k:=(i:Int)) rG
     have hy9:=hB.at (k:=(i:Int)) rG
     have hx5:=aP (iC hx9 (ba.at _)) (aP hm (show 268435456≤1073741824 by decide))
     have hy5:=aP (iC hy9 (bb.at _)) (aP hm (show 268435456≤1073741824 by decide))
     refine aM 14 [1] ?_
     refine dI (α:=IV) T.sl39 ?_
     refine lP T.agg89 ?_
     refine aU 0 rfl T.zero89 fun b1=>?_
     refine bR 5 [0] ?_
     refine dT [0] [] T.mixed [[0,0],[1],[2]] ?_
     refine iM (α:=IV) 3 T.sl39 ?_
     refine oI 4 T.agg89 ?_
     refine fE 5 ?_
     refine cG rfl (c57 _ _ _ _ _ hx9 hy9 hx5 hy5) ?_
     refine eE ?_
     refine eD [[6]] ?_
     refine dY ?_
     refine oV 7 [] ?_
     refine dL (fun hc1=>?_) fun hc1=>?_
     refine bG 12 [] ?_
     refine bT ?_
     rotate_left
     refine bG 7 [] ?_
     rotate_left
     · exact ⟨_,rfl,⟨fun h=>absurd h hc1,fun h=>absurd (zZ (by rw [h])) hc1⟩,rfl,rfl⟩
     refine cP (i+1) ?_ ?_
     · exact ⟨by omega,Zu hz rG rG (Zt (bD.1 hc1))⟩
     omega
   have hii:i=la.length:=rG
   subst hii
   refine bG 18 [0] ?_
   refine bT ?_
   refine ⟨0,rfl,⟨fun _=>?_,fun _=>rfl⟩,rfl,rfl⟩
   rw [cZ rG,cZ rG] at hz
   exact hz
 have hne:za≠zb:=fun h=>hn (by rw [e1,e2,h])
 by_cases hlt:la.length<lb.length
 · refine bG 26 [1] ?_
   refine bT ?_
   exact ⟨-1,rfl,⟨fun h=>absurd h rW,fun h=>absurd h hne⟩,rfl,rfl⟩
 refine bG 37 [0,1] ?_
 refine bT ?_
 exact ⟨1,rfl,⟨fun h=>absurd h rW,fun h=>absurd h hne⟩,rfl,rfl⟩
theorem VJ (G:Imm) (a b:Option Addr) (ca cb:Nat) (la lb:List IV) (za zb:List Int) (ha:Arr G a la) (hb:Arr G b lb) (hA:Bigs G la za) (hB:Bigs G lb zb) (h1:la.length≤1048576) (h2:lb.length≤1048576) (m:Nat) (hm:m≤268435456) (ba:Below m za) (bb:Below m zb) :
 Does Tryz.prog 213 [.slice a la.length ca,.slice b lb.length cb] G [] (fun v G' Ho=>v=.bool (decide (za=zb))∧G'=G∧Ho=[]):=by
 refine D0 Tryz.func213 Tryz.ntmps213 fun w=>?_
 refine aM 9 [] ?_
 refine bU 0 rfl (VI G _ _ _ _ _ _ za zb ha hb hA hB h1 h2 m hm ba bb) fun v1 G1 Ho1 hle1 hp=>?_
 obtain ⟨k1,rfl,hk1,rfl,rfl⟩:=hp
 refine aY 5 [] ?_
 refine bT ?_
 exact ⟨by rw [iH.2 hk1],rfl,rfl⟩
end
theorem Mg {G:Imm} {r:List SV} {rs:List (List Int)} {k:Nat} {s:SV} (h:∀ q:Nat,q<k→BRow G (r[q]?.getD default) (rs[q]?.getD [])) (hk:k<r.length) (hs:BRow G s (rs[k]?.getD [])):∀ q:Nat,q<k+1→BRow G ((r.set k s)[q]?.getD default) (rs[q]?.getD []):=fun q hq=>by
 rw [eH]
 by_cases he:k=q
 · subst he;rw [aR rfl,aR hk];exact hs
 rw [aK he];exact h q rG
theorem Rl {G G':Imm} {r:List SV} {rs:List (List Int)} {k:Nat} (h:∀ q:Nat,q<k→BRow G (r[q]?.getD default) (rs[q]?.getD [])) (hl:G.le G'):∀ q:Nat,q<k→BRow G' (r[q]?.getD default) (rs[q]?.getD []):=fun q hq=>(h q hq).up hl
section
attribute [local irreducible] rI pb sB rZ p2 cst wJ
theorem VK (G:Imm) (p:PV) (ac ao ga:Option Addr) (cc co gc:Nat) (gl:List SV) (gs:List (List Int)) (m N:Nat) (hc:Arr G ac p.code) (ho:Arr G ao p.outs) (hga:Arr G ga gl) (hgg:BGrid G gl gs) (hev:EvenB m N gs) (hN:N≤4096) (hR:rP p=true) (hgi:(gl.length:Int)=p.ins) :
 Does Tryz.prog 249 [.agg #[.int .i64 p.ins,.int .i64 p.regs,.slice ac p.code.length cc,.slice ao p.outs.length co],.slice ga gl.length gc] G [] (fun v G' Ho=>∃ b r,v=.tuple #[.slice (some ⟨b,0,none⟩) r.length p.regs.toNat,.int .i64 0]∧BGrid G' r (vA p gs)∧r.length=p.regs.toNat∧Ho=[(1,some b,rV 39 r [])]):=by
 obtain ⟨f1,f2,f3,f4,f5,f6,f7,f8⟩:=uZ hR
 have h1:p.code.length≤1099511627776:=rG
 have h2:p.outs.length≤1099511627776:=rG
 have hgl:=hgg.1
 obtain ⟨R,hRR⟩:∃ R:Nat,p.regs=(R:Int):=⟨p.regs.toNat,by omega⟩
 refine D0 Tryz.func249 Tryz.ntmps249 fun w=>?_
 have hM:p.regs.toNat=R:=rG
 have hrl0:=Ad p gs
 rw [hM] at hrl0
 have hgl0:0<gl.length:=rG
 obtain ⟨h0L,h0B⟩:=hev.at (k:=0) rG
 obtain ⟨l0,e1,e2,e3,e4⟩:=hgg.2 0 rG
 have h0n:(gl[(0:Int).toNat]?.getD default).n=N:=by
  show (gl[0]?.getD default).n=N
  rw [←e1,e4.1,h0L]
 refine aM 2 [] ?_
 refine cV 0 fun b1=>?_
 refine aL 10 [0] ?_
 refine cG rfl (VH _ p _ _ _ _ rH rH h1 h2 hR _ hgi) ?_
 refine aL 15 [0] ?_
 refine dI (α:=SV) T.sl86 ?_
 refine lH rfl (eS T.one39 rfl (kZ rH rG 0 rfl rfl)) ?_
 refine aL 8 [0] ?_
 refine gT (α:=SV) 1 rfl T.sl86 T.el39 rfl rfl rG rG fun b2=>?_
 refine bR 12 [] ?_
 rw [hM]
 have hown:∀ r:List SV,r.length=R→OwnA (some ⟨b2,0,none⟩) R r []:=fun r hr=>.inr ⟨b2,rfl,by rw [hr];rfl,by omega,by simp only [maxLen];omega⟩
 refine iP 8 rfl (show _=Value.slice (some ⟨b2,0,none⟩) (List.replicate R (default:SV)).length R by rw [aE]) ?_
 refine iP 7 rfl (show _=Value.int .i64 (N:Int) by rw [h0n]) ?_
 refine iP 25 rfl (show _=Value.int .i64 (R:Int) by rw [aE]) ?_
 refine qN (ι:=Nat×Imm×List SV) (fun (k,Gx,r)=>([(26,.int .i64 (k:Int)),(8,.slice (some ⟨b2,0,none⟩) r.length R),(25,.int .i64 (↑R:Int)),(7,.int .i64 (↑N:Int)),(1,.slice ga (List.length gl) gc)],[(1,some b2,rV 39 r []),(0,some b1,.cells #[.int .i64 p.ins,.int .i64 p.regs,.slice ac p.code.length cc,.slice ao p.outs.length co] 26)])) (fun (k,Gx,r)=>Gx) (fun (k,Gx,r)=>k≤R∧G.le Gx∧r.length=R∧∀ q:Nat,q<k→BRow Gx (r[q]?.getD default) ((vA p gs)[q]?.getD [])) (fun (k,Gx,r)=>R - k) ((0,G,List.replicate R (default:SV))) (⟨aT _,cD _,aE,fun q hq=>by omega⟩) fun ⟨k,Gx,r⟩=>fun hk=>?_
 obtain ⟨hk0,hgx,hrR,hrow⟩:=hk
 replace hga:=hga.up hgx
 replace hgg:=hgg.up hgx
 have hor:=hown r hrR
 rcases aJ k R with hkR | hkR
 · by_cases hkg:k<gl.length
   · have hkn:(gl[(k:Int).toNat]?.getD default).n=N:=by
      obtain ⟨l1,a1,a2,a3,a4⟩:=hgg.2 k hkg
      rw [aF,←a1,a4.1]
      exact (hev.at (k:=k) rG).1
     refine aM 22 [1] ?_
     refine gT (α:=IV) 2 rfl T.sl39 T.el89 rfl rfl rG rG fun b3=>?_
     refine fP (α:=SV) T.sl86 ?_
     refine jO 32 rfl (show _=Value.slice (some ⟨b3,0,none⟩) N N by rw [aE];rfl) ?_
     refine nO 2 (rV 89 (List.replicate N (default:IV)) []) rfl rfl ?_
     refine eT (z:=(⟨some ⟨b3,0,none⟩,N,N⟩:SV)) (m:=(k:Int)) 1 T.size39 rfl rfl rfl hor rG rfl fun ho1=>?_
     have hrk:((r.set k (⟨some ⟨b3,0,none⟩,N,N⟩:SV))[k]?.getD default)=⟨some ⟨b3,0,none⟩,N,N⟩:=by rw [eH,aR rfl,aR (by omega)];rfl
     have ho3:OwnA (some ⟨b3,0,none⟩) N (List.replicate N (default:IV)) []:=.inr ⟨b3,rfl,by rw [aE];rfl,by rw [aE];exact aH _,by simp only [maxLen];omega⟩
     rw [aF] at ho1 ⊢
     obtain ⟨r9,hr9⟩:∃ r9,r9=r.set k (⟨some ⟨b3,0,none⟩,N,N⟩:SV):=⟨_,rfl⟩
     have hr9l:r9.length=R:=by rw [hr9,aG];exact hrR
     rw [←hr9] at ho1 hrk ⊢
     refine aL 16 [1] ?_
     refine dI (α:=SV) T.sl86 ?_
     refine fJ 0 T.one39 ?_
     refine aA 4 [] ?_
     refine jH 45 ?_
     refine bR 10 [0] ?_
     refine dT [0,2,1] [(1,8),(2,8)] T.mixed [[0],[1]] ?_
     refine kB (α:=SV) 2 T.sl86 ?_
     refine gR 3 [0,1] rfl (Ca 1 0 T.one39 rfl rfl rH rG rfl rfl) ?_
     refine eD [[4],[5]] ?_
     refine iM (α:=SV) 6 T.sl86 ?_
     refine nW 7 [0] 0 T.one39 ?_
     refine fE 8 ?_
     obtain ⟨l1,a1,a2,a3,a4⟩:=hgg.2 k hkg
     have hl1:l1.length=N:=by rw [a1];exact hkn
     refine jO 52 rfl (show _=Value.slice (some ⟨b3,0,none⟩) (List.replicate N (default:IV)).length N by rw [aF,hrk,aE]) ?_
     refine jO 56 rfl (show _=Value.slice (gl[k]?.getD default).a l1.length (gl[k]?.getD default).c by rw [a1];rfl) ?_
     refine Ik (α:=IV) 2 rfl T.sl39 rfl rfl rfl (oX a3) (by rw [hl1,aE];exact aH _) ?_
     refine nO 2 (rV 89 l1 []) rfl (by rw [hl1,List.drop_replicate,jK,List.replicate_zero,fN]) ?_
     have ho4:OwnA (some ⟨b3,0,none⟩) N l1 []:=.inr ⟨b3,rfl,by rw [hl1];rfl,by rw [hl1];exact aH _,by simp only [maxLen];omega⟩
     refine fO ?_
     refine iG 6 [] ?_
     refine dW 2 rfl ho4 fun G1 hle1 hA1=>?_
     refine dC 8 rfl (show _=Value.slice (some ⟨b2,0,none⟩) r9.length R by rw [hr9l,hrR]) ?_
     refine cP ((k+1,G1,r9)) ?_ ?_
     · have hs9:BRow G1 ⟨some ⟨b3,0,none⟩,N,N⟩ ((vA p gs)[k]?.getD []):=by
        rw [Cn rG,aR (by omega)]
        exact ⟨l1,hl1,aH _,hA1,a4.up hle1⟩
       refine ⟨by omega,bA hgx hle1,hr9l,fun q hq=>?_⟩
       rw [hr9]
       exact Mg (Rl hrow hle1) rG hs9 q hq
     show R - (k+1)<R - k
     omega
   refine aM 22 [1] ?_
   refine gT (α:=IV) 2 rfl T.sl39 T.el89 rfl rfl rG rG fun b3=>?_
   refine fP (α:=SV) T.sl86 ?_
   refine jO 32 rfl (show _=Value.slice (some ⟨b3,0,none⟩) N N by rw [aE];rfl) ?_
   refine nO 2 (rV 89 (List.replicate N (default:IV)) []) rfl rfl ?_
   refine eT (z:=(⟨some ⟨b3,0,none⟩,N,N⟩:SV)) (m:=(k:Int)) 1 T.size39 rfl rfl rfl hor rG rfl fun ho1=>?_
   have hrk:((r.set k (⟨some ⟨b3,0,none⟩,N,N⟩:SV))[k]?.getD default)=⟨some ⟨b3,0,none⟩,N,N⟩:=by rw [eH,aR rfl,aR (by omega)];rfl
   have ho3:OwnA (some ⟨b3,0,none⟩) N (List.replicate N (default:IV)) []:=.inr ⟨b3,rfl,by rw [aE];rfl,by rw [aE];exact aH _,by simp only [maxLen];omega⟩
   rw [aF] at ho1 ⊢
   obtain ⟨r9,hr9⟩:∃ r9,r9=r.set k (⟨some ⟨b3,0,none⟩,N,N⟩:SV):=⟨_,rfl⟩
   have hr9l:r9.length=R:=by rw [hr9,aG];exact hrR
   rw [←hr9] at ho1 hrk ⊢
   refine aY 18 [0] ?_
   refine dW 2 rfl ho3 fun G1 hle1 hA1=>?_
   refine dC 8 rfl (show _=Value.slice (some ⟨b2,0,none⟩) r9.length R by rw [hr9l,hrR]) ?_
   refine cP ((k+1,G1,r9)) ?_ ?_
   · have hs9:BRow G1 ⟨some ⟨b3,0,none⟩,N,N⟩ ((vA p gs)[k]?.getD []):=by
      rw [Cn rG,aK (by omega),h0L]
      exact ⟨_,aE,aH _,hA1,qH _ _⟩
     refine ⟨by omega,bA hgx hle1,hr9l,fun q hq=>?_⟩
     rw [hr9]
     exact Mg (Rl hrow hle1) rG hs9 q hq
   show R - (k+1)<R - k
   omega
 refine bG 20 [0] ?_
 refine iO (.inr rfl) (Ho:=[(1,some b2,rV 39 r [])]) rfl (.tmp rfl) (.tmp rfl) ⟨rfl,trivial⟩ ?_
 exact ⟨b2,r,rfl,⟨by omega,fun i hi=>hrow i rG⟩,hrR,rfl⟩
end
theorem Zv {G:Imm} {q:List SV} {os:List (List Int)} {i:Nat} {s:SV} (h:∀ t:Nat,t<i→BRow G (q[t]?.getD default) (os[t]?.getD [])) (hq:q.length=i) (hs:BRow G s (os[i]?.getD [])):∀ t:Nat,t<i+1→BRow G ((q++[s])[t]?.getD default) (os[t]?.getD []):=fun t ht=>by
 rcases aJ t i with h1 | h1
 · rw [aZ rG];exact h t h1
 have e:t=i:=rG
 subst e
 rw [cH rG,hq,jK];exact hs
theorem JP {p:PV} {rs:List (List Int)} {i:Nat} (hi:i<p.outs.length):(tT p rs)[i]?.getD []=rs[(p.outs[((i:Nat):Int).toNat]?.getD default).toNat]?.getD []:=by
 unfold tT
 rw [cF,aF,aC hi];rfl
section
attribute [local irreducible] rI pb sB rZ p2 cst wJ
theorem VL (G:Imm) (a:Option Addr) (c:Nat) (l:List IV) (ha:Arr G a l) (hl:l.length≤1048576) :
 Does Tryz.prog 222 [.slice a l.length c] G [] (fun v G' Ho=>∃ s d,v=.slice s l.length d∧Arr G' s l∧l.length≤d∧Ho=[]):=by
 by_cases hne:a=none
 · have h0:l=[]:=by
    rcases ha.2 with h | ⟨b,o,h,_⟩
    · exact bW h
    rw [hne] at h;cases h
   subst hne
   subst h0
   have hyes:(none:Option Addr)=none:=rfl
   refine D0 Tryz.func222 Tryz.ntmps222 fun w=>?_
   refine aM 9 [] ?_
   refine aN (gH T.sl39 rfl rfl) ?_
   refine aY 10 [1] ?_
   refine bT ?_
   exact ⟨none,0,rfl,oK _,aH _,rfl⟩
 refine D0 Tryz.func222 Tryz.ntmps222 fun w=>?_
 refine aM 9 [] ?_
 refine aN (gH T.sl39 rfl rfl) ?_
 refine aL 7 [0] ?_
 refine pS 0 rfl T.sl39 fun b1=>?_
 refine aA 1 [] ?_
 refine nO 0 (rV 89 ([]:List IV) []) rfl rfl ?_
 refine oN (α:=IV) (xs:=[]) (ys:=l) (junk:=[]) 0 rfl T.sl39 T.el89 rfl rfl rfl (.inr ⟨b1,rfl,rfl,aH _,aT _⟩) (oX ha) (by rw [cT];omega) AZ fun a1 c1 junk1 ho1=>?_
 rw [fM] at ho1 ⊢
 have hc1:=ho1.le
 refine aY 4 [] ?_
 refine dW 0 rfl ho1 fun G1 hle1 hA1=>?_
 refine bT ?_
 exact ⟨a1,c1,rfl,hA1,hc1,rfl⟩
def EZ (p:PV) (gs:List (List Int)) (m N:Nat) (v:Value) (G':Imm) (Ho:Hp):Prop:=
 Ho=[]∧((∃ os b r c',sC p gs=some os∧v=.tuple #[.slice b (List.length r) c',.int .i64 0,.int .i64 0]∧Arr G' b r∧List.length r≤c'∧BGrid G' r os∧EvenB (m+3*p.code.length) N os)∨(sC p gs=none∧∃ k,v=.tuple #[.slice none 0 0,.int .i64 k,.int .i64 20]))
theorem PG (G:Imm) (p:PV) (ac ao ga:Option Addr) (cc co gc:Nat) (gl:List SV) (gs:List (List Int)) (m N:Nat) (hc:Arr G ac p.code) (ho:Arr G ao p.outs) (hga:Arr G ga gl) (hgg:BGrid G gl gs) (hev:EvenB m N gs) (hmm:m≤1048576) (hN:N≤4096) (hR:rP p=true) (hgi:(gl.length:Int)=p.ins) :
 Does Tryz.prog 208 [.agg #[.int .i64 p.ins,.int .i64 p.regs,.slice ac p.code.length cc,.slice ao p.outs.length co],.slice ga gl.length gc] G [] (EZ p gs m N):=by
 obtain ⟨f1,f2,f3,f4,f5,f6,f7,f8⟩:=uZ hR
 obtain ⟨R,hRR⟩:∃ R:Nat,p.regs=(R:Int):=⟨p.regs.toNat,by omega⟩
 refine D0 Tryz.func208 Tryz.ntmps208 fun w=>?_
 refine fU 0 (rV 39 ([]:List SV) []) ?_
 refine aM 2 [] ?_
 refine cV 1 fun b1=>?_
 refine aL 9 [1] ?_
 refine bU 2 rfl (VK _ p ac ao ga cc co gc gl gs m N hc ho hga hgg hev hN hR hgi) fun v1 G1 Ho1 hle1 hp=>?_
 obtain ⟨b9,r0,rfl,hg0,hr0,rfl⟩:=hp
 replace hc:=hc.up hle1
 replace ho:=ho.up hle1
 have hrl0:=Ad p gs
 have hm0:EvenB m N (vA p gs):=fun zs hz=>by
  unfold vA at hz
  obtain ⟨k,hk,rfl⟩:=dP.1 hz
  have hN9:=(hev.at (k:=0) (by have:=hgg.1;omega)).1
  split
  · exact hev.at (k:=k) rG
  rw [hN9]
  exact ⟨aE,Rk m _⟩
 refine bR 19 [0] ?_
 refine dT [0,1,3] [(3,3),(1,3),(0,3)] T.mixed [[1,1],[2]] ?_
 refine fE 0 ?_
 refine cG rfl (VD _) ?_
 refine bO 3 ?_
 refine bU 3 rfl (VG _ p gs ac ao cc co (some ⟨b9,0,none⟩) p.regs.toNat r0 [] m N hc (.inr ⟨b9,rfl,by rw [hr0];rfl,by omega,by simp only [maxLen];omega⟩) hg0 hm0 rG rG f4 rG rG f8) fun v9 G9 Ho9 hle9 hp=>?_
 obtain ⟨r9,k9,rfl,rfl,hr9,ho9,hcase⟩:=hp
 replace ho:=ho.up hle9
 rcases hcase with ⟨rs,hrs,rfl,hg9,he9⟩ | ⟨hno,hk9⟩
 · have hrs1:=hg9.1
   have lr9:r9.length=R:=rG
   have hfol:sC p gs=some (tT p rs):=by unfold sC;rw [hrs];rfl
   refine eE ?_
   refine eD [[4]] ?_
   refine dY ?_
   refine oV 25 [0,1] ?_
   refine iP 7 rfl (show _=Value.slice (some ⟨b9,0,none⟩) r9.length p.regs.toNat by rw [hr9]) ?_
   refine jC (ι:=Nat×Imm×List SV×(Option Addr×Nat×List Value)) (fun (i,Gx,q,(o,d,j))=>([(32,.int .i64 (i:Int)),(10,.slice o q.length d),(7,.slice (some (Addr.mk b9 0 none)) (List.length r9) (Int.toNat p.regs)),(31,.int .i64 (↑p.outs.length:Int)),(30,.slice ao p.outs.length co),(6,.int .i64 0),(5,.int .i64 0),(4,.slice none 0 0)],[(0,o.map (·.block),rV 39 q j),(3,some b9,rV 39 r9 []),(1,some b1,.cells #[.int .i64 p.ins,.int .i64 p.regs,.slice ac p.code.length cc,.slice ao p.outs.length co] 26)])) (fun (i,Gx,q,(o,d,j))=>Gx) (fun (i,Gx,q,(o,d,j))=>i≤p.outs.length∧G9.le Gx∧q.length=i∧(∀ t:Nat,t<i→BRow Gx (q[t]?.getD default) ((tT p rs)[t]?.getD []))∧OwnA o d q j) (fun (i,Gx,q,(o,d,j))=>p.outs.length - i) ((0,G9,[],(none,0,[]))) (⟨aT _,cD _,rfl,fun t ht=>by omega,fF⟩) rfl ⟨rfl,rfl,rfl,rfl,rfl,rfl,rfl,rfl,trivial⟩ ⟨rfl,rfl,rfl,trivial⟩ fun ⟨i,Gx,q,(o,d,j)⟩=>fun hk=>?_
   obtain ⟨hi0,hgx,hqi,hbq,hoq⟩:=hk
   replace ho:=ho.up hgx
   rcases aJ i p.outs.length with hio | hio
   · have hmem:p.outs[(i:Int).toNat]?.getD default∈p.outs:=by
      rw [aF,aC hio];exact dA hio
     have hrg:=f7 _ hmem
     obtain ⟨l1,a1,a2,a3,a4⟩:=hg9.2 (p.outs[(i:Int).toNat]?.getD default).toNat rG
     have hN1:=(he9.at (k:=(p.outs[(i:Int).toNat]?.getD default).toNat) rG).1
     have hl1:l1.length=N:=by rw [a4.1,hN1]
     refine aM 13 [1] ?_
     refine dI (α:=Int) T.sl24 ?_
     refine fJ 0 T.one3 ?_
     refine aL 7 [] ?_
     refine fP (α:=SV) T.sl86 ?_
     refine mZ 3 0 T.one39 ?_
     refine jO 40 rfl (show _=Value.slice (r9[(p.outs[(i:Int).toNat]?.getD default).toNat]?.getD default).a l1.length (r9[(p.outs[(i:Int).toNat]?.getD default).toNat]?.getD default).c by rw [a1]) ?_
     refine bU 20 rfl (VL _ _ _ l1 (a3.up hgx) rG) fun v1 G2 Ho1 hle2 hp=>?_
     obtain ⟨s2,d2,rfl,hA2,hd2,rfl⟩:=hp
     refine fC (α:=SV) 4 [⟨_,_,_⟩] rfl T.sl86 T.el39 rfl rfl rfl rfl rfl fun b2=>?_
     refine jW (α:=SV) 0 T.sl86 T.el39 (fZ 4 rfl) fun a1 c1 junk1 ho1=>?_
     refine aY 8 [] ?_
     refine cP ((i+1,G2,q++[⟨s2,l1.length,d2⟩],(a1,c1,junk1))) ?_ ?_
     · refine ⟨by omega,bA hgx hle2,by rw [aI,hqi];rfl,Zv (fun t ht=>(hbq t ht).up hle2) hqi ?_,ho1⟩
       rw [JP hio]
       exact ⟨l1,rfl,hd2,hA2,a4.up (bA hgx hle2)⟩
     show p.outs.length - (i+1)<p.outs.length - i
     omega
   have hii:i=p.outs.length:=rG
   subst hii
   have hqd:=hoq.le
   refine bG 21 [0] ?_
   refine dW 0 rfl hoq fun G8 hle8 hA=>?_
   refine pZ (.inr rfl) (Ho:=[]) rfl (.tmp rfl) (.tmp rfl) (.tmp rfl) trivial ?_
   have hol:(tT p rs).length=p.outs.length:=by unfold tT;rw [bS]
   refine ⟨rfl,.inl ⟨tT p rs,o,q,d,hfol,rfl,hA,hqd,⟨by omega,fun t ht=>(hbq t rG).up hle8⟩,fun zs hz=>?_⟩⟩
   unfold tT at hz
   obtain ⟨x,hx,rfl⟩:=dP.1 hz
   have hx7:=f7 x hx
   exact he9.at (k:=x.toNat) rG
 refine eE ?_
 refine eD [[4]] ?_
 refine dY ?_
 refine iG 18 [1] ?_
 refine pZ (.inr rfl) (Ho:=[]) rfl (.tmp rfl) (.tmp rfl) (.tmp rfl) trivial ?_
 exact ⟨rfl,.inr ⟨hno,k9,rfl⟩⟩
end
section
attribute [local irreducible] rI pb sB rZ p2 cst wJ
theorem VM (G:Imm) (n:Nat) (hn:n≤4096) :
 Does Tryz.prog 254 [.int .i64 (n:Int)] G [] (fun v G' Ho=>∃ b,v=.tuple #[.slice (some ⟨b,0,none⟩) (List.replicate n (default:IV)).length n,.int .i64 0]∧G'=G∧Ho=[(0,some b,rV 89 (List.replicate n (default:IV)) [])]):=by
 refine D0 Tryz.func254 Tryz.ntmps254 fun w=>?_
 refine aM 12 [] ?_
 refine jH 6 ?_
 refine aL 13 [0] ?_
 refine gT (α:=IV) 0 rfl T.sl39 T.el89 rfl rfl rG rG fun b1=>?_
 refine aY 5 [] ?_
 refine iO (.inr rfl) (Ho:=[(0,some b1,rV 89 (List.replicate n (default:IV)) [])]) rfl (.tmp rfl) (.tmp rfl) ⟨rfl,trivial⟩ ?_
 exact ⟨b1,by simp,rfl,rfl⟩
theorem VN (G:Imm) (n j:Nat) (hn:n≤4096) (hj:j<n) :
 Does Tryz.prog 212 [.int .i64 (n:Int),.int .i64 (j:Int)] G [] (fun v G' Ho=>∃ s l d,v=.tuple #[.slice s (List.length l) d,.int .i64 0]∧Arr G' s l∧List.length l=n∧n≤d∧Bigs G' l (tC n j)∧Ho=[]):=by
 refine D0 Tryz.func212 Tryz.ntmps212 fun w=>?_
 refine aM 9 [] ?_
 refine bU 0 rfl (VM _ n hn) fun v1 G1 Ho1 hle1 hp=>?_
 obtain ⟨b1,rfl,rfl,rfl⟩:=hp
 have ho3:OwnA (some ⟨b1,0,none⟩) n (List.replicate n (default:IV)) []:=.inr ⟨b1,rfl,by rw [aE];rfl,by rw [aE];exact aH _,by simp only [maxLen];omega⟩
 obtain ⟨r0,hr0⟩:∃ r0,r0=List.replicate n (default:IV):=⟨_,rfl⟩
 have lr0:r0.length=n:=by rw [hr0,aE]
 rw [←hr0] at ho3 ⊢
 refine aL 22 [0] ?_
 refine jH 20 ?_
 refine aL 18 [0] ?_
 refine bU 1 rfl (HH _ _ rW) fun v2 G2 Ho2 hle2 hp=>?_
 obtain ⟨ri2,rfl,hri2,rfl⟩:=hp
 refine fP (α:=IV) T.sl39 ?_
 refine eT (z:=ri2) (m:=(j:Int)) 0 T.size89 rfl rfl rfl ho3 rG rfl fun ho1=>?_
 have hB:Bigs G2 (r0.set j ri2) (tC n j):=by
  rw [hr0];unfold tC
  exact (qH G2 n).set j hri2
 have hl9:(r0.set j ri2).length=n:=by rw [aG];exact lr0
 rw [aF] at ho1 ⊢
 obtain ⟨r9,hr9⟩:∃ r9,r9=r0.set j ri2:=⟨_,rfl⟩
 rw [←hr9] at ho1 hB hl9 ⊢
 refine aY 10 [] ?_
 refine dW 0 rfl ho1 fun G3 hle3 hA3=>?_
 refine dC 4 rfl (show _=Value.slice (some ⟨b1,0,none⟩) r9.length n by rw [hl9,lr0]) ?_
 refine eJ ?_
 exact ⟨_,r9,n,rfl,hA3,hl9,aH _,hB.up hle3,rfl⟩
end
theorem Of:pb 2=pw 4:=by unfold pb pw;decide
theorem Iu {N:Nat} {gs:List (List Int)} (h:Even 4 N gs):EvenB 2 N gs:=fun zs hz=>⟨(h zs hz).1,fun z hz'=>by rw [Of];exact (h zs hz).2 z hz'⟩
theorem Rm (n j:Nat):Below 2 (tC n j):=fun z hz=>by
 rw [Of];exact Bc n j 4 rG z hz
theorem FA {os:List (List Int)} {n:Nat} (hl:os.length=n):(os=(List.range n).map (tC n))↔∀ t:Nat,t<n→os[t]?.getD []=tC n t:=by
 constructor
 · intro h t ht
   rw [h,cF,fD ht];rfl
 intro h
 refine fG fun i=>?_
 rcases aJ i n with h1 | h1
 · have:=h i h1
   rw [aC rG] at this ⊢
   rw [cF,fD h1]
   show some os[i]=some (tC n i)
   rw [←this];rfl
 rw [cM rG,cM (by rw [bS,gY];omega)]
section
attribute [local irreducible] rI pb pw sB rZ p2 cst wJ sC tF rP tC
theorem FB (G:Imm) (p:PV) (ac ao:Option Addr) (cc co:Nat) (hc:Arr G ac p.code) (ho:Arr G ao p.outs) (h1:p.code.length≤1099511627776) (h2:p.outs.length≤1099511627776) (hP:¬rP p=true) :
 Does Tryz.prog 124 [.agg #[.int .i64 p.ins,.int .i64 p.regs,.slice ac p.code.length cc,.slice ao p.outs.length co]] G [] (fun v G' Ho=>v=.tuple #[.int .i64 (tO p).1,.int .i64 80]∧G'=G∧Ho=[]):=by
 have hf:(tO p).2=true:=by unfold rP at hP;simpa using hP
 have h:=ON G p ac ao cc co hc ho h1 h2
 rw [hf] at h
 exact h
theorem PI (G:Imm) (p:PV) (ac ao:Option Addr) (cc co:Nat) (a:Option Addr) (c:Nat) (l:List R2) (hc:Arr G ac p.code) (ho:Arr G ao p.outs) (hcl:p.code.length≤1099511627776) (hol:p.outs.length≤1099511627776) (ha:Arr G a l) (hac:l.length≤c) (hl:l.length≤1048576) (hR:uM l) (hP:rP p=true) :
 Does Tryz.prog 172 [.agg #[.int .i64 p.ins,.int .i64 p.regs,.slice ac p.code.length cc,.slice ao p.outs.length co],.slice a l.length c] G [] (fun v G' Ho=>v=.tuple #[.bool (decide (tJ p l)),.int .i64 0]∧Ho=[]):=by
 have hl1:=hR.1
 have hl15:=hR.2.1
 have hev:=Iu (Ip hl15 (fun i hi=>(hR.2.2.1 i hi).1))
 have hgl:=Bb l
 obtain ⟨f1,f2,f3,f4,f5,f6,f7,f8⟩:=uZ hP
 refine D0 Tryz.func172 Tryz.ntmps172 fun w=>?_
 by_cases hI:p.ins=l.length
 · by_cases hO:p.outs.length=l.length
   · refine aM 2 [] ?_
     refine cV 0 fun b1=>?_
     refine aL 7 [] ?_
     refine bU 1 rfl (EM _ a c l rH rG hac hR hl15 hR.2.2.1) fun v1 G1 Ho1 hle1 hp=>?_
     obtain ⟨gs1,gr1,gc1,rfl,hga1,hgb1,hgc1,rfl⟩:=hp
     replace hc:=hc.up hle1
     replace ho:=ho.up hle1
     replace ha:=ha.up hle1
     refine aL 21 [0,0] ?_
     refine cG rfl (Fm _ p _ _ _ _ rH rH hcl hol hP) ?_
     refine aL 24 [0,0] ?_
     refine jH 35 ?_
     refine aL 22 [0,0,0] ?_
     refine bU 20 rfl (PG _ p ac ao gs1 cc co gc1 gr1 (tF l) 2 l.length rH rH rH rH hev rG rG hP (by rw [hgb1.1,hgl,hI])) fun v9 G9 Ho9 hle9 hp=>?_
     obtain ⟨rfl,⟨os,ob,orr,oc,hfo,rfl,hoA,hol9,hoB,hoE⟩ | ⟨hno,k9,rfl⟩⟩:=hp
     · have hos:=vT hfo
       have hoL:=hoB.1
       replace ha:=ha.up hle9
       have hiff:tJ p l↔∀ t:Nat,t<l.length→os[t]?.getD []=tC l.length t:=by
        rw [←FA rG]
        unfold tJ
        rw [hfo]
        exact ⟨fun h=>lC h.2.2.2,fun h=>⟨hP,hI,hO,by rw [h]⟩⟩
       refine bR 28 [0] ?_
       refine qN (ι:=Nat×Imm) (fun (i,Gx)=>([(54,.int .i64 (i:Int)),(53,.int .i64 (orr.length:Int)),(52,.slice ob (List.length orr) oc),(1,.slice a (List.length l) c)],[(0,some b1,.cells #[.int .i64 p.ins,.int .i64 p.regs,.slice ac p.code.length cc,.slice ao p.outs.length co] 26)])) (fun (i,Gx)=>Gx) (fun (i,Gx)=>i≤l.length∧G9.le Gx∧∀ t:Nat,t<i→os[t]?.getD []=tC l.length t) (fun (i,Gx)=>l.length - i) ((0,G9)) (⟨aT _,cD _,fun t ht=>by omega⟩) fun ⟨i,Gx⟩=>fun hk=>?_
       obtain ⟨hi0,hgx,hall⟩:=hk
       replace hoA:=hoA.up hgx
       rcases aJ i l.length with hil | hil
       · obtain ⟨l1,a1,a2,a3,a4⟩:=(hoB.up hgx).2 i rG
         have hE1:=hoE.at (k:=i) rG
         refine aM 14 [1] ?_
         refine dI (α:=SV) T.sl86 ?_
         refine fJ 0 T.one39 ?_
         refine aL 9 [] ?_
         refine bU 20 rfl (VN _ l.length i rG hil) fun v1 G2 Ho1 hle2 hp=>?_
         obtain ⟨s2,l2,d2,rfl,hA2,hl2,hd2,hB2,rfl⟩:=hp
         refine aL 11 [] ?_
         refine jO 66 rfl (show _=Value.slice (orr[i]?.getD default).a l1.length (orr[i]?.getD default).c by rw [a1];rfl) ?_
         refine bU 20 rfl (VJ _ _ _ _ _ l1 l2 (os[i]?.getD []) (tC l.length i) (a3.up hle2) hA2 (a4.up hle2) hB2 (by rw [a4.1,hE1.1];omega) rG (2+3*p.code.length) rG hE1.2 ((Rm _ _).mono rG)) fun v1 G3 Ho1 hle3 hp=>?_
         obtain ⟨rfl,rfl,rfl⟩:=hp
         by_cases he:os[i]?.getD []=tC l.length i
         · have he2:¬¬(os[i]?.getD []=tC l.length i):=fun h=>h he
           refine aN (eF rfl) ?_
           refine aY 10 [0] ?_
           refine cP ((i+1,G3)) ?_ ?_
           · refine ⟨by omega,bA hgx hle2,fun t ht=>?_⟩
             rcases aJ t i with h1 | h1
             · exact hall t h1
             have e:t=i:=rG
             rw [e];exact he
           show l.length - (i+1)<l.length - i
           omega
         have hnI:¬tJ p l:=fun h=>he (hiff.1 h i hil)
         refine aN (eF rfl) ?_
         refine aY 15 [1] ?_
         refine eJ ?_
         exact ⟨by rw [bF hnI],rfl⟩
       have hyI:tJ p l:=hiff.2 (fun t ht=>hall t rG)
       refine bG 19 [0] ?_
       refine eJ ?_
       exact ⟨by rw [cR hyI],rfl⟩
     have hnI:¬tJ p l:=fun h=>by have:=h.2.2.2;rw [hno] at this;cases this
     refine aY 25 [1] ?_
     refine eJ ?_
     exact ⟨by rw [bF hnI],rfl⟩
   have hnI:¬tJ p l:=fun h=>hO h.2.2.1
   refine aM 2 [] ?_
   refine cV 0 fun b1=>?_
   refine aL 7 [] ?_
   refine bU 1 rfl (EM _ a c l rH rG hac hR hl15 hR.2.2.1) fun v1 G1 Ho1 hle1 hp=>?_
   obtain ⟨gs1,gr1,gc1,rfl,hga1,hgb1,hgc1,rfl⟩:=hp
   replace hc:=hc.up hle1
   replace ho:=ho.up hle1
   replace ha:=ha.up hle1
   refine aL 21 [0,0] ?_
   refine cG rfl (Fm _ p _ _ _ _ rH rH hcl hol hP) ?_
   refine aL 24 [0,0] ?_
   refine jH 35 ?_
   refine aY 24 [0,1] ?_
   refine eJ ?_
   all_goals exact ⟨by rw [bF hnI],rfl⟩
 have hnI:¬tJ p l:=fun h=>hI h.2.1
 refine aM 2 [] ?_
 refine cV 0 fun b1=>?_
 refine aL 7 [] ?_
 refine bU 1 rfl (EM _ a c l rH rG hac hR hl15 hR.2.2.1) fun v1 G1 Ho1 hle1 hp=>?_
 obtain ⟨gs1,gr1,gc1,rfl,hga1,hgb1,hgc1,rfl⟩:=hp
 replace hc:=hc.up hle1
 replace ho:=ho.up hle1
 replace ha:=ha.up hle1
 refine aL 21 [0,0] ?_
 refine cG rfl (Fm _ p _ _ _ _ rH rH hcl hol hP) ?_
 refine aL 24 [0,0] ?_
 refine Fe 35 ?_
 refine aY 18 [1] ?_
 refine eJ ?_
 all_goals exact ⟨by rw [bF hnI],rfl⟩
end
theorem Zw {G:Imm} {n j:Nat} {x:IV} (hx:Big G x 1) (hj:j<n):Bigs G ((List.replicate n (default:IV)).set j x) (tC n j):=by
 unfold tC
 exact (qH G n).set j hx
section
attribute [local irreducible] rI rJ pb pw sB rZ p2 tP tF sC rP tC cst wJ
theorem VO (G:Imm) (k:Nat) (hk15:k≤15):Does Tryz.prog 209 [.int .i64 (k:Int)] G [] (fun v G' Ho=>∃ (s:Option Addr) (r:List SV) (c':Nat),v=.slice s r.length c'∧Arr G' s r∧BGrid G' r (tG k)∧r.length≤c'∧Ho=[]):=by
 refine D0 Tryz.func209 Tryz.ntmps209 fun w=>?_
 refine fU 9 (rV 39 ([]:List SV) []) ?_
 refine cJ 18 [] ?_
 refine jC (ι:=Nat×Imm×List SV×(Option Addr×Nat×List Value)) (fun (i,Gx,r,(o,d,j))=>([(7,.int .i64 (i:Int)),(3,.slice o r.length d),(6,.int .i64 (↑k:Int)),(2,.slice none 0 0),(0,.int .i64 (↑k:Int))],[(9,o.map (·.block),rV 39 r j)])) (fun (i,Gx,r,(o,d,j))=>Gx) (fun (i,Gx,r,(o,d,j))=>i≤k∧G.le Gx∧r.length=i∧BGrid Gx r ((tG k).take i)∧OwnA o d r j) (fun (i,Gx,r,(o,d,j))=>k - i) ((0,G,[],(none,0,[]))) (⟨aT _,cD _,rfl,by rw [bQ];exact BGrid.nil _,fF⟩) rfl ⟨rfl,rfl,rfl,rfl,rfl,trivial⟩ ⟨rfl,trivial⟩ fun ⟨i,Gx,r,(o,d,j)⟩=>fun hk=>?_
 obtain ⟨hi1,hi2,hi3,hi4,hi5⟩:=hk
 rcases aJ i k with hil | hil
 · refine aM 20 [1] ?_
   refine gT (α:=IV) 10 rfl T.sl39 T.el89 rfl rfl rG rG fun b1=>?_
   refine aL 7 [] ?_
   refine bU 11 rfl (HH _ 1 rW) fun v1 G1 Ho1 hle1 hp=>?_
   obtain ⟨ro1,rfl,hro1,rfl⟩:=hp
   have ho2:OwnA (some ⟨b1,0,none⟩) (List.replicate ((k:Int)).toNat (default:IV)).length (List.replicate ((k:Int)).toNat (default:IV)) []:=iS (by rw [aE];simp only [maxLen];omega)
   refine aN (kX (α:=IV) T.sl39 rfl rfl ho2 Hh) ?_
   refine eT (α:=IV) (z:=ro1) (m:=(i:Int)) 10 T.size89 rfl rfl rfl ho2 Hh rfl fun ho3=>?_
   refine cN 10 rfl ho3 fun G3 hle3 hA3=>?_
   refine aL 5 [] ?_
   refine fC (α:=SV) 11 [⟨_,_,_⟩] rfl T.sl86 T.el39 rfl rfl rfl rfl rfl fun b2=>?_
   refine jW (α:=SV) 9 T.sl86 T.el39 (fZ 11 rfl) fun a1 c1 junk1 ho1=>?_
   refine aY 8 [] ?_
   refine dC 7 rfl (show _=Value.int .i64 ((i+1:Nat):Int) from rfl) ?_
   refine cP ((i+1,_,r++[⟨some ⟨b1,0,none⟩,(List.replicate ((k:Int)).toNat (default:IV)).length,(List.replicate ((k:Int)).toNat (default:IV)).length⟩],(a1,c1,junk1))) ?_ ?_
   · refine ⟨by omega,bA hi2 (bA hle1 hle3),by rw [aI,hi3];rfl,?_,ho1⟩
     have e:(tG k).take (i+1)=(tG k).take i++[tC k i]:=by
      rw [eG]
      congr 1
      unfold tG
      rw [cF,fD hil];rfl
     rw [e]
     exact BGrid.snoc (hi4.up (bA hle1 hle3)) ⟨_,by rw [aG],aH _,hA3,(Zw hro1 hil).up hle3⟩
   show k - (i+1)<k - i
   omega
 have hie:i=k:=rG
 subst hie
 have e:(tG i).take i=tG i:=cZ (by rw [xF];exact aH _)
 rw [e] at hi4
 refine bG 19 [0] ?_
 refine dW 9 rfl hi5 fun G8 hle8 hA8=>?_
 refine bT ?_
 exact ⟨_,_,_,rfl,hA8,hi4.up hle8,hi5.le,rfl⟩
end
theorem VP (G:Imm) (a:Option Addr) (c:Nat) (l:List R2) (ha:Arr G a l) (hl:l.length≤1048576) :
 Does Tryz.prog 25 [.slice a l.length c] G [] (fun v G' Ho=>∃ s d,v=.slice s l.length d∧Arr G' s l∧l.length≤d∧Ho=[]):=by
 refine D0 Tryz.func25 Tryz.ntmps25 fun w=>?_
 by_cases hne:a=none
 · subst hne
   have hl0:l=[]:=by
    rcases ha.2 with h0 | ⟨_,_,h,_⟩
    · exact List.length_eq_zero_iff.mp h0
    cases h
   subst hl0
   refine fU 0 (rV 51 ([]:List R2) []) ?_
   refine aM 9 [] ?_
   refine aN (gH T.sl22 rfl rfl) ?_
   refine bR 2 [] ?_
   refine dL (fun hc1=>?_) fun hc1=>?_
   refine bG 7 [] ?_
   rotate_left
   refine aM 4 [] ?_
   refine pS 1 rfl T.sl22 fun b1=>?_
   refine aA 1 [] ?_
   rotate_left
   refine bT ?_
   · exact ⟨none,0,rfl,⟨rfl,.inl rfl⟩,aH _,rfl⟩
   exact absurd rfl hc1
 refine aM 9 [] ?_
 refine aN (gH T.sl22 rfl rfl) ?_
 refine aL 7 [0] ?_
 refine pS 0 rfl T.sl22 fun b1=>?_
 refine aA 1 [] ?_
 refine nO 0 (rV 51 ([]:List R2) []) rfl rfl ?_
 refine oN (α:=R2) (xs:=[]) (ys:=l) (junk:=[]) 0 rfl T.sl22 T.el51 rfl rfl rfl (.inr ⟨b1,rfl,rfl,aH _,aT _⟩) (oX ha) (by rw [cT];omega) AZ fun a1 c1 junk1 ho1=>?_
 rw [fM] at ho1 ⊢
 refine aY 4 [] ?_
 refine dW 0 rfl ho1 fun G1 hle1 harr1=>?_
 refine bT ?_
 exact ⟨a1,c1,rfl,harr1,ho1.le,rfl⟩
theorem Mh (a b c d:Int):Fx a b c d↔Fx c d a b:=by
 unfold Fx
 by_cases h:(a=0∧b=0)∨(c=0∧d=0)
 · rw [aR h,aR h.symm];exact And.comm
 rw [aK h,aK (fun h2=>h h2.symm)];omega
instance (l:List R2):Decidable (xG l):=Classical.propDecidable _
theorem PJ (G:Imm) (a:Option Addr) (c:Nat) (l:List R2) (ha:Arr G a l) (h1:l.length≤1048576):Does Tryz.prog 165 [.slice a l.length c,.func (.func 166) #[] #[]] G [] (fun v G' Ho=>v=.bool (decide (xG l))∧G'=G∧Ho=[]):=by
 refine (UQ G a c l ha h1).mono fun v G' Ho _ ⟨b,e,h1,h2,h3⟩=>?_
 subst e
 refine ⟨?_,h2,h3⟩
 congr 1
 by_cases h:xG l
 · rw [cR h];exact h1.2 h
 rw [bF h]
 exact Bool.eq_false_iff.2 (fun h2=>h (h1.1 h2))
theorem c75 (G:Imm) (k1 k2:Int) (a:Option Addr) (c:Nat) (l:List R2) (ha:Arr G a l) (hl:l.length≤1048576) :
 Does Tryz.prog 75 [.agg #[.int .i64 k1,.int .i64 k2,.slice a l.length c]] G [] (fun v G' Ho=>v=.int .i64 (sN k1 k2 l)∧G'=G∧Ho=[]):=by
 refine D0 Tryz.func75 Tryz.ntmps75 fun w=>?_
 refine aM 2 [] ?_
 refine cV 0 fun b1=>?_
 refine aL 10 [0] ?_
 apply cA 4 9 13 rfl
 intro hg1
 refine aA 7 [0] ?_
 exact cQ 4 0
 intro hg1
 refine aA 4 [] ?_
 exact cQ 4 0
 refine aA 1 [] ?_
 apply cA 4 14 18 rfl
 intro hg1
 refine aA 7 [0] ?_
 exact cQ 4 0
 intro hg1
 refine aA 4 [] ?_
 exact cQ 4 0
 refine aA 1 [] ?_
 apply cA 4 19 23 rfl
 intro hg1
 refine aA 7 [0] ?_
 exact cQ 4 0
 intro hg1
 refine aA 4 [] ?_
 exact cQ 4 0
 refine bR 2 [] ?_
 refine dL (fun hc1=>?_) fun hc1=>?_
 refine bG 7 [] ?_
 refine bT ?_
 rotate_left
 refine cJ 9 [] ?_
 rotate_left
 · exact ⟨congrArg _ (yS (by unfold sT;omega)).symm,rfl,rfl⟩
 have hP:sT k1∧sT k2:=by unfold sT;omega
 refine fS (ι:=Nat) (fun j=>([(3,.int .i64 (j:Int)),(1,.pointer (some ⟨b1,0,none⟩))],[(0,some b1,.cells #[.int .i64 k1,.int .i64 k2,.slice a (List.length l) c] 134)])) (fun j=>j≤l.length∧∀ i:Nat,i<j→tA (l[i]?.getD default).a (l[i]?.getD default).b) (fun j=>l.length - j) (0) (⟨aT _,fun i h=>absurd h rG⟩) fun j=>fun hk=>?_
 obtain ⟨hj,hno⟩:=hk
 refine cJ 10 [0] ?_
 refine dL (fun hc2=>?_) fun hc2=>?_
 refine aM 9 [0] ?_
 refine dI (α:=R2) T.sl22 ?_
 refine lP T.agg51 ?_
 refine cG rfl (by apply UF <;> first | assumption | omega | rfl) ?_
 refine aN (eF rfl) ?_
 refine bR 2 [] ?_
 refine dL (fun hc3=>?_) fun hc3=>?_
 refine bG 11 [] ?_
 refine bT ?_
 rotate_left
 refine bG 8 [] ?_
 rotate_left
 refine cJ 20 [0,0,0] ?_
 refine dL (fun hc3=>?_) fun hc3=>?_
 refine bG 7 [] ?_
 refine bT ?_
 rotate_left
 refine cJ 9 [] ?_
 rotate_left
 · exact ⟨congrArg _ (Ir (fun h=>absurd (h j rG) rH)).symm,rfl,rfl⟩
 · refine cP (j+1) ?_ ?_
   · refine ⟨by omega,fun i hi=>?_⟩
     rcases aJ i j with h | h
     · exact hno i h
     have e:i=j:=rG
     subst e;exact bD.1 rH
   omega
 · have hA:zQ l:=fun i hi=>hno i rG
   exact ⟨congrArg _ (Ei hP hA rG).symm,rfl,rfl⟩
 have hA:zQ l:=fun i hi=>hno i rG
 have hnear:∀ i:Nat,i<l.length→tA (l[i]?.getD default).a (l[i]?.getD default).b:=hA
 clear hno
 have hL:(l.length:Int)=k1+k2 - 1:=rG
 refine fS (ι:=Nat) (fun m=>([(4,.int .i64 (m:Int)),(1,.pointer (some ⟨b1,0,none⟩))],[(0,some b1,.cells #[.int .i64 k1,.int .i64 k2,.slice a (List.length l) c] 134)])) (fun m=>m≤l.length∧∀ i:Nat,i<m→¬((l[i]?.getD default).a=0∧(l[i]?.getD default).b=0)∧∀ k:Nat,k<i→¬Fx (l[i]?.getD default).a (l[i]?.getD default).b (l[k]?.getD default).a (l[k]?.getD default).b) (fun m=>l.length - m) (0) (⟨aT _,fun i h=>absurd h rG⟩) fun m=>fun hk=>?_
 obtain ⟨hm,hn2⟩:=hk
 refine cJ 10 [0] ?_
 refine dL (fun hc4=>?_) fun hc4=>?_
 refine aM 10 [0] ?_
 refine dI (α:=R2) T.sl22 ?_
 refine lP T.agg51 ?_
 refine cG rfl Pc ?_
 refine bR 2 [] ?_
 refine dL (fun hc5=>?_) fun hc5=>?_
 refine bG 12 [] ?_
 refine bT ?_
 rotate_left
 refine cJ 8 [] ?_
 rotate_left
 refine bG 11 [] ?_
 refine bT ?_
 rotate_left
 · exact ⟨congrArg _ (xZ hP hA (.inl ⟨m,by omega,by assumption⟩)).symm,rfl,rfl⟩
 · refine fS (ι:=Nat) (fun k=>([(5,.int .i64 (k:Int)),(4,.int .i64 (↑m:Int)),(1,.pointer (some ⟨b1,0,none⟩))],[(0,some b1,.cells #[.int .i64 k1,.int .i64 k2,.slice a (List.length l) c] 134)])) (fun k=>k≤m∧∀ i:Nat,i<k→¬Fx (l[m]?.getD default).a (l[m]?.getD default).b (l[i]?.getD default).a (l[i]?.getD default).b) (fun k=>m - k) (0) (⟨aT _,fun i h=>absurd h rG⟩) fun k=>fun hk=>?_
   obtain ⟨hk0,hn3⟩:=hk
   refine cJ 8 [] ?_
   refine dL (fun hc6=>?_) fun hc6=>?_
   refine cJ 5 [] ?_
   refine dT [0] [] T.mixed [[0],[1,0],[2]] ?_
   refine iM (α:=R2) 3 T.sl22 ?_
   refine oI 4 T.agg51 ?_
   refine eD [[5],[6,0],[7]] ?_
   refine iM (α:=R2) 8 T.sl22 ?_
   refine oI 9 T.agg51 ?_
   refine fE 10 ?_
   refine cG rfl (UM _ _ _ _ _ (hnear _ rG) (hnear _ rG)) ?_
   refine fO ?_
   refine cB ?_
   refine dL (fun hc7=>?_) fun hc7=>?_
   refine bG 15 [] ?_
   refine bT ?_
   rotate_left
   refine bG 8 [] ?_
   rotate_left
   refine bG 11 [] ?_
   rotate_left
   · exact ⟨congrArg _ (xZ hP hA (.inr ((Re l).2 ⟨m,by omega,k,by omega,hnear k rG,hnear m rG,(Mh _ _ _ _).1 rH⟩))).symm,rfl,rfl⟩
   · refine cP (k+1) ?_ ?_
     · refine ⟨by omega,fun i hi=>?_⟩
       rcases aJ i k with h | h
       · exact hn3 i h
       have e:i=k:=rG
       subst e;assumption
     omega
   refine cP (m+1) ?_ ?_
   · refine ⟨by omega,fun i hi=>?_⟩
     rcases aJ i m with h | h
     · exact hn2 i h
     have e:i=m:=rG
     subst e;exact ⟨by assumption,fun k0 h0=>hn3 k0 rG⟩
   omega
 refine ⟨congrArg _ (Ri hP hA hL ?_).symm,rfl,rfl⟩
 rintro (⟨i,hi,h0⟩ | h0)
 · exact (hn2 i rG).1 h0
 obtain ⟨j0,hj0,i0,hi0,_,_,h1⟩:=(Re l).1 h0
 exact (hn2 j0 rG).2 i0 hi0 ((Mh _ _ _ _).1 h1)
theorem PK (G:Imm) (k1 k2:Int) (a:Option Addr) (c:Nat) (l:List R2) (ha:Arr G a l) (hl:l.length≤1048576) (hlc:l.length≤c) :
 Does Tryz.prog 122 [.int .i64 k1,.int .i64 k2,.slice a l.length c] G [] (fun v G' Ho=>∃ pv:Value,v=.tuple #[pv,.int .i64 (sN k1 k2 l)]∧Ho=[]):=by
 refine D0 Tryz.func122 Tryz.ntmps122 fun w=>?_
 refine aM 10 [] ?_
 refine cG rfl (by apply PC <;> first | assumption | omega | rfl) ?_
 refine aN (eF rfl) ?_
 refine aA 1 [] ?_
 apply cA 4 16 20 rfl
 intro hg1
 refine aA 3 [] ?_
 refine cG rfl (by apply PC <;> first | assumption | omega | rfl) ?_
 refine aA 1 [] ?_
 refine aN (eF rfl) ?_
 refine aA 1 [] ?_
 exact cQ 4 0
 intro hg1
 refine aA 4 [] ?_
 exact cQ 4 0
 refine bR 2 [] ?_
 refine dL (fun hc1=>?_) fun hc1=>?_
 refine bG 8 [] ?_
 rotate_left
 refine cJ 11 [] ?_
 rotate_left
 · refine eJ ?_
   exact ⟨_,by rw [yS (by unfold sT;omega)],rfl⟩
 have hP:sT k1∧sT k2:=by unfold sT;omega
 refine fS (ι:=Nat) (fun j=>([(23,.int .i64 (j:Int)),(0,.int .i64 k1),(1,.int .i64 k2),(2,.slice a l.length c),(22,.int .i64 (l.length:Int)),(21,.slice a (List.length l) c)],[])) (fun j=>j≤l.length∧∀ i:Nat,i<j→tA (l[i]?.getD default).a (l[i]?.getD default).b) (fun j=>l.length - j) (0) (⟨aT _,fun i h=>absurd h rG⟩) fun j=>fun hk=>?_
 obtain ⟨hj,hno⟩:=hk
 refine cJ 6 [] ?_
 refine dL (fun hc2=>?_) fun hc2=>?_
 refine aM 6 [] ?_
 refine dI (α:=R2) T.sl22 ?_
 refine lP T.agg51 ?_
 refine aU 0 rfl T.zero51 fun b1=>?_
 refine aL 6 [0,0] ?_
 refine cG rfl Xp ?_
 refine aN (eF rfl) ?_
 refine bR 2 [] ?_
 refine dL (fun hc3=>?_) fun hc3=>?_
 refine bG 12 [] ?_
 rotate_left
 refine bG 7 [] ?_
 rotate_left
 refine aM 16 [] ?_
 apply cA 3 38 41 rfl
 intro hg1
 refine aA 3 [] ?_
 refine cG rfl (PJ _ _ _ _ rH rG) ?_
 refine aA 1 [] ?_
 exact cQ 3 0
 intro hg1
 refine aA 3 [] ?_
 exact cQ 3 0
 refine bR 2 [] ?_
 refine dL (fun hc3=>?_) fun hc3=>?_
 refine bG 8 [] ?_
 rotate_left
 refine aM 5 [] ?_
 refine bU 0 rfl (OV _ _ _ _ rH rG tU) fun v1 G1 Ho1 hle1 hp=>?_
 obtain ⟨ti1,tj1,tb1,rfl,htb1,rfl,rfl⟩:=hp
 refine bR 15 [] ?_
 refine rA rfl (fun hc4=>?_) fun hc4=>?_
 refine bG 8 [] ?_
 rotate_left
 refine aM 7 [] ?_
 refine bU 0 rfl (VP _ _ _ _ rH rG) fun v2 G2 Ho2 hle2 hp=>?_
 obtain ⟨s2,d2,rfl,hs2,hsd2,rfl⟩:=hp
 refine aN (gI (cs:=[_,_,_]) T.st251 rfl rfl rfl) ?_
 refine cV 0 fun b1=>?_
 refine aY 5 [] ?_
 rotate_left
 · refine eJ ?_
   exact ⟨_,by rw [Ir (fun h=>absurd (h j rG) rH)],rfl⟩
 · refine dC 23 rfl (show _=Value.int .i64 ((j+1:Nat):Int) from rfl) ?_
   refine cP (j+1) ?_ ?_
   · refine ⟨by omega,fun i hi=>?_⟩
     rcases aJ i j with h | h
     · exact hno i h
     have e:i=j:=rG
     subst e;exact bD.1 rH
   omega
 · have hA:zQ l:=fun i hi=>hno i rG
   have e:sN k1 k2 l=71:=hc3.elim (fun h=>Ei hP hA h) (fun h=>xZ hP hA (.inl h))
   refine eJ ?_
   exact ⟨_,by rw [e],rfl⟩
 · have hA:zQ l:=fun i hi=>hno i rG
   have e:sN k1 k2 l=71:=xZ hP hA (.inr (htb1.1 rH))
   refine eJ ?_
   exact ⟨_,by rw [e],rfl⟩
 have hA:zQ l:=fun i hi=>hno i rG
 have e:sN k1 k2 l=0:=Ri hP hA (dZ fun h=>hc3 (.inl h)) (fun h=>h.elim (fun h=>hc3 (.inr h)) (fun h=>absurd (htb1.2 h) (by rw [hc4];decide)))
 refine eJ ?_
 exact ⟨_,by rw [e],rfl⟩
theorem VQ (G:Imm) (a:Option Addr) (c:Nat) (l:List R2) (ha:Arr G a l) (hl:l.length≤1048576) (hR:uM l) :
 Does Tryz.prog 184 [.slice a l.length c] G [] (fun v G' Ho=>v=.bool (decide (1=1))∧G'=G∧Ho=[]):=by
 refine D0 Tryz.func184 Tryz.ntmps184 fun w=>?_
 refine cJ 14 [] ?_
 refine fS (ι:=Nat) (fun j=>([(7,.int .i64 (j:Int)),(6,.int .i64 (l.length:Int)),(5,.slice a (List.length l) c),(0,.slice a (List.length l) c)],[])) (fun j=>j≤l.length) (fun j=>l.length - j) (0) (aT _) fun j=>fun (hk:j≤l.length)=>?_
 refine cJ 6 [] ?_
 refine dL (fun hc1=>?_) fun hc1=>?_
 refine aM 6 [] ?_
 refine dI (α:=R2) T.sl22 ?_
 refine lP T.agg51 ?_
 refine aU 0 rfl T.zero51 fun b1=>?_
 refine aL 6 [0,0] ?_
 refine cG rfl Xp ?_
 refine aN (eF rfl) ?_
 refine bR 2 [] ?_
 refine dL (fun hc2=>?_) fun hc2=>?_
 refine bG 11 [] ?_
 rotate_left
 refine bG 7 [] ?_
 rotate_left
 refine aM 11 [] ?_
 apply dS 4 18 22 rfl
 intro hg1
 refine aA 7 [] ?_
 exact cQ 4 0
 intro hg1
 refine aA 4 [] ?_
 exact cQ 4 0
 refine aY 4 [] ?_
 rotate_left
 · exfalso
   have h:=(hR.2.2.1 j rG).1
   exact absurd h rH
 · refine dC 7 rfl (show _=Value.int .i64 ((j+1:Nat):Int) from rfl) ?_
   refine cP (j+1) ?_ ?_
   · omega
   omega
 refine bT ?_
 have h1:=hR.1
 have h2:=hR.2.1
 exact ⟨by rw [cR rG,cR rfl],rfl,rfl⟩
theorem Rn {x y:Int}:sB x y=0↔x=y:=by
 unfold sB
 split
 · omega
 split <;> omega
theorem Tw {a b:Int} {n:Nat} (h:tA a b) (hn:n≤15):Below 2 (tP a b n):=fun z hz=>by
 rw [Of];exact (Eh h hn).2 z hz
theorem PL (G:Imm) (p:PV) (ac ao ga:Option Addr) (cc co gc:Nat) (gl:List SV) (gs:List (List Int)) (m N:Nat) (hc:Arr G ac p.code) (ho:Arr G ao p.outs) (hga:Arr G ga gl) (hgg:BGrid G gl gs) (hev:EvenB m N gs) (hmm:m≤1048576) (hN:N≤4096) (hR:rP p=true) (hgi:(gl.length:Int)=p.ins) (os:List (List Int)) (hf:sC p gs=some os) :
 Does Tryz.prog 208 [.agg #[.int .i64 p.ins,.int .i64 p.regs,.slice ac p.code.length cc,.slice ao p.outs.length co],.slice ga gl.length gc] G [] (fun v G' Ho=>∃ b r c',v=.tuple #[.slice b (List.length r) c',.int .i64 0,.int .i64 0]∧Arr G' b r∧BGrid G' r os∧EvenB (m+3*p.code.length) N os∧Ho=[]):=by
 refine (PG G p ac ao ga cc co gc gl gs m N hc ho hga hgg hev hmm hN hR hgi).mono fun v G' Ho _ h=>?_
 obtain ⟨h0,⟨os2,b,r,c',h1,h2,h3,h4,h5,h6⟩ | ⟨h1,_⟩⟩:=h
 · rw [hf] at h1
   obtain rfl:=lC h1
   exact ⟨b,r,c',h2,h3,h5,h6,h0⟩
 rw [hf] at h1;cases h1
section
attribute [local irreducible] rI rJ pb pw sB rZ p2 tP tF sC rP tC cst wJ
theorem PM (G:Imm) (p:PV) (ac ao a:Option Addr) (cc co c k:Nat) (l:List R2) (hc:Arr G ac p.code) (ho:Arr G ao p.outs) (ha:Arr G a l) (hcl:p.code.length≤16384) (hol:p.outs.length≤1099511627776) (hRL:uM l) (hR:rP p=true) (hk1:1≤k) (hk8:k≤8) :
 Does Tryz.prog 169 [.agg #[.int .i64 p.ins,.int .i64 p.regs,.slice ac p.code.length cc,.slice ao p.outs.length co],.int .i64 (k:Int),.slice a l.length c] G [] (fun v G' Ho=>v=.tuple #[.bool (decide (tW p (k:Int) l)),.int .i64 0]∧Ho=[]):=by
 have hl15:l.length≤15:=hRL.2.1
 have hnr:∀ i:Nat,i<l.length→tA (l[i]?.getD default).a (l[i]?.getD default).b:=fun i hi=>(hRL.2.2.1 i hi).1
 refine D0 Tryz.func169 Tryz.ntmps169 fun w=>?_
 refine aM 2 [] ?_
 refine cV 0 fun b1=>?_
 refine aL 10 [] ?_
 refine jH 22 ?_
 refine aA 6 [] ?_
 refine jH 26 ?_
 refine aA 3 [] ?_
 refine cG rfl (VQ _ _ _ _ rH rG hRL) ?_
 refine aA 1 [] ?_
 refine aN (eF rfl) ?_
 refine aL 9 [0,0] ?_
 refine cG rfl (Fm _ p _ _ _ _ rH rH rG hol hR) ?_
 refine aL 25 [0,0] ?_
 apply cA 7 43 50 rfl
 intro hg1
 refine aA 13 [0] ?_
 exact cQ 7 0
 intro hg1
 refine aA 7 [] ?_
 exact cQ 7 0
 refine bR 2 [] ?_
 refine dL (fun hc1=>?_) fun hc1=>?_
 refine bG 8 [] ?_
 rotate_left
 refine cJ 12 [0] ?_
 rotate_left
 · refine eJ ?_
   exact ⟨by rw [bF (fun h=>hc1.elim (fun h2=>h2 h.1) (fun h2=>h2 (by have:=h.2.1;omega)))],rfl⟩
 have hI:p.ins=(k:Int):=dZ fun h=>hc1 (.inl h)
 have hO:p.outs.length=l.length:=dZ fun h=>hc1 (.inr rG)
 refine fS (ι:=Nat) (fun j=>([(54,.int .i64 (j:Int)),(1,.int .i64 (k:Int)),(2,.slice a l.length c),(53,.int .i64 (↑p.code.length:Int)),(52,.slice ac p.code.length cc),(9,.int .i64 0),(3,.pointer (some ⟨b1,0,none⟩))],[(0,some b1,.cells #[.int .i64 p.ins,.int .i64 p.regs,.slice ac p.code.length cc,.slice ao p.outs.length co] 26)])) (fun j=>j≤p.code.length∧∀ i:Nat,i<j→¬((p.code[i]?.getD default).op=6∨(p.code[i]?.getD default).op=8)) (fun j=>p.code.length - j) (0) (⟨aT _,fun i h=>absurd h rG⟩) fun j=>fun hk=>?_
 obtain ⟨hj,hno⟩:=hk
 rcases aJ j p.code.length with hjl | hjl
 · refine aM 13 [1] ?_
   refine dI (α:=Sl.Instr) T.sl23 ?_
   refine lP T.agg211 ?_
   refine aU 1 rfl T.zero211 fun b2=>?_
   refine aL 9 [1,1] ?_
   apply cA 4 61 65 rfl
   intro hg1
   refine aA 7 [1] ?_
   exact cQ 4 0
   intro hg1
   refine aA 4 [] ?_
   exact cQ 4 0
   refine bR 2 [] ?_
   refine dL (fun hc2=>?_) fun hc2=>?_
   refine bG 12 [] ?_
   rotate_left
   refine bG 7 [] ?_
   rotate_left
   · refine eJ ?_
     refine ⟨by rw [bF (fun h=>h.2.2.1 (p.code[j]?.getD default) (by rw [aC hjl];exact dA _) rH)],rfl⟩
   refine dC 54 rfl (show _=Value.int .i64 ((j+1:Nat):Int) from rfl) ?_
   refine cP (j+1) ?_ ?_
   · refine ⟨by omega,fun i hi=>?_⟩
     rcases aJ i j with h | h
     · exact hno i h
     have e:i=j:=rG
     subst e;assumption
   show p.code.length - (j+1)<p.code.length - j
   omega
 have hND:Me p:=fun i hi=>by
  obtain ⟨t,ht,rfl⟩:=kL.1 hi
  have:=hno t rG
  rw [aC ht] at this
  exact this
 obtain ⟨os,hf⟩:=Ct hND (tG k)
 have hosl:os.length=l.length:=by rw [vT hf,hO]
 have hiff:tW p (k:Int) l↔∀ t:Nat,t<l.length→os[t]?.getD []=tP (l[t]?.getD default).a (l[t]?.getD default).b k:=by
  rw [←Rh hosl]
  unfold tW
  rw [aF,hf]
  exact ⟨fun h=>lC h.2.2.2,fun h=>⟨hI,hO,hND,by rw [h]⟩⟩
 refine cJ 13 [0] ?_
 refine dT [0] [] T.mixed [[0,0],[1]] ?_
 refine fE 2 ?_
 refine bU 1 rfl (VO _ k rG) fun v1 G1 Ho1 hle1 hp=>?_
 obtain ⟨us1,ur1,uc1,rfl,huA1,huB1,huL1,rfl⟩:=hp
 replace hc:=hc.up hle1
 replace ho:=ho.up hle1
 replace ha:=ha.up hle1
 refine bO 3 ?_
 refine bU 1 rfl (PL _ p _ _ _ _ _ _ _ (tG k) 2 k rH rH rH rH (Iu (zP k)) rG rG hR (by rw [huB1.1,xF];omega) os hf) fun v2 G2 Ho2 hle2 hp=>?_
 obtain ⟨ob2,or2,oc2,rfl,hoA2,hoB2,hoE2,rfl⟩:=hp
 replace huA1:=huA1.up hle2
 replace hc:=hc.up hle2
 replace ho:=ho.up hle2
 replace ha:=ha.up hle2
 refine eE ?_
 refine eD [[4],[5],[6],[7],[8],[9],[10]] ?_
 refine dY ?_
 refine oV 20 [0] ?_
 have hol2:or2.length=l.length:=by rw [hoB2.1];exact hosl
 refine qN (ι:=Nat×Imm) (fun (i,Gx)=>([(79,.int .i64 (i:Int)),(1,.int .i64 (k:Int)),(2,.slice a l.length c),(78,.int .i64 (l.length:Int)),(77,.slice a (List.length l) c),(12,.slice ob2 (List.length or2) oc2)],[(0,some b1,.cells #[.int .i64 p.ins,.int .i64 p.regs,.slice ac p.code.length cc,.slice ao p.outs.length co] 26)])) (fun (i,Gx)=>Gx) (fun (i,Gx)=>i≤l.length∧G2.le Gx∧∀ t:Nat,t<i→os[t]?.getD []=tP (l[t]?.getD default).a (l[t]?.getD default).b k) (fun (i,Gx)=>l.length - i) ((0,G2)) (⟨aT _,cD _,fun t ht=>absurd ht rG⟩) fun ⟨i,Gx⟩=>fun hk=>?_
 obtain ⟨hi0,hgx,hall⟩:=hk
 replace ha:=ha.up hgx
 replace hoA2:=hoA2.up hgx
 rcases aJ i l.length with hil | hil
 · have hnear:tA (l[(i:Int).toNat]?.getD default).a (l[(i:Int).toNat]?.getD default).b:=hnr i hil
   refine aM 14 [1] ?_
   refine dI (α:=R2) T.sl22 ?_
   refine lP T.agg51 ?_
   refine aU 1 rfl T.zero51 fun b2=>?_
   refine aL 8 [1,1] ?_
   refine bU 2 rfl (OX _ _ _ k hnear rG) fun v3 G3 Ho3 hle3 hp=>?_
   obtain ⟨ps3,pr3,pc3,rfl,hpA3,hpB3,hpL3,rfl⟩:=hp
   replace ha:=ha.up hle3
   replace hoA2:=hoA2.up hle3
   refine aL 11 [] ?_
   refine dI (α:=SV) T.sl86 ?_
   refine fJ 0 T.one39 ?_
   refine bR 5 [] ?_
   obtain ⟨q,hq1,hq2,hq3,hq4⟩:=(hoB2.up (bA hgx hle3)).2 i rG
   have hE:=hoE2.at (k:=i) rG
   have hql:q.length=k:=hq4.1.trans hE.1
   have hP:Below 2 (tP (l[i]?.getD default).a (l[i]?.getD default).b k):=Tw (hnr i hil) rG
   have hpl:pr3.length=k:=hpB3.1.trans (Cu _ _ _)
   refine iP 93 rfl (show _=Value.slice (or2[(i:Int).toNat]?.getD default).a q.length (or2[(i:Int).toNat]?.getD default).c by rw [hq1];rfl) ?_
   refine iP 94 rfl (show _=Value.int .i64 (q.length:Int) by rw [hq1];rfl) ?_
   refine fS (ι:=Nat) (fun j=>([(95,.int .i64 (j:Int)),(93,.slice (or2[(i:Int).toNat]?.getD default).a q.length (or2[(i:Int).toNat]?.getD default).c),(94,.int .i64 (q.length:Int)),(16,.slice ps3 pr3.length pc3),(12,.slice ob2 or2.length oc2),(1,.int .i64 (k:Int)),(2,.slice a l.length c),(77,.slice a l.length c),(78,.int .i64 (l.length:Int)),(79,.int .i64 (i:Int))],[(1,some b2,.cells (List.toArray (Cells.enc (Option.getD l[Int.toNat (↑i:Int)]? default))) 51),(0,some b1,.cells #[.int .i64 p.ins,.int .i64 p.regs,.slice ac p.code.length cc,.slice ao p.outs.length co] 26)])) (fun j=>j≤k∧∀ t:Nat,t<j→(os[i]?.getD [])[t]?.getD 0=(tP (l[i]?.getD default).a (l[i]?.getD default).b k)[t]?.getD 0) (fun j=>k - j) (0) (⟨aT _,fun i h=>absurd h rG⟩) fun j=>fun hk=>?_
   obtain ⟨hj9,hjj⟩:=hk
   rcases aJ j k with hjk | hjk
   · have hx:=hq4.at (k:=(j:Int)) rG
     have hy:=hpB3.at (k:=(j:Int)) rG
     have hxn:=iC hx (hE.2.at _)
     have hyn:=iC hy (hP.at _)
     refine aM 14 [1] ?_
     refine dI (α:=IV) T.sl39 ?_
     refine lP T.agg89 ?_
     refine aU 2 rfl T.zero89 fun b3=>?_
     refine bR 5 [2] ?_
     refine dT [0,1,2] [] T.mixed [[0,2],[1],[2]] ?_
     refine iM (α:=IV) 3 T.sl39 ?_
     refine oI 4 T.agg89 ?_
     refine fE 5 ?_
     refine cG rfl (c57 _ _ _ _ _ hx hy rG rG) ?_
     refine eE ?_
     refine eD [[6]] ?_
     refine dY ?_
     refine cB ?_
     refine dL (fun hc2=>?_) fun hc2=>?_
     refine bG 16 [] ?_
     rotate_left
     refine bG 7 [] ?_
     rotate_left
     · refine eJ ?_
       have hne:¬((os[i]?.getD [])[j]?.getD 0=(tP (l[i]?.getD default).a (l[i]?.getD default).b k)[j]?.getD 0):=fun h=>absurd (Rn.2 h) rH
       exact ⟨by rw [bF (fun h=>hne (by rw [hiff.1 h i hil]))],rfl⟩
     refine dC 95 rfl (show _=Value.int .i64 ((j+1:Nat):Int) from rfl) ?_
     refine cP (j+1) ?_ ?_
     · refine ⟨by omega,fun t ht=>?_⟩
       rcases aJ t j with h | h
       · exact hjj t h
       have e:t=j:=rG
       subst e;exact Rn.1 (bD.1 rH)
     show k - (j+1)<k - j
     omega
   have hjk:j=k:=rG
   subst hjk
   refine bG 17 [0] ?_
   refine dC 79 rfl (show _=Value.int .i64 ((i+1:Nat):Int) from rfl) ?_
   refine cP ((i+1,G3)) ?_ ?_
   · refine ⟨by omega,bA hgx hle3,fun t ht=>?_⟩
     rcases aJ t i with h | h
     · exact hall t h
     have e:t=i:=rG
     subst e
     exact (Wg hE.1 (Cu _ _ _)).2 hjj
   show l.length - (i+1)<l.length - i
   omega
 refine bG 19 [0] ?_
 refine eJ ?_
 exact ⟨by rw [cR (hiff.2 (fun t ht=>hall t rG))],rfl⟩
end
section
attribute [local irreducible] rI rJ pb pw sB rZ p2 tP tF sC rP tC
theorem VR (G:Imm) (x y:IV) (zx zy:Int) (hx:Num G x zx) (hy:Num G y zy) (h1:x.n≤1073741824) (h2:y.n≤1073741824) :
 Does Tryz.prog 136 [.agg (Cells.enc x).toArray,.agg (Cells.enc y).toArray] G [] (fun v G' Ho=>v=.bool (decide (zx=zy))∧G'=G∧Ho=[]):=by
 refine D0 Tryz.func136 Tryz.ntmps136 fun w=>?_
 refine aM 2 [] ?_
 refine cV 0 fun b1=>?_
 refine cV 1 fun b2=>?_
 refine aL 7 [0,1] ?_
 refine cG rfl (Vt _ _ _ _ _ rH rH rG rG) ?_
 refine aY 5 [] ?_
 refine bT ?_
 exact ⟨by congr 1;exact decide_eq_decide.mpr Az,rfl,rfl⟩
theorem VS (G:Imm) (k:Nat) (hk15:k≤15):Does Tryz.prog 134 [.int .i64 (k:Int)] G [] (fun v G' Ho=>∃ (s:Option Addr) (r:List SV) (c':Nat),v=.slice s r.length c'∧Arr G' s r∧NGrid G' r (tG k)∧r.length≤c'∧Ho=[]):=by
 refine D0 Tryz.func134 Tryz.ntmps134 fun w=>?_
 refine fU 9 (rV 218 ([]:List SV) []) ?_
 refine cJ 17 [] ?_
 refine jC (ι:=Nat×Imm×List SV×(Option Addr×Nat×List Value)) (fun (i,Gx,r,(o,d,j))=>([(4,.int .i64 (i:Int)),(3,.slice o r.length d),(2,.slice none 0 0),(0,.int .i64 (↑k:Int))],[(9,o.map (·.block),rV 218 r j)])) (fun (i,Gx,r,(o,d,j))=>Gx) (fun (i,Gx,r,(o,d,j))=>i≤k∧G.le Gx∧r.length=i∧NGrid Gx r ((tG k).take i)∧OwnA o d r j) (fun (i,Gx,r,(o,d,j))=>k - i) ((0,G,[],(none,0,[]))) (⟨aT _,cD _,rfl,by rw [bQ];exact NGrid.nil _,fF⟩) rfl ⟨rfl,rfl,rfl,rfl,trivial⟩ ⟨rfl,trivial⟩ fun ⟨i,Gx,r,(o,d,j)⟩=>fun hk=>?_
 obtain ⟨hi1,hi2,hi3,hi4,hi5⟩:=hk
 rcases aJ i k with hil | hil
 · refine aM 16 [1] ?_
   refine gT (α:=IV) 10 rfl T.sl218 T.el93 rfl rfl rG rG fun b1=>?_
   refine aL 7 [] ?_
   refine bU 11 rfl (MC _ 1 rW) fun v1 G1 Ho1 hle1 hp=>?_
   obtain ⟨ro1,rfl,hro1,rfl⟩:=hp
   have ho2:OwnA (some ⟨b1,0,none⟩) (List.replicate ((k:Int)).toNat (default:IV)).length (List.replicate ((k:Int)).toNat (default:IV)) []:=iS (by rw [aE];simp only [maxLen];omega)
   refine aN (kX (α:=IV) T.sl218 rfl rfl ho2 Hh) ?_
   refine eT (α:=IV) (z:=ro1) (m:=(i:Int)) 10 T.size93 rfl rfl rfl ho2 Hh rfl fun ho3=>?_
   refine cN 10 rfl ho3 fun G3 hle3 hA3=>?_
   refine aL 5 [] ?_
   refine fC (α:=SV) 11 [⟨_,_,_⟩] rfl T.sl212 T.el218 rfl rfl rfl rfl rfl fun b2=>?_
   refine jW (α:=SV) 9 T.sl212 T.el218 (fZ 11 rfl) fun a1 c1 junk1 ho1=>?_
   refine aY 9 [] ?_
   refine cP ((i+1,_,r++[⟨some ⟨b1,0,none⟩,(List.replicate ((k:Int)).toNat (default:IV)).length,(List.replicate ((k:Int)).toNat (default:IV)).length⟩],(a1,c1,junk1))) ?_ ?_
   · refine ⟨by omega,bA hi2 (bA hle1 hle3),by rw [aI,hi3];rfl,?_,ho1⟩
     have e:(tG k).take (i+1)=(tG k).take i++[tC k i]:=by
      rw [eG]
      congr 1
      unfold tG
      rw [cF,fD hil];rfl
     rw [e]
     exact NGrid.snoc (hi4.up (bA hle1 hle3)) ⟨_,by rw [aG],aH _,hA3,(Md hro1 hil).up hle3⟩
   show k - (i+1)<k - i
   omega
 have hie:i=k:=rG
 subst hie
 have e:(tG i).take i=tG i:=cZ (by rw [xF];exact aH _)
 rw [e] at hi4
 refine bG 21 [0] ?_
 refine dW 9 rfl hi5 fun G8 hle8 hA8=>?_
 refine bT ?_
 exact ⟨_,_,_,rfl,hA8,hi4.up hle8,hi5.le,rfl⟩
end
section
attribute [local irreducible] rI rJ pb pw sB rZ p2 tP tF sC rP tC
theorem c77 (G:Imm) (p:PV) (ac ao a:Option Addr) (cc co c k:Nat) (l:List R2) (hc:Arr G ac p.code) (ho:Arr G ao p.outs) (ha:Arr G a l) (hcl:p.code.length≤16384) (hol:p.outs.length≤1099511627776) (hl15:l.length≤15) (hnr:∀ i:Nat,i<l.length→tA (l[i]?.getD default).a (l[i]?.getD default).b) (hR:rP p=true) (hk1:1≤k) (hk8:k≤8) :
 Does Tryz.prog 77 [.agg #[.int .i64 p.ins,.int .i64 p.regs,.slice ac p.code.length cc,.slice ao p.outs.length co],.int .i64 (k:Int),.slice a l.length c] G [] (fun v G' Ho=>v=.bool (decide (tW p (k:Int) l))∧Ho=[]):=by
 refine D0 Tryz.func77 Tryz.ntmps77 fun w=>?_
 refine aM 2 [] ?_
 refine cV 0 fun b1=>?_
 refine aL 11 [0] ?_
 apply cA 7 18 25 rfl
 intro hg1
 refine aA 13 [0] ?_
 exact cQ 7 0
 intro hg1
 refine aA 7 [] ?_
 exact cQ 7 0
 refine bR 2 [] ?_
 refine dL (fun hc1=>?_) fun hc1=>?_
 refine bG 7 [] ?_
 rotate_left
 refine cJ 9 [] ?_
 rotate_left
 · refine bT ?_
   exact ⟨by rw [bF (fun h=>hc1.elim (fun h2=>h2 h.1) (fun h2=>h2 (by have:=h.2.1;omega)))],rfl⟩
 have hI:p.ins=(k:Int):=dZ fun h=>hc1 (.inl h)
 have hO:p.outs.length=l.length:=dZ fun h=>hc1 (.inr rG)
 refine fS (ι:=Nat) (fun j=>([(7,.int .i64 (j:Int)),(1,.int .i64 (k:Int)),(2,.slice a l.length c),(3,.pointer (some ⟨b1,0,none⟩))],[(0,some b1,.cells #[.int .i64 p.ins,.int .i64 p.regs,.slice ac p.code.length cc,.slice ao p.outs.length co] 26)])) (fun j=>j≤p.code.length∧∀ i:Nat,i<j→¬((p.code[i]?.getD default).op=6∨(p.code[i]?.getD default).op=8)) (fun j=>p.code.length - j) (0) (⟨aT _,fun i h=>absurd h rG⟩) fun j=>fun hk=>?_
 obtain ⟨hj,hno⟩:=hk
 rcases aJ j p.code.length with hjl | hjl
 · refine aM 20 [0,1,0] ?_
   refine dI (α:=Sl.Instr) T.sl23 ?_
   refine aA 1 [] ?_
   refine fJ 0 T.one3 ?_
   refine aA 2 [] ?_
   apply cA 8 40 48 rfl
   intro hg1
   refine aA 7 [0] ?_
   refine dI (α:=Sl.Instr) T.sl23 ?_
   refine aA 3 [] ?_
   refine fJ 0 T.one3 ?_
   refine aA 3 [] ?_
   exact cQ 8 0
   intro hg1
   refine aA 8 [] ?_
   exact cQ 8 0
   refine bR 2 [] ?_
   refine dL (fun hc2=>?_) fun hc2=>?_
   refine bG 11 [] ?_
   rotate_left
   refine bG 8 [] ?_
   rotate_left
   · refine bT ?_
     refine ⟨by rw [bF (fun h=>h.2.2.1 (p.code[j]?.getD default) ?_ rH)],rfl⟩
     rw [aC hjl];exact dA _
   refine cP (j+1) ?_ ?_
   · refine ⟨by omega,fun i hi=>?_⟩
     rcases aJ i j with h | h
     · exact hno i h
     have e:i=j:=rG
     subst e;assumption
   show p.code.length - (j+1)<p.code.length - j
   omega
 have hND:Me p:=fun i hi=>by
  obtain ⟨t,ht,rfl⟩:=kL.1 hi
  have:=hno t rG
  rw [aC ht] at this
  exact this
 obtain ⟨os,hf⟩:=Ct hND (tG k)
 have hosl:os.length=l.length:=by rw [vT hf,hO]
 have hose:=Fj hR (zP k) (by rw [xF];omega) hf
 have hiff:tW p (k:Int) l↔∀ t:Nat,t<l.length→os[t]?.getD []=tP (l[t]?.getD default).a (l[t]?.getD default).b k:=by
  rw [←Rh hosl]
  unfold tW
  rw [aF,hf]
  exact ⟨fun h=>lC h.2.2.2,fun h=>⟨hI,hO,hND,by rw [h]⟩⟩
 refine cJ 17 [0,0] ?_
 refine dT [0] [] T.mixed [[0,0],[1]] ?_
 refine fE 2 ?_
 refine bU 1 rfl (VS _ k rG) fun v1 G1 Ho1 hle1 hp=>?_
 obtain ⟨us1,ur1,uc1,rfl,huA1,huB1,huL1,rfl⟩:=hp
 replace hc:=hc.up hle1
 replace ho:=ho.up hle1
 replace ha:=ha.up hle1
 refine bO 3 ?_
 refine bU 1 rfl (Fi _ p _ _ _ _ _ _ _ (tG k) k rH rH rH (Ba huB1) (zP k) rG hR (by rw [huB1.1,xF];omega) hcl os hf) fun v2 G2 Ho2 hle2 hp=>?_
 obtain ⟨sv2,oa2,oc2,ol2,rfl,hoA2,hoG2,rfl⟩:=hp
 replace huA1:=huA1.up hle2
 replace hc:=hc.up hle2
 replace ho:=ho.up hle2
 replace ha:=ha.up hle2
 refine eE ?_
 refine eD [[4],[5],[6],[7],[8],[9],[10]] ?_
 refine dY ?_
 refine oV 8 [] ?_
 have hol2:ol2.length=l.length:=by rw [hoG2.1];exact hosl
 refine qN (ι:=Nat×Imm) (fun (i,Gx)=>([(11,.int .i64 (i:Int)),(10,.slice oa2 (List.length ol2) oc2),(1,.int .i64 (↑k:Int)),(2,.slice a (List.length l) c)],[(0,some b1,.cells #[.int .i64 p.ins,.int .i64 p.regs,.slice ac p.code.length cc,.slice ao p.outs.length co] 26)])) (fun (i,Gx)=>Gx) (fun (i,Gx)=>i≤l.length∧G2.le Gx∧∀ t:Nat,t<i→os[t]?.getD []=tP (l[t]?.getD default).a (l[t]?.getD default).b k) (fun (i,Gx)=>l.length - i) ((0,G2)) (⟨aT _,cD _,fun t ht=>absurd ht rG⟩) fun ⟨i,Gx⟩=>fun hk=>?_
 obtain ⟨hi0,hgx,hall⟩:=hk
 replace ha:=ha.up hgx
 replace hoA2:=hoA2.up hgx
 rcases aJ i l.length with hil | hil
 · have hnear:tA (l[(i:Int).toNat]?.getD default).a (l[(i:Int).toNat]?.getD default).b:=hnr i hil
   refine aM 18 [1] ?_
   refine dI (α:=R2) T.sl22 ?_
   refine lP T.agg51 ?_
   refine aA 1 [] ?_
   refine bU 1 rfl (PA _ _ _ k hnear rG) fun v3 G3 Ho3 hle3 hp=>?_
   obtain ⟨ps3,pr3,pc3,rfl,hpA3,hpB3,hpL3,rfl⟩:=hp
   replace ha:=ha.up hle3
   replace hoA2:=hoA2.up hle3
   refine bR 9 [] ?_
   obtain ⟨q,hq1,hq2,hq3,hq4⟩:RowS G3 (ol2[(i:Int).toNat]?.getD default) (os[i]?.getD []):=(hoG2.up (bA hgx hle3)).2 i rG
   have hE:=hose.at (k:=(i:Int)) rG
   rw [aF] at hE
   have hql:q.length=k:=hq4.1.trans hE.1
   have hP:Go.Sl.Below 4 (tP (l[i]?.getD default).a (l[i]?.getD default).b k):=(Eh (hnr i hil) rG).2
   have hpl:pr3.length=k:=hpB3.1.trans (Cu _ _ _)
   refine fS (ι:=Nat) (fun j=>([(13,.int .i64 (j:Int)),(1,.int .i64 (k:Int)),(10,.slice oa2 ol2.length oc2),(11,.int .i64 (i:Int)),(12,.slice ps3 pr3.length pc3),(2,.slice a l.length c)],[(0,some b1,.cells #[.int .i64 p.ins,.int .i64 p.regs,.slice ac p.code.length cc,.slice ao p.outs.length co] 26)])) (fun j=>j≤k∧∀ t:Nat,t<j→(os[i]?.getD [])[t]?.getD 0=(tP (l[i]?.getD default).a (l[i]?.getD default).b k)[t]?.getD 0) (fun j=>k - j) (0) (⟨aT _,fun i h=>absurd h rG⟩) fun j=>fun hk=>?_
   obtain ⟨hj9,hjj⟩:=hk
   rcases aJ j k with hjk | hjk
   · have hx:=hq4.at (m:=(j:Int)) rG
     have hy:=hpB3.at (m:=(j:Int)) rG
     have hxn:=kR hx (hE.2.at _)
     have hyn:=kR hy (hP.at _)
     have hcell:G3.cell (Go.Sl.ab oa2) (Go.Sl.ao oa2+(i:Int).toNat*Cells.sz SV+0)=some (.slice (ol2[(i:Int).toNat]?.getD default).a q.length (ol2[(i:Int).toNat]?.getD default).c):=(kZ rH rG 0 rfl rfl).trans (by rw [hq1])
     refine cJ 14 [1] ?_
     refine dT [] [] T.mixed [[0],[1]] ?_
     refine iM (α:=SV) 2 T.sl212 ?_
     refine gR 3 [] rfl (eS T.one218 rfl hcell) ?_
     refine eD [[4]] ?_
     refine gR 5 [] rfl (qP (α:=IV) T.sl218 rfl rfl hq3 rG) ?_
     refine gR 6 [] rfl (mT T.agg93 rfl (qU hq3 rG) rfl) ?_
     refine eD [[7],[8]] ?_
     refine gR 9 [] rfl (qP (α:=IV) T.sl44 rfl rfl hpA3 rG) ?_
     refine gR 10 [] rfl (mT T.agg93 rfl (qU hpA3 rG) rfl) ?_
     refine fE 11 ?_
     refine cG rfl (VR _ _ _ _ _ hx hy rG rG) ?_
     refine eE ?_
     refine gR 12 [] rfl (eF rfl) ?_
     refine dY ?_
     refine cB ?_
     refine dL (fun hc2=>?_) fun hc2=>?_
     refine bG 15 [] ?_
     rotate_left
     refine bG 8 [] ?_
     rotate_left
     · refine bT ?_
       have hne:¬((os[i]?.getD [])[j]?.getD 0=(tP (l[i]?.getD default).a (l[i]?.getD default).b k)[j]?.getD 0):=by assumption
       exact ⟨by rw [bF (fun h=>hne (by rw [hiff.1 h i hil]))],rfl⟩
     refine cP (j+1) ?_ ?_
     · refine ⟨by omega,fun t ht=>?_⟩
       rcases aJ t j with h | h
       · exact hjj t h
       have e:t=j:=rG
       subst e;exact bD.1 rH
     show k - (j+1)<k - j
     omega
   have hjk:j=k:=rG
   subst hjk
   refine bG 20 [0] ?_
   refine cP ((i+1,G3)) ?_ ?_
   · refine ⟨by omega,bA hgx hle3,fun t ht=>?_⟩
     rcases aJ t i with h | h
     · exact hall t h
     have e:t=i:=rG
     subst e
     exact (Wg hE.1 (Cu _ _ _)).2 hjj
   show l.length - (i+1)<l.length - i
   omega
 refine bG 21 [0] ?_
 refine bT ?_
 exact ⟨by rw [cR (hiff.2 (fun t ht=>hall t rG))],rfl⟩
end
end Go.Proofs.YtngphgeghfdjbaaGreatDoor
end
