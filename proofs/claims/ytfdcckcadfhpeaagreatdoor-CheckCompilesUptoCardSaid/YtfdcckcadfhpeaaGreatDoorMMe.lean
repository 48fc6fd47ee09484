/- uJ of the proof (part 5): what the rows' text needs of the texts that lead to it. -/
import Derived.Test.YtfdcckcadfhpeaaGreatDoorMMd
set_option linter.unusedVariables false
set_option linter.unusedSimpArgs false
set_option linter.unusedSectionVars false
set_option maxHeartbeats 4000000
noncomputable section
set_option maxRecDepth 100000
namespace Go.Proofs.YtfdcckcadfhpeaaGreatDoor
open Go Go.Sl
def E9 (G:A2) (p:PV) (h:PH):Prop:=h.ins=p.ins∧h.regs=p.regs∧h.cn=p.code.length∧h.on=p.outs.length∧Arr G h.ac p.code∧Arr G h.ao p.outs
theorem E9.up {G G':A2} {p:PV} {h:PH} (hh:E9 G p h) (hle:G.le G'):E9 G' p h:=⟨hh.1,hh.2.1,hh.2.2.1,hh.2.2.2.1,hh.2.2.2.2.1.le hle,hh.2.2.2.2.2.le hle⟩
def vT (k:Nat):List (List Int):=(List.range k).map (vS k)
theorem yV (k:Nat):(vT k).length=k:=by unfold vT;rw [aT,cM]
theorem Br (k j:Nat):(vS k j).length=k:=by unfold vS;rw [aI,aM]
theorem Of (k:Nat):D7 4 k (vT k):=fun zs hz=>by
 unfold vT at hz;obtain ⟨j,hj,rfl⟩:=cT.1 hz;exact ⟨Br k j,Rk k j 4 sU⟩
theorem NM {k j:Nat} (h:j<k):(vT k)[j]?.getD []=vS k j:=by
 unfold vT;rw [bQ,eF h];rfl
def zX (p:PV):Prop:=∀ i∈p.code,¬(i.op=6∨i.op=8)
instance (p:PV):Decidable (zX p):=inferInstanceAs (Decidable (∀ i∈p.code,_))
theorem SN {i:I5} (rs:List (List Int)) (h:¬(i.op=6∨i.op=8)):∃ x,zP i rs=some x:=by
 unfold zP;by_cases h1:i.op=2
 · exact ⟨_,aE h1⟩
 by_cases h2:i.op=3
 · exact ⟨_,by simp only [h1,eQ];rw [aE h2]⟩
 by_cases h3:i.op=4
 · exact ⟨_,by simp only [h1,h2,eQ];rw [aE h3]⟩
 by_cases h4:i.op=5∨i.op=7
 · exact ⟨_,by simp only [h1,h2,h3,eQ];rw [aE h4]⟩
 exact ⟨_,by simp only [h1,h2,h3,h4,h,eQ];rfl⟩
theorem Rl {p:PV} (h:zX p) (gs:List (List Int)):∀ k:Nat,k≤p.code.length→∃ rs,wQ p gs k=some rs
 | 0,_=>⟨_,U⟩
 | k+1,hk=>by
   obtain ⟨rs,h1⟩:=Rl h gs k sU;have hm:p.code[(k:Int).toNat]?.getD default∈p.code:=by
    rw [aG,aA sU];exact bY _
   obtain ⟨x,h2⟩:=SN rs (h _ hm);exact ⟨_,Es (x:=rs) h1 h2⟩
theorem Zo {p:PV} (h:zX p) (gs:List (List Int)):∃ os,tJ p gs=some os:=by
 obtain ⟨rs,h1⟩:=Rl h gs _ (aH _);exact ⟨_,by unfold tJ;rw [h1];rfl⟩
def yK (p:PV) (k:Int) (l:List R2):Prop:=p.ins=k∧p.outs.length=l.length∧zX p∧tJ p (vT k.toNat)=some (l.map fun q=>xP q.a q.b k.toNat)
instance (p:PV) (k:Int) (l:List R2):Decidable (yK p k l):=inferInstanceAs (Decidable (_∧_))
theorem SO {os:List (List Int)} {l:List R2} {k:Nat} (hl:os.length=l.length):(os=l.map fun q=>xP q.a q.b k)↔∀ t:Nat,t<l.length→os[t]?.getD []=xP (l[t]?.getD default).a (l[t]?.getD default).b k:=by
 constructor
 · intro h t ht;rw [h,bQ,aA ht];rfl
 intro h;refine fL fun i=>?_;rcases aN i l.length with h1 | h1
 · have:=h i h1;rw [aA sU,dI] at this;rw [aA sU,bQ,this,aA h1];rfl
 rw [bV sU,bV Qm]
theorem XW {xs ys:List Int} {k:Nat} (h1:xs.length=k) (h2:ys.length=k):xs=ys↔∀ t:Nat,t<k→xs[t]?.getD 0=ys[t]?.getD 0:=by
 constructor
 · intro h t _;rw [h]
 intro h;refine fL fun i=>?_;rcases aN i k with h3 | h3
 · have:=h i h3;rw [aA sU,aA sU] at this ⊢;exact congrArg some this
 rw [bV sU,bV sU]
theorem Kg (a b:Int) (k:Nat):(xP a b k).length=k:=by unfold xP;rw [aT,cM]
def uJ (k:Int):Prop:=1≤k∧k≤8
instance (k:Int):Decidable (uJ k):=inferInstanceAs (Decidable (_∧_))
def Dx (l:List R2):Prop:=∀ i:Nat,i<l.length→near (l[i]?.getD default).a (l[i]?.getD default).b
def Cd (l:List R2):Prop:=∃ i:Nat,i<l.length∧((l[i]?.getD default).a=0∧(l[i]?.getD default).b=0)
open Classical in
def tT (k1 k2:Int) (l:List R2):Int:=
 if ¬(uJ k1∧uJ k2) then 70 else if ¬Dx l then 70 else if ¬((l.length:Int)=k1+k2 - 1) then 71 else if Cd l∨Twin l then 71 else 0
theorem Ew {k1 k2:Int} {l:List R2} (h:¬(uJ k1∧uJ k2)):tT k1 k2 l=70:=by unfold tT;rw [aE h]
theorem Rm {k1 k2:Int} {l:List R2} (h:¬Dx l):tT k1 k2 l=70:=by
 unfold tT;by_cases h1:¬(uJ k1∧uJ k2)
 · rw [aE h1]
 rw [aC h1,aE h]
theorem Mm {k1 k2:Int} {l:List R2} (h1:uJ k1∧uJ k2) (h2:Dx l) (h:¬((l.length:Int)=k1+k2 - 1)):tT k1 k2 l=71:=by
 unfold tT;rw [aC (fun h=>h h1),aC (fun h=>h h2),aE h]
theorem Dy {k1 k2:Int} {l:List R2} (h1:uJ k1∧uJ k2) (h2:Dx l) (h:Cd l∨Twin l):tT k1 k2 l=71:=by
 unfold tT;rw [aC (fun h=>h h1),aC (fun h=>h h2)];by_cases h3:¬((l.length:Int)=k1+k2 - 1)
 · rw [aE h3]
 rw [aC h3,aE h]
theorem DI {k1 k2:Int} {l:List R2} (h1:uJ k1∧uJ k2) (h2:Dx l) (h3:(l.length:Int)=k1+k2 - 1) (h:¬(Cd l∨Twin l)):tT k1 k2 l=0:=by
 unfold tT;rw [aC (fun h=>h h1),aC (fun h=>h h2),aC (fun h=>h h3),aC h]
theorem vZ {k1 k2:Int} {l:List R2} (h:tT k1 k2 l=0):uJ k1∧uJ k2∧(l.length:Int)=k1+k2 - 1∧uO l:=by
 by_cases h1:uJ k1∧uJ k2
 · by_cases h2:Dx l
   · by_cases h3:(l.length:Int)=k1+k2 - 1
     · by_cases h4:Cd l∨Twin l
       · rw [Dy h1 h2 h4] at h;omega
       refine ⟨h1.1,h1.2,h3,?_,?_,fun i hi=>⟨h2 i hi,fun h5=>h4 (.inl ⟨i,hi,h5⟩)⟩,fun h5=>h4 (.inr h5)⟩
       · have:=h1.1.1;have:=h1.2.1;omega
       have:=h1.1.2;have:=h1.2.2;omega
     rw [Mm h1 h2 h3] at h;omega
   rw [Rm h2] at h;omega
 rw [Ew h1] at h;omega
open Classical in
def xQ (k1 k2:Int) (l:List R2) (x y z:PV):Int×Int:=
 if ¬tT k1 k2 l=0 then (0,tT k1 k2 l)
 else if ¬sW x=true then (1,80) else if ¬yK x k1 l then (1,180)
 else if ¬sW y=true then (2,80) else if ¬yK y k2 l then (2,180)
 else if ¬sW z=true then (3,80) else if ¬Aj z l then (3,180) else (0,0)
end Go.Proofs.YtfdcckcadfhpeaaGreatDoor
namespace Go.Proofs.YtfdcckcadfhpeaaGreatDoor
open Go Go.Sl Go.ChangeShapes Go.WideShapes Go.RowKit Go.Joins
theorem SP {H:Type} (d:DataW H):1≤Rows.uptoBulk d:=by
 cases d with
 | lit l=>cases l <;> simp [Rows.uptoBulk]
 | nil=>simp [Rows.uptoBulk]
 | ptr d=>simp [Rows.uptoBulk]
 | slice elems spare=>simp [Rows.uptoBulk]
 | agg parts=>simp [Rows.uptoBulk]
 | iface t d=>simp [Rows.uptoBulk]
 | map tN=>simp [Rows.uptoBulk]
 | held h=>simp [Rows.uptoBulk]
theorem SQ {H:Type} (l:List (DataW H)):l.length≤Rows.uptoBulkAll l:=by
 induction l with
 | nil=>simp [Rows.uptoBulkAll]
 | cons x r ih=>have:=SP x;simp only [Rows.uptoBulkAll,aU];omega
theorem HP {H:Type} (l r:List (DataW H)):l.length≤Rows.uptoBulk (.slice l r):=by
 have:=SQ l;simp only [Rows.uptoBulk];omega
theorem dm:Tryz.prog.underlying 3=some (.int .i64):=sX
theorem dn:Tryz.prog.cellsOf 3=1:=sX
theorem JX:Tryz.prog.cellsOf 52=2:=sX
section
variable {H:Type} {enc:I9×Value→H}
theorem dp {P:I6} {W:I8} {E Ti:I9} {f0 f1:Field} (hi:P.underlying Ti=some (.int .i64)) (hs:P.underlying E=some (.struct #[f0,f1]))
 (h0:f0.type=Ti∧f0.offset=0) (h1:f1.type=Ti∧f1.offset=1) (hc:P.cellsOf Ti=1) (hcE:P.cellsOf E=2) :
 Dec (α:=R2) enc P W E (fun _ _=>True):=fun n cs x h=>by
 obtain ⟨xs,m,_,_,hl,hxl,hf⟩:=DataW.trod_struct hs h;rw [hcE] at hl
 match cs,hl with
 | [v0,v1],_ =>
   have hxl':xs.length=2:=hxl
   match xs,hxl' with
   | [y0,y1],_ =>
     have k0:=hf 0 f0 U;have k1:=hf 1 f1 U;rw [h0.1,h0.2,hc] at k0;rw [h1.1,h1.2,hc] at k1;obtain ⟨a0,e0,_,_⟩:=DataW.trod_int hi k0;obtain ⟨a1,e1,_,_⟩:=DataW.trod_int hi k1;simp at e0 e1;exact ⟨⟨a0,a1⟩,by rw [e0,e1];rfl,I3⟩
theorem NN {W:I8} {n:Nat} {v:Value} {d:DataW H×List MemPlace} (h:DataW.trod enc Tryz.prog W 0 (fun _=>true) true n 22 [v]=some d) :
 ∃ (a:J0 Addr) (c:Nat) (l:List R2),v=.slice a l.length c∧Arr (Hs W) a l∧l.length≤c∧l.length≤Rows.uptoBulk d.1:=by
 obtain ⟨a,c,xs,e,hA,hl,hd⟩:=QX (α:=R2) Tryz.underlying22 JX tI (dp dm Tryz.underlying52 ⟨U,U⟩ ⟨U,U⟩ dn JX) h;simp only [kM,and_true] at e;refine ⟨a,c,xs,e,hA,hl,?_⟩;rcases hd with ⟨_,rfl⟩ | ⟨l,r,e,hl,_⟩
 · exact aP _
 rw [e,←hl];exact HP l r
end
section
variable {H:Type} {enc:I9×Value→H}
theorem SR {W:I8} {r:Reach} {b0:Nat} {v:Value} {d:DataW H} {ps:List MemPlace} (hv:Value.okWide Tryz.prog W r b0 22 v) (h:DataW.Trod enc Tryz.prog W 0 (fun _=>true) true 22 v d ps) :
 ∃ (a:J0 Addr) (c:Nat) (l:List R2),v=.slice a l.length c∧Arr (Hs W) a l∧l.length≤c∧l.length≤Rows.uptoBulk d:=by
 obtain ⟨a0,n0,c0,rfl⟩:=okWide_slice Tryz.underlying22 hv;obtain ⟨n,h⟩:=h;exact NN (v:=.slice a0 n0 c0) h
end
end Go.Proofs.YtfdcckcadfhpeaaGreatDoor
namespace Go.Proofs.YtfdcckcadfhpeaaGreatDoor
open Go Go.Sl
def ev:List Int→Int→Int→Int
 | [],_,_=>0
 | c :: f,a,b=>c*b ^ f.length+a*ev f a b
theorem DJ (g a b:Int):∀ f:List Int,ev f (g*a) (g*b)*g=g ^ f.length*ev f a b
 | []=>by simp [ev]
 | c :: f=>by
   have ih:=DJ g a b f;show (c*(g*b) ^ f.length+g*a*ev f (g*a) (g*b))*g=g ^ (f.length+1)*(c*b ^ f.length+a*ev f a b);rw [Int.mul_pow,gI,pA,eV];congr 1
   · ac_rfl
   calc g*a*ev f (g*a) (g*b)*g=g*a*(ev f (g*a) (g*b)*g):=by ac_rfl
    _=g*a*(g ^ f.length*ev f a b):=by rw [ih]
    _=g ^ f.length*g*(a*ev f a b):=by ac_rfl
theorem XX {g:Int} (a b:Int) (c:Int) (f:List Int) (hg:g≠0):ev (c :: f) (g*a) (g*b)=g ^ f.length*ev (c :: f) a b:=by
 have h:=DJ g a b (c :: f);refine oL hg ?_;rw [h,aU,gI]
 ac_rfl
def Aq (p q:Int):Int→List Int→List Int
 | last,[]=>[-(q*last)]
 | last,c :: f=>(p*c - q*last) :: Aq p q c f
theorem Mn (p q:Int):∀ (last:Int) (f:List Int),(Aq p q last f).length=f.length+1
 | _,[]=>rfl
 | _,c :: f=>by show (Aq p q c f).length+1=f.length+1+1;rw [Mn]
theorem Rn (p q a b:Int):∀ (last:Int) (f:List Int),ev (Aq p q last f) a b=(p*b - q*a)*ev f a b - q*last*b ^ f.length
 | last,[]=>by
   show -(q*last)*b ^ 0+a*0=(p*b - q*a)*0 - q*last*b ^ 0;rw [cA,cA,dV,hU];omega
 | last,c :: f=>by
   show (p*c - q*last)*b ^ (Aq p q c f).length+a*ev (Aq p q c f) a b=(p*b - q*a)*(c*b ^ f.length+a*ev f a b) - q*last*b ^ (f.length+1);rw [Mn,Rn p q a b c f,gI];generalize b ^ f.length=B;generalize ev f a b=E;have h1:(p*c - q*last)*(B*b)=p*c*(B*b) - q*last*(B*b):=oY ..;have h2:a*((p*b - q*a)*E - q*c*B)=a*((p*b - q*a)*E) - a*(q*c*B):=oZ ..;have h3:(p*b - q*a)*(c*B+a*E)=(p*b - q*a)*(c*B)+(p*b - q*a)*(a*E):=eV ..;have h4:(p*b - q*a)*(c*B)=p*b*(c*B) - q*a*(c*B):=oY ..;have h5:a*((p*b - q*a)*E)=(p*b - q*a)*(a*E):=by ac_rfl
   have h6:p*c*(B*b)=p*b*(c*B):=by ac_rfl
   have h7:a*(q*c*B)=q*a*(c*B):=by ac_rfl
   rw [h1,h2,h3,h4,h5,h6,h7];omega
theorem XY {p q x:Int} (hc:Int.gcd p q=1) (k:Nat) (h:p ∣ x*q ^ k):p ∣ x:=by
 have h1:p.natAbs ∣ x.natAbs*q.natAbs ^ k:=by rw [←qQ,←fM];exact Int.natAbs_dvd_natAbs.mpr h
 exact Int.natAbs_dvd_natAbs.mp ((Nat.Coprime.pow_right k (show Nat.Coprime p.natAbs q.natAbs from hc)).dvd_of_dvd_mul_right h1)
theorem JY {p q:Int} (hc:Int.gcd p q=1):∀ (F:List Int) (last:Int) (m:Nat),F.length=m+1→ev F p q=-(q*last)*q ^ m→∃ f:List Int,f.length=m∧F=Aq p q last f
 | [],_,_,h,_=>by simp at h
 | [c],last,m,h,he=>by
   have hm:m=0:=by simpa using h.symm
   subst hm;refine ⟨[],U,?_⟩;have e:c*q ^ 0+p*0=-(q*last)*q ^ 0:=he;rw [lU,iE,cA,dV,iE] at e;rw [e];rfl
 | c :: c' :: F,last,m,h,he=>by
   obtain ⟨k,rfl⟩:∃ k,m=k+1:=⟨F.length,by simp at h;omega⟩
   have hl:(c' :: F).length=k+1:=by simp at h ⊢;omega
   have e:c*q ^ (c' :: F).length+p*ev (c' :: F) p q=-(q*last)*q ^ (k+1):=he;rw [hl] at e;have e1:(c+q*last)*q ^ (k+1)=p*(-ev (c' :: F) p q):=by
    rw [pA,jF];rw [hU] at e;omega
   have hd:∃ d:Int,c=p*d - q*last∧ev (c' :: F) p q=-(q*d)*q ^ k:=by
    by_cases hp:p=0
    · subst hp;have hq:q.natAbs=1:=by simpa [Int.gcd] using hc
      have hq2:q*q=1:=by
       rcases Int.natAbs_eq q with h | h <;> rw [hq] at h <;> rw [h] <;> rfl
      have hqk:∀ n:Nat,q ^ n*q ^ n=1:=fun n=>by
       induction n with
       | zero=>simp
       | succ n ih=>rw [gI,show q ^ n*q*(q ^ n*q)=(q ^ n*q ^ n)*(q*q) by ac_rfl,ih,hq2];rfl
      refine ⟨-(ev (c' :: F) 0 q*q ^ (k+1)),?_,?_⟩
      · rw [eR] at e1;have:c+q*last=0:=by
         rcases Int.mul_eq_zero.mp e1 with h | h
         · exact h
         have:=hqk (k+1);rw [h] at this;simp at this
        rw [eR];omega
      have h2:-(q * -(ev (c' :: F) 0 q*q ^ (k+1)))*q ^ k=ev (c' :: F) 0 q*(q ^ (k+1)*q ^ (k+1)):=by
       rw [jF,Int.neg_neg,gI];ac_rfl
      rw [h2,hqk,iE]
    obtain ⟨d,hd⟩:=XY (x:=c+q*last) hc (k+1) ⟨_,e1⟩;refine ⟨d,by omega,?_⟩;refine Int.eq_of_mul_eq_mul_left hp ?_;rw [hd] at e1;have h3:p*(-(q*d)*q ^ k)=-(p*d*q ^ (k+1)):=by
     rw [gI,hU,jF];congr 1;ac_rfl
    rw [h3,e1,jF,Int.neg_neg]
   obtain ⟨d,hd1,hd2⟩:=hd;obtain ⟨f,hf1,hf2⟩:=JY hc (c' :: F) d k hl hd2;refine ⟨d :: f,by rw [aU,hf1],?_⟩;show c :: c' :: F=(p*d - q*last) :: Aq p q d f;rw [←hf2,←hd1]
def wW (u v:Int):Nat→List Int
 | 0=>[1]
 | e+1=>Aq v (-u) 0 (wW u v e)
theorem Ex (u v:Int):∀ e,(wW u v e).length=e+1
 | 0=>rfl
 | e+1=>by show (Aq v (-u) 0 (wW u v e)).length=_;rw [Mn,Ex]
theorem Mo (u v a b:Int):∀ e,ev (wW u v e) a b=(u*a+v*b) ^ e
 | 0=>by show (1:Int)*b ^ 0+a*0=_;simp
 | e+1=>by
   show ev (Aq v (-u) 0 (wW u v e)) a b=_;rw [Rn,Mo,cA,eR,oE,gI,hU,Int.sub_neg,dH,Int.add_comm (v*b)]
def Fx (t:Int) (F G:List Int):List Int:=List.zipWith (fun x y=>x - t*y) F G
theorem Rp (t a b:Int):∀ F G:List Int,F.length=G.length→ev (Fx t F G) a b=ev F a b - t*ev G a b
 | [],[],_=>by show (0:Int)=0 - t*0;simp
 | x :: F,y :: G,h=>by
   have hl:F.length=G.length:=by simpa using h
   show (x - t*y)*b ^ (Fx t F G).length+a*ev (Fx t F G) a b=(x*b ^ F.length+a*ev F a b) - t*(y*b ^ G.length+a*ev G a b);have hz:(Fx t F G).length=G.length:=by unfold Fx;rw [jG,hl,pU]
   rw [hz,Rp t a b F G hl,hl,oY,oZ,eV];have h1:t*y*b ^ G.length=t*(y*b ^ G.length):=by ac_rfl
   have h2:a*(t*ev G a b)=t*(a*ev G a b):=by ac_rfl
   rw [h1,h2];omega
theorem NO {p q u v:Int} (hc:Int.gcd p q=1) (h1:u*p+v*q=1) (F:List Int) (e:Nat) (hF:F.length=e+1) :
 ∃ f:List Int,f.length=e∧Fx (ev F p q) F (wW u v e)=Aq p q 0 f∧∀ a b:Int,ev F a b - ev F p q*(u*a+v*b) ^ e=(p*b - q*a)*ev f a b:=by
 have hl:F.length=(wW u v e).length:=by rw [hF,Ex]
 have hz:(Fx (ev F p q) F (wW u v e)).length=e+1:=by unfold Fx;rw [jG,Ex,hF,pU]
 obtain ⟨f,hf1,hf2⟩:=JY hc (Fx (ev F p q) F (wW u v e)) 0 e hz (by
  rw [Rp _ _ _ _ _ hl,Mo,h1,Int.one_pow,iE,pY];simp)
 refine ⟨f,hf1,hf2,fun a b=>?_⟩;have h3:=Rn p q a b 0 f;rw [←hf2,Rp _ _ _ _ _ hl,Mo,cA,eR,oE] at h3;exact h3
theorem DK (a b:Int):∀ n:Nat,ev (List.replicate n 0) a b=0
 | 0=>rfl
 | n+1=>by
   show (0:Int)*b ^ (List.replicate n (0:Int)).length+a*ev (List.replicate n 0) a b=0;rw [DK,eR,cA];rfl
theorem JZ (a b:Int):∀ (n j:Nat),j<n→ev ((List.replicate n (0:Int)).set j 1) a b=a ^ j*b ^ (n - 1 - j)
 | n+1,0,_=>by
   show (1:Int)*b ^ (List.replicate n (0:Int)).length+a*ev (List.replicate n 0) a b=a ^ 0*b ^ (n+1 - 1 - 0);rw [DK,aM,cA,dV,lU];rfl
 | n+1,j+1,h=>by
   show (0:Int)*b ^ ((List.replicate n (0:Int)).set j 1).length+a*ev ((List.replicate n (0:Int)).set j 1) a b=a ^ (j+1)*b ^ (n+1 - 1 - (j+1));rw [JZ a b n j sU,eR,mW,gI,show n+1 - 1 - (j+1)=n - 1 - j by omega]
   ac_rfl
def xF (n:Nat):List Int:=(List.range n).map fun (k:Nat)=>(k:Int)
theorem Pp (n:Nat):(xF n).length=n:=by unfold xF;rw [aT,cM]
theorem Rq (n:Nat):xF (n+1)=xF n++[(n:Int)]:=by unfold xF;rw [List.range_succ,jV];rfl
theorem c92 (G:A2) (n:Nat) (hn:n≤1048576) :
 Does Tryz.prog 92 [.int .i64 (n:Int)] G [] (fun v G' Ho=>∃ (s:J0 Addr) (c:Nat),v=.slice s (xF n).length c∧Arr G' s (xF n)∧(xF n).length≤c∧Ho=[]):=by
 refine D0 Tryz.func92 Tryz.ntmps92 fun w=>?_;refine dK 9 (Row 3 ([]:List Int) []) ?_;refine bJ 18 [] ?_;refine fY (ι:=Nat×(J0 Addr×Nat×List Value)) (fun (k,(o,d,j))=>([(6,.int .i64 (k:Int)),(3,.slice o (xF k).length d),(5,Go.Value.int Go.IntKind.i64 (↑n:Int)),(2,Go.Value.slice Option.none 0 0)],[(9,o.map (·.block),Row 3 (xF k) j)])) (fun (k,(o,d,j))=>k≤n∧A3 o d (xF k) j) (fun (k,(o,d,j))=>n - k) ((0,(none,0,[]))) (⟨aP _,dN⟩) ⟨U,U,U,U,I3⟩ ⟨U,I3⟩ fun ⟨k,(o,d,j)⟩=>fun hk=>?_;obtain ⟨hk1,hk2⟩:=hk;have hkl:=Pp k;rcases aN k n with hke | hke
 · refine aK 20 [1] ?_;refine eH (α:=Int) 10 [((↑k:Int))] U T.sl24 T.el3 U U U U U fun b1=>?_;refine iP (α:=Int) 9 T.sl24 T.el3 (eP 10 U) fun a1 c1 junk1 ho1=>?_;refine aY 8 [] ?_;refine dW 6 U (show _=Value.int .i64 ((k+1:Nat):Int) from U) ?_;refine dW 3 U (show _=Value.slice a1 (xF (k+1)).length c1 by rw [Rq]) ?_;refine iV 9 (Row 3 (xF (k+1)) junk1) U (by rw [Rq]) ?_;refine cO ((k+1,(a1,c1,junk1))) ?_ ?_
   · exact ⟨hke,by rw [Rq];exact ho1⟩
   show n - (k+1)<n - k;omega
 have hke:k=n:=sU;subst hke;refine bE 19 [0] ?_;refine fO 9 U hk2 fun G8 hle8 hA8=>?_;refine cG ?_;exact ⟨_,_,U,hA8,hk2.le,U⟩
def Mp (l:List R2):Nat:=(l.filter fun p=>decide (Int.gcd p.a p.b≠1)).length
def DM (i:I5):Prop:=i.op=6∨i.op=8
instance (i:I5):Decidable (DM i):=inferInstanceAs (Decidable (_∨_))
def ke (i:I5):Prop:=(i.op=6∨i.op=5)∧(512<i.c∨i.c < -512)
instance (i:I5):Decidable (ke i):=inferInstanceAs (Decidable (_∧_))
def Zp (c:List I5):Nat:=(c.filter fun i=>decide (DM i)).length
def tf (p:PV) (l:List R2):Prop:=(∀ i∈p.code,¬ke i)∧(Zp p.code:Int)≤(l.length:Int)*((l.length:Int) - 1) / 2+((l.length:Int) - 1)*(Mp l:Int)
instance (p:PV) (l:List R2):Decidable (tf p l):=inferInstanceAs (Decidable (_∧_))
def Fy (a b s:Int):Bool:=((Int.gcd a b:Int) - s*a).tmod b == 0
def SS (a b:Int):Nat→Nat→Nat
 | 0,k=>k
 | n+1,k=>if Fy a b (k:Int) || Fy a b (-(k:Int)) then k else SS a b n (k+1)
def Dz (a b:Int):Nat:=SS a b 16 0
def bezS (a b:Int):Int:=if b=0 then a.tdiv (Int.gcd a b) else if Fy a b (Dz a b:Int) then (Dz a b:Int) else -(Dz a b:Int)
def bezT (a b:Int):Int:=if b=0 then 0 else ((Int.gcd a b:Int) - bezS a b*a).tdiv b
def SU (a b:Int):Bool:=(a == 0 && b == 0) || (bezS a b*a+bezT a b*b == (Int.gcd a b:Int) && decide ((bezS a b).natAbs+(bezT a b).natAbs≤17) && decide (Dz a b≤15) && (b == 0 || Fy a b (Dz a b:Int) || Fy a b (-(Dz a b:Int))))
theorem XZ:((List.range 33).all fun i=>(List.range 33).all fun j=>SU ((i:Int) - 16) ((j:Int) - 16))=true:=xI
theorem dq {a b:Int} (h:near a b):SU a b=true:=by
 have h1:=List.all_eq_true.mp XZ (a+16).toNat (List.mem_range.mpr (by unfold near at h;omega));have h2:=List.all_eq_true.mp h1 (b+16).toNat (List.mem_range.mpr (by unfold near at h;omega));rw [show (((a+16).toNat:Nat):Int) - 16=a by unfold near at h;omega,show (((b+16).toNat:Nat):Int) - 16=b by unfold near at h;omega] at h2;exact h2
theorem Gt {a b:Int} (h:near a b) (h0:¬(a=0∧b=0)):bezS a b*a+bezT a b*b=Int.gcd a b∧(bezS a b).natAbs+(bezT a b).natAbs≤17∧Dz a b≤15∧(b=0∨Fy a b (Dz a b:Int)=true∨Fy a b (-(Dz a b:Int))=true):=by
 have h1:=dq h;unfold SU at h1;simp only [kP,aF,beq_iff_eq,aO] at h1;rcases h1 with h1 | ⟨⟨⟨e1,e2⟩,e3⟩,e4⟩
 · exact absurd h1 h0
 exact ⟨e1,e2,e3,e4.elim (fun h=>h.elim .inl (fun h=>.inr (.inl h))) (fun h=>.inr (.inr h))⟩
theorem Vf (G:A2) (b:Nat) (n:Int) (ac:J0 Addr) (cc:Nat) (code:List I5) (j:List Value) (wa:J0 Addr) (wn wc:Nat) (op to x y c:Int) (ho:A3 ac cc code j) (hl:code.length≤1048576) :
 Does Tryz.prog 228 [.pointer (some ⟨b,0,none⟩),.int .i64 op,.int .i64 to,.int .i64 x,.int .i64 y,.int .i64 c] G [(0,some b,.cells #[.int .i64 n,.slice ac code.length cc,.slice wa wn wc] 267),(1,ac.map (·.block),Row 91 code j)]
  (fun v G' Ho=>v=.tuple #[]∧G'=G∧∃ (a':J0 Addr) (c':Nat) (j':List Value),A3 a' c' (code++[⟨op,to,x,y,c⟩]) j'∧Ho=[(0,some b,.cells #[.int .i64 n,.slice a' (code++[(⟨op,to,x,y,c⟩:I5)]).length c',.slice wa wn wc] 267),(1,a'.map (·.block),Row 91 (code++[⟨op,to,x,y,c⟩]) j')]):=by
 refine D0 Tryz.func228 Tryz.ntmps228 fun w=>?_;refine aK 11 [0] ?_;refine aZ (cQ (cs:=[_,_,_,_,_]) T.st91 U U U) ?_;refine eH (α:=I5) 2 [⟨op,to,x,y,c⟩] U T.sl23 T.el91 U U U U U fun b1=>?_;refine iP (α:=I5) 1 T.sl23 T.el91 (eP 2 U) fun a1 c1 junk1 ho1=>?_;refine aY 4 [0] ?_;refine jX (.inl U) (Ho:=[(0,some b,.cells #[.int .i64 n,.slice a1 (code++[(⟨op,to,x,y,c⟩:I5)]).length c1,.slice wa wn wc] 267),(1,a1.map (·.block),Row 91 (code++[⟨op,to,x,y,c⟩]) junk1)]) U ⟨U,U,I3⟩ ?_;exact ⟨U,U,a1,c1,junk1,ho1,U⟩
def yB (to c:Int):List Sl.Instr:=if c=1 then [] else if c=-1 then [⟨2,to,to,0,0⟩] else [⟨6,to,to,0,c⟩]
theorem dt (G:A2) (b:Nat) (n:Int) (ac:J0 Addr) (cc:Nat) (code:List I5) (j:List Value) (wa:J0 Addr) (wn wc:Nat) (to c:Int) (ho:A3 ac cc code j) (hl:code.length≤1048576) :
 Does Tryz.prog 193 [.pointer (some ⟨b,0,none⟩),.int .i64 to,.int .i64 c] G [(0,some b,.cells #[.int .i64 n,.slice ac code.length cc,.slice wa wn wc] 267),(1,ac.map (·.block),Row 91 code j)]
  (fun v G' Ho=>v=.tuple #[]∧G'=G∧∃ (a':J0 Addr) (c':Nat) (j':List Value),A3 a' c' (code++yB to c) j'∧Ho=[(0,some b,.cells #[.int .i64 n,.slice a' (code++yB to c).length c',.slice wa wn wc] 267),(1,a'.map (·.block),Row 91 (code++yB to c) j')]):=by
 refine D0 Tryz.func193 Tryz.ntmps193 fun w=>?_;refine bJ 12 [] ?_;refine cF (fun hc1=>?_) fun hc1=>?_;refine bE 2 [] ?_;rotate_left;refine bJ 6 [] ?_;refine cF (fun hc2=>?_) fun hc2=>?_;refine aK 4 [] ?_;refine fF 0 U T.fn228 U (Vf _ b n ac cc code j wa wn wc _ _ _ _ _ ho hl) (tB ⟨U,U,I3⟩) fun v1 G1 Ho1 hle1 hp=>?_;obtain ⟨rfl,rfl,a1,d1,j1,ho1,rfl⟩:=hp;refine aY 2 [] ?_;rotate_left;refine aK 5 [] ?_;refine fF 0 U T.fn228 U (Vf _ b n ac cc code j wa wn wc _ _ _ _ _ ho hl) (tB ⟨U,U,I3⟩) fun v1 G1 Ho1 hle1 hp=>?_;obtain ⟨rfl,rfl,a1,d1,j1,ho1,rfl⟩:=hp;refine aY 2 [] ?_;rotate_left
 · have e:yB to c=[]:=by unfold yB;rw [aE hc1]
   rw [e,cK];refine jX Am (Ho:=[(0,some b,.cells #[.int .i64 n,.slice ac code.length cc,.slice wa wn wc] 267),(1,ac.map (·.block),Row 91 code j)]) U ⟨U,U,I3⟩ ?_;exact ⟨U,U,ac,cc,j,ho,U⟩
 · have e:yB to c=[⟨2,to,to,0,0⟩]:=by unfold yB;rw [aC hc1,aE hc2]
   rw [e];refine jX Am (Ho:=[(0,some b,.cells #[.int .i64 n,.slice a1 (code++[(⟨2,to,to,0,0⟩:I5)]).length d1,.slice wa wn wc] 267),(1,a1.map (·.block),Row 91 (code++[⟨2,to,to,0,0⟩]) j1)]) U ⟨U,U,I3⟩ ?_;exact ⟨U,U,a1,d1,j1,ho1,U⟩
 have e:yB to c=[⟨6,to,to,0,c⟩]:=by unfold yB;rw [aC hc1,aC hc2]
 rw [e];refine jX Am (Ho:=[(0,some b,.cells #[.int .i64 n,.slice a1 (code++[(⟨6,to,to,0,c⟩:I5)]).length d1,.slice wa wn wc] 267),(1,a1.map (·.block),Row 91 (code++[⟨6,to,to,0,c⟩]) j1)]) U ⟨U,U,I3⟩ ?_;exact ⟨U,U,a1,d1,j1,ho1,U⟩
def tE (to x c:Int):List Sl.Instr:=if c=0 then [⟨4,to,x,x,0⟩] else if c=1∧to=x then [] else if c=1 then [⟨1,to,x,0,0⟩] else if c=-1 then [⟨2,to,x,0,0⟩] else [⟨5,to,x,0,c⟩]
theorem Hk (G:A2) (b:Nat) (n:Int) (ac:J0 Addr) (cc:Nat) (code:List I5) (j:List Value) (wa:J0 Addr) (wn wc:Nat) (to x c:Int) (ho:A3 ac cc code j) (hl:code.length≤1048576) :
 Does Tryz.prog 195 [.pointer (some ⟨b,0,none⟩),.int .i64 to,.int .i64 x,.int .i64 c] G [(0,some b,.cells #[.int .i64 n,.slice ac code.length cc,.slice wa wn wc] 267),(1,ac.map (·.block),Row 91 code j)]
  (fun v G' Ho=>v=.tuple #[]∧G'=G∧∃ (a':J0 Addr) (c':Nat) (j':List Value),A3 a' c' (code++tE to x c) j'∧Ho=[(0,some b,.cells #[.int .i64 n,.slice a' (code++tE to x c).length c',.slice wa wn wc] 267),(1,a'.map (·.block),Row 91 (code++tE to x c) j')]):=by
 refine D0 Tryz.func195 Tryz.ntmps195 fun w=>?_;refine bJ 8 [] ?_;refine cF (fun hc1=>?_) fun hc1=>?_;refine aK 5 [] ?_;refine fF 0 U T.fn228 U (Vf _ b n ac cc code j wa wn wc _ _ _ _ _ ho hl) (tB ⟨U,U,I3⟩) fun v1 G1 Ho1 hle1 hp=>?_;obtain ⟨rfl,rfl,a1,d1,j1,ho1,rfl⟩:=hp;refine aY 2 [] ?_;rotate_left;refine aK 5 [] ?_;apply bS 4 24 28 U;intro hg1;refine aB 7 [] ?_;exact cC 4 0;intro hg1;refine aB 4 [] ?_;exact cC 4 0;refine bG 3 [] ?_;refine cF (fun hc2=>?_) fun hc2=>?_;refine bE 2 [] ?_;rotate_left;refine bJ 7 [] ?_;refine cF (fun hc3=>?_) fun hc3=>?_;refine aK 4 [] ?_;refine fF 0 U T.fn228 U (Vf _ b n ac cc code j wa wn wc _ _ _ _ _ ho hl) (tB ⟨U,U,I3⟩) fun v1 G1 Ho1 hle1 hp=>?_;obtain ⟨rfl,rfl,a1,d1,j1,ho1,rfl⟩:=hp;refine aY 2 [] ?_;rotate_left;refine bJ 7 [] ?_;refine cF (fun hc4=>?_) fun hc4=>?_;refine aK 4 [] ?_;refine fF 0 U T.fn228 U (Vf _ b n ac cc code j wa wn wc _ _ _ _ _ ho hl) (tB ⟨U,U,I3⟩) fun v1 G1 Ho1 hle1 hp=>?_;obtain ⟨rfl,rfl,a1,d1,j1,ho1,rfl⟩:=hp;refine aY 2 [] ?_;rotate_left;refine aK 5 [] ?_;refine fF 0 U T.fn228 U (Vf _ b n ac cc code j wa wn wc _ _ _ _ _ ho hl) (tB ⟨U,U,I3⟩) fun v1 G1 Ho1 hle1 hp=>?_;obtain ⟨rfl,rfl,a1,d1,j1,ho1,rfl⟩:=hp;refine aY 2 [] ?_;rotate_left
 · have e:tE to x c=[⟨4,to,x,x,0⟩]:=by unfold tE;rw [aE hc1]
   rw [e];refine jX Am (Ho:=[(0,some b,.cells #[.int .i64 n,.slice a1 (code++[(⟨4,to,x,x,0⟩:I5)]).length d1,.slice wa wn wc] 267),(1,a1.map (·.block),Row 91 (code++[⟨4,to,x,x,0⟩]) j1)]) U ⟨U,U,I3⟩ ?_;exact ⟨U,U,a1,d1,j1,ho1,U⟩
 · have e:tE to x c=[]:=by unfold tE;rw [aC hc1,aE hc2]
   rw [e,cK];refine jX Am (Ho:=[(0,some b,.cells #[.int .i64 n,.slice ac code.length cc,.slice wa wn wc] 267),(1,ac.map (·.block),Row 91 code j)]) U ⟨U,U,I3⟩ ?_;exact ⟨U,U,ac,cc,j,ho,U⟩
 · have e:tE to x c=[⟨1,to,x,0,0⟩]:=by unfold tE;rw [aC hc1,aC hc2,aE hc3]
   rw [e];refine jX Am (Ho:=[(0,some b,.cells #[.int .i64 n,.slice a1 (code++[(⟨1,to,x,0,0⟩:I5)]).length d1,.slice wa wn wc] 267),(1,a1.map (·.block),Row 91 (code++[⟨1,to,x,0,0⟩]) j1)]) U ⟨U,U,I3⟩ ?_;exact ⟨U,U,a1,d1,j1,ho1,U⟩
 · have e:tE to x c=[⟨2,to,x,0,0⟩]:=by unfold tE;rw [aC hc1,aC hc2,aC hc3,aE hc4]
   rw [e];refine jX Am (Ho:=[(0,some b,.cells #[.int .i64 n,.slice a1 (code++[(⟨2,to,x,0,0⟩:I5)]).length d1,.slice wa wn wc] 267),(1,a1.map (·.block),Row 91 (code++[⟨2,to,x,0,0⟩]) j1)]) U ⟨U,U,I3⟩ ?_;exact ⟨U,U,a1,d1,j1,ho1,U⟩
 have e:tE to x c=[⟨5,to,x,0,c⟩]:=by unfold tE;rw [aC hc1,aC hc2,aC hc3,aC hc4]
 rw [e];refine jX Am (Ho:=[(0,some b,.cells #[.int .i64 n,.slice a1 (code++[(⟨5,to,x,0,c⟩:I5)]).length d1,.slice wa wn wc] 267),(1,a1.map (·.block),Row 91 (code++[⟨5,to,x,0,c⟩]) j1)]) U ⟨U,U,I3⟩ ?_;exact ⟨U,U,a1,d1,j1,ho1,U⟩
def SW (i:I5) (σ:Int→Int):J0 Int:=
 if i.op=2 then some (-σ i.a)
 else if i.op=3 then some (σ i.a+σ i.b)
 else if i.op=4 then some (σ i.a - σ i.b)
 else if i.op=5∨i.op=7 then some (σ i.a*cst i)
 else if i.op=6∨i.op=8 then (if σ i.a % cst i=0 then some (σ i.a / cst i) else none)
 else some (σ i.a)
def upd (σ:Int→Int) (r v:Int):Int→Int:=fun x=>if x=r then v else σ x
theorem uN (σ:Int→Int) (r v:Int):upd σ r v r=v:=aE U
theorem uF (σ:Int→Int) {r x:Int} (v:Int) (h:x≠r):upd σ r v x=σ x:=aC h
theorem Zq (σ:Int→Int) (r v w:Int):upd (upd σ r v) r w=upd σ r w:=by
 funext x;unfold upd;split <;> rfl
theorem Kh (σ:Int→Int) (r:Int):upd σ r (σ r)=σ:=by
 funext x;unfold upd;split
 · rename_i h;rw [h]
 rfl
def wC:List I5→(Int→Int)→J0 (Int→Int)
 | [],σ=>some σ
 | i :: l,σ=>(SW i σ).bind fun x=>wC l (upd σ i.to x)
theorem DN (l m:List I5) (σ:Int→Int):wC (l++m) σ=(wC l σ).bind (wC m):=by
 induction l generalizing σ with
 | nil=>rfl
 | cons i l ih =>
   show (SW i σ).bind (fun x=>wC (l++m) (upd σ i.to x))=((SW i σ).bind fun x=>wC l (upd σ i.to x)).bind (wC m);cases SW i σ with
   | none=>rfl
   | some x=>exact ih _
theorem uB {l m:List I5} {σ σ1 σ2:Int→Int} (h1:wC l σ=some σ1) (h2:wC m σ1=some σ2):wC (l++m) σ=some σ2:=by
 rw [DN,h1];exact h2
theorem Ea {i:I5} {σ:Int→Int} {x:Int} (h:SW i σ=some x):wC [i] σ=some (upd σ i.to x):=by
 show (SW i σ).bind (fun x=>some (upd σ i.to x))=_;rw [h];rfl
theorem Pq (to a b:Int) (σ:Int→Int):wC [⟨3,to,a,b,0⟩] σ=some (upd σ to (σ a+σ b)):=Ea U
theorem Ki (to a b:Int) (σ:Int→Int):wC [⟨4,to,a,b,0⟩] σ=some (upd σ to (σ a - σ b)):=Ea U
theorem vD (to x c:Int) (σ:Int→Int):wC (tE to x c) σ=some (upd σ to (c*σ x)):=by
 unfold tE;by_cases h0:c=0
 · rw [aE h0,Ki,h0,pY,eR]
 rw [aC h0];by_cases h1:c=1∧to=x
 · rw [aE h1,h1.1,h1.2,eN,Kh];rfl
 rw [aC h1];by_cases h2:c=1
 · rw [aE h2,h2,eN];rfl
 rw [aC h2];by_cases h3:c=-1
 · rw [aE h3,h3,hU,eN];rfl
 rw [aC h3];refine (Ea (x:=σ x*c) ?_).trans (by rw [dH]);unfold SW;rw [aC (show ¬((5:Int)=2) by decide),aC (show ¬((5:Int)=3) by decide),aC (show ¬((5:Int)=4) by decide),aE (.inl rfl),CM (.inl rfl)]
theorem DP (to c:Int) (σ:Int→Int) (hc:c≠0) (hd:c ∣ σ to):wC (yB to c) σ=some (upd σ to (σ to / c)):=by
 unfold yB;by_cases h1:c=1
 · rw [aE h1,h1,Int.ediv_one,Kh];rfl
 rw [aC h1];by_cases h2:c=-1
 · rw [aE h2,h2,Int.ediv_neg,Int.ediv_one];rfl
 rw [aC h2];refine Ea ?_;unfold SW;rw [aC (show ¬((6:Int)=2) by decide),aC (show ¬((6:Int)=3) by decide),aC (show ¬((6:Int)=4) by decide),aC (show ¬((6:Int)=5∨(6:Int)=7) by decide),aE (.inl rfl),CM (.inr rfl)];exact aE (Int.emod_eq_zero_of_dvd hd)
theorem Wu (to g:Int) (hg:g≠0):∀ (m:Nat) (σ:Int→Int) (v:Int),σ to=g ^ m*v→wC ((List.replicate m (yB to g)).flatten) σ=some (upd σ to v)
 | 0,σ,v,h=>by
   rw [lU,eN] at h;rw [←h,Kh];rfl
 | m+1,σ,v,h=>by
   have e:σ to=g*(g ^ m*v):=by rw [h,gI];ac_rfl
   rw [kB,mU];refine (uB (DP to g σ hg ⟨_,e⟩) (Wu to g hg m _ v ?_)).trans ?_
   · rw [uN,e,pF _ hg]
   rw [Zq]
def Rr (to c:Int):Int→Int→Nat→List I5
 | fr,k,0=>tE to fr k
 | fr,k,e+1=>if 512<k*c∨k*c < -512 then tE to fr k++Rr to c to c e else Rr to c fr (k*c) e
def Bl (to a c:Int) (e:Nat):List Sl.Instr:=
 if (c=0∧0<e)∨c=1∨c=-1 then tE to a (if c=-1∧e % 2=0 then 1 else c) else Rr to c a 1 e
theorem Rs (to c:Int):∀ (e:Nat) (fr k:Int) (σ:Int→Int),wC (Rr to c fr k e) σ=some (upd σ to (σ fr*(k*c ^ e)))
 | 0,fr,k,σ=>by
   unfold Rr;rw [vD,lU,iE,dH]
 | e+1,fr,k,σ=>by
   unfold Rr;split
   · refine (uB (vD to fr k σ) (Rs to c e to c _)).trans ?_;rw [Zq,uN];congr 2;rw [gI];ac_rfl
   rw [Rs to c e fr (k*c) σ];congr 2;rw [gI];ac_rfl
theorem Fz (e:Nat):(-1:Int) ^ e=if e % 2=0 then 1 else -1:=by
 induction e with
 | zero=>rfl
 | succ e ih =>
   rw [gI,ih];by_cases h:e % 2=0
   · rw [aE h,aC (by omega)];rfl
   rw [aC h,aE (by omega)];rfl
theorem SX (to a c:Int) (e:Nat) (σ:Int→Int):wC (Bl to a c e) σ=some (upd σ to (σ a*c ^ e)):=by
 unfold Bl;by_cases h:(c=0∧0<e)∨c=1∨c=-1
 · rw [aE h,vD];congr 2;rw [dH];congr 1;rcases h with ⟨rfl,h⟩ | rfl | rfl
   · rw [aC (fun h=>absurd h.1 tI),rZ sU]
   · rw [aC (fun h=>absurd h.1 tI),Int.one_pow]
   rw [Fz];by_cases he:e % 2=0
   · rw [aE ⟨rfl,he⟩,aE he]
   rw [aC (fun h=>he h.2),aC he]
 rw [aC h,Rs,eN]
def uV (wh:List R2) (k:Int):R2:=wh[k.toNat]?.getD default
def Cr (wh:List R2) (k i:Int):Int:=bezS (uV wh k).a (uV wh k).b*(uV wh i).a+bezT (uV wh k).a (uV wh k).b*(uV wh i).b
def Bm (wh:List R2) (k i:Int):Int:=(uV wh k).a*(uV wh i).b - (uV wh i).a*(uV wh k).b
def De (n:Int) (wh:List R2) (k:Int) (e:Nat) (i:Int):List Sl.Instr:=
 (if Cr wh k i≠0∨e=0 then Bl (3*n) k (Cr wh k i) e++[⟨4,i,i,3*n,0⟩] else [])++(if Bm wh k i=1 then [] else yB i (Bm wh k i))
def zS (n:Int) (wh:List R2) (k:Int) (e:Nat):List Int→List I5
 | []=>[]
 | i :: left=>De n wh k e i++zS n wh k e left
theorem DQ {n:Int} {wh:List R2} {k:Int} {e:Nat} {i:Int} {σ:Int→Int} {y:Int} (hk:k≠3*n) (hi:i≠3*n) (hd:Bm wh k i≠0) (hy:σ i - σ k*Cr wh k i ^ e=Bm wh k i*y) :
 ∃ σ',wC (De n wh k e i) σ=some σ'∧σ' i=y∧∀ r,r≠i→r≠3*n→σ' r=σ r:=by
 obtain ⟨σ1,h1,h2,h3⟩:∃ σ1,wC (if Cr wh k i≠0∨e=0 then Bl (3*n) k (Cr wh k i) e++[⟨4,i,i,3*n,0⟩] else []) σ=some σ1∧σ1 i=Bm wh k i*y∧∀ r,r≠i→r≠3*n→σ1 r=σ r:=by
  by_cases h:Cr wh k i≠0∨e=0
  · rw [aE h];refine ⟨_,uB (SX _ _ _ _ _) (Ki _ _ _ _),?_,fun r h1 h2=>?_⟩
    · rw [uN,uN,uF _ _ hi,hy]
    rw [uF _ _ h1,uF _ _ h2]
  rw [aC h];refine ⟨σ,U,?_,fun _ _ _=>rfl⟩;have hl:Cr wh k i=0:=cV fun x=>h (.inl x);have he:e≠0:=fun x=>h (.inr x);rw [←hy,hl,rZ he,cA,oE]
 unfold De;by_cases h:Bm wh k i=1
 · rw [aE h,cK];exact ⟨σ1,h1,by rw [h2,h,eN],h3⟩
 rw [aC h];refine ⟨_,uB h1 (DP i (Bm wh k i) σ1 hd ⟨y,h2⟩),?_,fun r g1 g2=>?_⟩
 · rw [uN,h2,pF _ hd]
 rw [uF _ _ g1];exact h3 r g1 g2
theorem Wv {n:Int} {wh:List R2} {k:Int} {e:Nat} (hk:k≠3*n) (y:Int→Int):∀ (left:List Int) (σ:Int→Int),left.Nodup→k ∉ left→(∀ i∈left,i≠3*n∧Bm wh k i≠0∧σ i - σ k*Cr wh k i ^ e=Bm wh k i*y i)→
 ∃ σ',wC (zS n wh k e left) σ=some σ'∧(∀ i∈left,σ' i=y i)∧∀ r,r ∉ left→r≠3*n→σ' r=σ r
 | [],σ,_,_,_=>⟨σ,U,fun i h=>yA,fun _ _ _=>rfl⟩
 | i :: left,σ,hn,hkl,h=>by
   obtain ⟨hn1,hn2⟩:=iC.1 hn;obtain ⟨g1,g2,g3⟩:=h i aQ;obtain ⟨σ1,a1,a2,a3⟩:=DQ hk g1 g2 g3;have hki:k≠i:=fun e=>hkl (by rw [e];exact aQ);obtain ⟨σ2,b1,b2,b3⟩:=Wv hk y left σ1 hn2 (fun x=>hkl (aL _ x)) (fun j hj=>by
    obtain ⟨k1,k2,k3⟩:=h j (aL _ hj);have hji:j≠i:=fun e=>hn1 (e▸hj);refine ⟨k1,k2,?_⟩;rw [a3 j hji k1,a3 k hki hk];exact k3)
   refine ⟨σ2,uB a1 b1,fun j hj=>?_,fun r hr hr2=>?_⟩
   · rcases dD.1 hj with rfl | hj
     · rw [b3 j hn1 g1,a2]
     exact b2 j hj
   rw [b3 r (fun x=>hr (aL _ x)) hr2,a3 r (fun x=>hr (by rw [x];exact aQ)) hr2]
def Ce (n u v:Int) (th:List Bool) (j:Nat):List Bool×List Sl.Instr:=
 let low:=decide (0<j) && th[j - 1]?.getD false && decide (u≠0)
 let own:=th[j]?.getD false && decide (v≠0)
 (th.set j (own || low),
  (if low then tE (3*n) (2*n+(j - 1)) u else []) ++
  (if own && low then tE (2*n+j) (2*n+j) v++[⟨3,2*n+j,2*n+j,3*n,0⟩] else if own then tE (2*n+j) (2*n+j) v else if low then tE (2*n+j) (3*n) 1 else []))
def Ww (n u v:Int):Nat→List Bool→List Bool×List I5
 | 0,th=>(th,[])
 | m+1,th=>((Ww n u v m (Ce n u v th m).1).1,(Ce n u v th m).2++(Ww n u v m (Ce n u v th m).1).2)
def Ir (n u v:Int):Nat→Nat→List Bool→List Bool×List I5
 | 0,_,th=>(th,[])
 | m+1,d,th=>((Ir n u v m (d+1) (Ww n u v (d+1) th).1).1,(Ww n u v (d+1) th).2++(Ir n u v m (d+1) (Ww n u v (d+1) th).1).2)
def yR (n u v:Int) (e:Nat):List Bool:=(Ir n u v e 1 ((List.replicate (e+1) false).set 0 true)).1
def Ak (n u v k:Int) (e:Nat):List Sl.Instr:=tE (2*n) k 1++(Ir n u v e 1 ((List.replicate (e+1) false).set 0 true)).2
def PO (n:Int) (th:List Bool) (σ:Int→Int) (j:Nat) (x:Int):Prop:=(th[j]?.getD false=true→σ (2*n+j)=x)∧(th[j]?.getD false=false→x=0)
theorem Mq (n u v:Int) (th:List Bool) (j:Nat):(Ce n u v th j).1.length=th.length:=aI
theorem Og (n u v:Int) (th:List Bool) {j i:Nat} (h:i≠j):(Ce n u v th j).1[i]?=th[i]?:=by
 show (th.set j _)[i]?=_;rw [cE,aC (fun e=>h e.symm)]
theorem NQ {n u v:Int} {th:List Bool} {j:Nat} {σ:Int→Int} {x y:Int} (hj:j<th.length) (hn:(j:Int)<n) (hx:PO n th σ j x) (hy:0<j→PO n th σ (j - 1) y) (hy0:j=0→y=0) :
 ∃ σ',wC (Ce n u v th j).2 σ=some σ'∧PO n (Ce n u v th j).1 σ' j (v*x+u*y)∧∀ r,r≠2*n+j→r≠3*n→σ' r=σ r:=by
 have hne:(2*n+j:Int)≠3*n:=sU;have hset:∀ b:Bool,(th.set j b)[j]?.getD false=b:=fun b=>by rw [cE,aE rfl,aE hj];rfl
 have hown:(th[j]?.getD false && decide (v≠0))=false→v*x=0:=fun h=>by
  rcases qH.1 h with h | h
  · rw [hx.2 h,cA]
  rw [cV fun h2=>mD h h2,eR]
 have hown1:(th[j]?.getD false && decide (v≠0))=true→σ (2*n+j)=x:=fun h=>hx.1 (qV.1 h).1;have hlow:(decide (0<j) && th[j - 1]?.getD false && decide (u≠0))=false→u*y=0:=fun h=>by
  by_cases hj0:j=0
  · rw [hy0 hj0,cA]
  rcases qH.1 h with h | h
  · rcases qH.1 h with h | h
    · exact absurd sU (mD h)
    rw [(hy sU).2 h,cA]
  rw [cV fun h2=>mD h h2,eR]
 have hlow1:(decide (0<j) && th[j - 1]?.getD false && decide (u≠0))=true→σ (2*n+((j:Int) - 1))=y:=fun h=>by
  have h2:=(qV.1 h).1;have h3:=qV.1 h2;have hj1:0<j:=gX h3.1;have:=(hy hj1).1 h3.2;rw [show ((j:Int) - 1)=((j - 1:Nat):Int) by omega];exact this
 unfold Ce;simp only;generalize (decide (0<j) && th[j - 1]?.getD false && decide (u≠0))=low at *;generalize (th[j]?.getD false && decide (v≠0))=own at *;cases low <;> cases own
 · refine ⟨σ,U,⟨fun h=>?_,fun _=>?_⟩,fun _ _ _=>rfl⟩
   · rw [hset] at h;cases h
   rw [hown rfl,hlow rfl];rfl
 · refine ⟨_,vD _ _ _ _,⟨fun _=>?_,fun h=>?_⟩,fun r h1 h2=>uF _ _ h1⟩
   · rw [uN,hown1 rfl,hlow rfl,dV]
   rw [hset] at h;cases h
 · refine ⟨_,uB (m:=tE (2*n+j) (3*n) 1) (vD _ _ _ _) (vD _ _ _ _),⟨fun _=>?_,fun h=>?_⟩,fun r h1 h2=>?_⟩
   · rw [uN,uN,hlow1 rfl,hown rfl,mW,eN]
   · rw [hset] at h;cases h
   rw [uF _ _ h1,uF _ _ h2]
 have h9:=uB (vD (3*n) (2*n+(j - 1)) u σ) (uB (vD (2*n+j) (2*n+j) v _) (Pq (2*n+j) (2*n+j) (3*n) _));refine ⟨_,h9,⟨fun _=>?_,fun h=>?_⟩,fun r h1 h2=>?_⟩
 · rw [uN,uN,uF _ _ hne,uF _ _ (kA hne),uN,hown1 rfl,hlow1 rfl]
 · rw [hset] at h;cases h
 rw [uF _ _ h1,uF _ _ h1,uF _ _ h2]
def SY (u v:Int) (C:Nat→Int) (j:Nat):Int:=v*C j+u*(if j=0 then 0 else C (j - 1))
theorem Wx {n:Int} {th th':List Bool} {σ σ':Int→Int} {j:Nat} {x:Int} (h:PO n th σ j x) (ht:th'[j]?=th[j]?) (hs:σ' (2*n+j)=σ (2*n+j)):PO n th' σ' j x:=by
 unfold PO at *;rw [ht,hs];exact h
theorem KA {n u v:Int} {C:Nat→Int}:∀ (m:Nat) (th:List Bool) (σ:Int→Int),m≤th.length→(m:Int)≤n→(∀ j,j<m→PO n th σ j (C j))→
 ∃ σ',wC (Ww n u v m th).2 σ=some σ'∧(Ww n u v m th).1.length=th.length∧(∀ j,j<m→PO n (Ww n u v m th).1 σ' j (SY u v C j))∧(∀ j,m≤j→(Ww n u v m th).1[j]?=th[j]?)∧(∀ r,(∀ j:Nat,j<m→r≠2*n+j)→r≠3*n→σ' r=σ r)
 | 0,th,σ,_,_,_=>⟨σ,U,U,fun j h=>sU,fun _ _=>rfl,fun _ _ _=>rfl⟩
 | m+1,th,σ,hl,hn,h=>by
   obtain ⟨σ1,a1,a2,a3⟩:=NQ (u:=u) (v:=v) (y:=if m=0 then 0 else C (m - 1)) (show m<th.length by omega) sU (h m sU) (fun hm=>by rw [aC (by omega)];exact h (m - 1) sU) (fun hm=>aE hm);obtain ⟨σ2,b1,b2,b3,b4,b5⟩:=KA (u:=u) (v:=v) (C:=C) m (Ce n u v th m).1 σ1 (by rw [Mq];omega) sU (fun j hj=>Wx (h j sU) (Og n u v th sU) (a3 _ sU sU));refine ⟨σ2,uB a1 b1,by rw [←Mq n u v th m];exact b2,fun j hj=>?_,fun j hj=>?_,fun r hr hr2=>?_⟩
   · rcases aN j m with hjm | hjm
     · exact b3 j hjm
     have e:j=m:=sU;subst e;exact Wx a2 (b4 j (aH _)) (b5 _ (fun i hi=>by omega) sU)
   · exact (b4 j sU).trans (Og n u v th sU)
   rw [b5 r (fun j hj=>hr j sU) hr2,a3 r (hr m sU) hr2]
def Lp (u v:Int):Nat→(Nat→Int)→Nat→Int
 | 0,C=>C
 | m+1,C=>Lp u v m (SY u v C)
theorem DR {n u v:Int}:∀ (m d:Nat) (th:List Bool) (σ:Int→Int) (C:Nat→Int),d+m≤th.length→(th.length:Int)≤n→(∀ j,d≤j→C j=0)→(∀ j,j<th.length→PO n th σ j (C j))→(∀ j,d≤j→th[j]?.getD false=false)→
 ∃ σ',wC (Ir n u v m d th).2 σ=some σ'∧(Ir n u v m d th).1.length=th.length∧(∀ j,j<th.length→PO n (Ir n u v m d th).1 σ' j (Lp u v m C j))∧(∀ r,(∀ j:Nat,j<th.length→r≠2*n+j)→r≠3*n→σ' r=σ r)
 | 0,d,th,σ,C,_,_,_,h,_=>⟨σ,U,U,h,fun _ _ _=>rfl⟩
 | m+1,d,th,σ,C,hl,hn,hC,h,hf=>by
   obtain ⟨σ1,a1,a2,a3,a4,a5⟩:=KA (u:=u) (v:=v) (C:=C) (d+1) th σ sU sU (fun j hj=>h j sU);have hC':∀ j,d+1≤j→SY u v C j=0:=fun j hj=>by
    unfold SY;rw [aC (by omega),hC j sU,hC (j - 1) sU,cA,cA];rfl
   have hf':∀ j,d+1≤j→(Ww n u v (d+1) th).1[j]?.getD false=false:=fun j hj=>by rw [a4 j hj];exact hf j sU
   obtain ⟨σ2,b1,b2,b3,b4⟩:=DR (u:=u) (v:=v) m (d+1) (Ww n u v (d+1) th).1 σ1 (SY u v C) (by rw [a2];omega) (by rw [a2];exact hn) hC' (fun j hj=>by
    rcases aN j (d+1) with hjd | hjd
    · exact a3 j hjd
    exact ⟨fun x=>(by rw [hf' j hjd] at x;cases x),fun _=>hC' j hjd⟩) hf'
   refine ⟨σ2,uB a1 b1,by rw [←a2];exact b2,fun j hj=>b3 j (by rw [a2];exact hj),fun r hr hr2=>?_⟩;rw [b4 r (fun j hj=>hr j (by rw [←a2];exact hj)) hr2,a5 r (fun j hj=>hr j sU) hr2]
def co (f:List Int) (j:Nat):Int:=f[j]?.getD 0
theorem Rt (p q:Int):∀ (f:List Int) (last:Int) (j:Nat),co (Aq p q last f) j=p*co f j - q*(if j=0 then last else co f (j - 1))
 | [],last,0=>by show -(q*last)=p*0 - q*last;rw [cA];omega
 | [],last,j+1=>by show (0:Int)=p*0 - q*0;rw [cA,cA];rfl
 | c :: f,last,0=>rfl
 | c :: f,last,j+1=>by
   show co (Aq p q c f) j=p*co f j - q*co (c :: f) j;rw [Rt p q f c j];cases j <;> rfl
theorem NR (u v:Int) (e:Nat):co (wW u v (e+1))=SY u v (co (wW u v e)):=by
 funext j;show co (Aq v (-u) 0 (wW u v e)) j=_;rw [Rt];unfold SY;rw [hU,Int.sub_neg]
theorem SZ (u v y:Int) (C:Nat→Int):SY u v (fun j=>y*C j)=fun j=>y*SY u v C j:=by
 funext j;unfold SY;rw [eV];split
 · rw [cA,cA];congr 1;ac_rfl
 congr 1 <;> ac_rfl
theorem KB (u v y:Int):∀ (m e:Nat),Lp u v m (fun j=>y*co (wW u v e) j)=fun j=>y*co (wW u v (e+m)) j
 | 0,e=>rfl
 | m+1,e=>by
   show Lp u v m (SY u v fun j=>y*co (wW u v e) j)=_;rw [SZ,←NR,KB u v y m (e+1),show e+1+m=e+(m+1) by omega]
theorem Ru (n u v:Int):∀ (m:Nat) (th:List Bool),(Ww n u v m th).1.length=th.length
 | 0,_=>rfl
 | m+1,th=>by show (Ww n u v m _).1.length=_;rw [Ru,Mq]
theorem DS (n u v:Int):∀ (m d:Nat) (th:List Bool),(Ir n u v m d th).1.length=th.length
 | 0,_,_=>rfl
 | m+1,d,th=>by show (Ir n u v m _ _).1.length=_;rw [DS,Ru]
theorem As (n u v:Int) (e:Nat):(yR n u v e).length=e+1:=by unfold yR;rw [DS,aI,aM]
theorem HQ {n u v k:Int} {e:Nat} {σ:Int→Int} (he:(e:Int)<n) :
 ∃ σ',wC (Ak n u v k e) σ=some σ'∧(∀ j,j≤e→PO n (yR n u v e) σ' j (σ k*co (wW u v e) j))∧∀ r,r<2*n→σ' r=σ r:=by
 have hl:((List.replicate (e+1) false).set 0 true).length=e+1:=by rw [aI,aM]
 have hget:∀ j:Nat,((List.replicate (e+1) false).set 0 true)[j]?.getD false=decide (j=0):=fun j=>by
  rw [cE];split
  · rename_i h;subst h;rw [aE (by rw [aM];omega)];rfl
  rename_i h;rw [dZ,bN (fun e=>h e.symm)];split <;> rfl
 have e0:∀ j:Nat,σ k*co (wW u v 0) j=if j=0 then σ k else 0:=fun j=>by
  cases j with
  | zero=>show σ k*1=_;rw [iE];rfl
  | succ j=>show σ k*0=_;rw [cA];rfl
 obtain ⟨σ',h1,h2,h3,h4⟩:=DR (n:=n) (u:=u) (v:=v) e 1 ((List.replicate (e+1) false).set 0 true) (upd σ (2*n) (1*σ k)) (fun j=>σ k*co (wW u v 0) j) (by rw [hl];omega) (by rw [hl];omega) (fun j hj=>by simp only [e0];exact aC (by omega))
  (fun j hj=>by
   unfold PO;rw [hget,e0];by_cases hj0:j=0
   · subst hj0;refine ⟨fun _=>?_,fun h=>yA⟩;show upd σ (2*n) (1*σ k) (2*n+((0:Nat):Int))=σ k;rw [show (2*n+((0:Nat):Int))=2*n by omega,uN,eN]
   rw [bN hj0,aC hj0];exact ⟨fun h=>yA,fun _=>rfl⟩) (fun j hj=>by rw [hget];exact bN sU)
 refine ⟨σ',uB (vD _ _ _ _) h1,fun j hj=>?_,fun r hr=>?_⟩
 · have:=h3 j (by rw [hl];omega);rw [KB,cP] at this;exact this
 rw [h4 r (fun j _=>by omega) sU,uF _ _ sU]
def Zr (n:Int) (p:R2):Nat→List I5
 | 0=>[]
 | j+1=>(if 0<j then tE (3*n) (n+((j:Int) - 1)) p.b else [])++(tE (n+j) (n+j) p.a++((if 0<j then [⟨4,n+j,n+j,3*n,0⟩] else [])++Zr n p j))
def Kj (n:Int) (p:R2) (e:Nat):List Sl.Instr:=tE (n+e) (n+((e:Int) - 1)) (-p.b)++Zr n p e
def Dl (n:Int):List Bool→Nat→List I5
 | [],_=>[]
 | t :: ts,j=>(if t then [⟨3,n+j,n+j,2*n+j,0⟩] else [])++Dl n ts (j+1)
def yC (n:Int) (wh:List R2) (k:Int) (e:Nat):List Sl.Instr:=
 Kj n (uV wh k) e++(Ak n (bezS (uV wh k).a (uV wh k).b) (bezT (uV wh k).a (uV wh k).b) k e++Dl n (yR n (bezS (uV wh k).a (uV wh k).b) (bezT (uV wh k).a (uV wh k).b) e) 0)
theorem DT {n:Int} {p:R2} {c:Nat→Int}:∀ (m:Nat) (σ:Int→Int),(m:Int)≤n→(∀ j:Nat,j<m→σ (n+j)=c j)→
 ∃ σ',wC (Zr n p m) σ=some σ'∧(∀ j:Nat,j<m→σ' (n+j)=p.a*c j - p.b*(if j=0 then 0 else c (j - 1)))∧∀ r,(∀ j:Nat,j<m→r≠n+j)→r≠3*n→σ' r=σ r
 | 0,σ,_,_=>⟨σ,U,fun j h=>sU,fun _ _ _=>rfl⟩
 | m+1,σ,hm,h=>by
   obtain ⟨σ1,a1,a2,a3⟩:∃ σ1,wC ((if 0<m then tE (3*n) (n+((m:Int) - 1)) p.b else [])++(tE (n+m) (n+m) p.a++(if 0<m then [⟨4,n+m,n+m,3*n,0⟩] else []))) σ=some σ1∧σ1 (n+m)=p.a*c m - p.b*(if m=0 then 0 else c (m - 1))∧∀ r,r≠n+m→r≠3*n→σ1 r=σ r:=by
    by_cases hm0:0<m
    · rw [aE hm0,aE hm0,aC (by omega)];refine ⟨_,uB (vD _ _ _ _) (uB (vD _ _ _ _) (Ki _ _ _ _)),?_,fun r h1 h2=>?_⟩
      · have e1:σ (n+((m:Int) - 1))=c (m - 1):=by
         rw [show ((m:Int) - 1)=((m - 1:Nat):Int) by omega];exact h (m - 1) sU
        rw [uN,uN,uF _ _ sU,uF _ _ sU,uN,h m sU,e1]
      rw [uF _ _ h1,uF _ _ h1,uF _ _ h2]
    rw [aC hm0,aC hm0,aE (by omega),fJ,cK];refine ⟨_,vD _ _ _ _,?_,fun r h1 h2=>uF _ _ h1⟩;rw [uN,h m sU,cA,oE]
   obtain ⟨σ2,b1,b2,b3⟩:=DT (n:=n) (p:=p) (c:=c) m σ1 sU (fun j hj=>by rw [a3 _ sU sU];exact h j sU);refine ⟨σ2,?_,fun j hj=>?_,fun r hr hr2=>?_⟩
   · have:=uB a1 b1;rw [bA,bA] at this;exact this
   · rcases aN j m with hjm | hjm
     · exact b2 j hjm
     have e:j=m:=sU;subst e;rw [b3 _ (fun i hi=>by omega) sU];exact a2
   rw [b3 r (fun j hj=>hr j sU) hr2,a3 r (hr m sU) hr2]
theorem Rv {n:Int} (σ0:Int→Int):∀ (th:List Bool) (j0:Nat) (σ:Int→Int),((j0+th.length:Nat):Int)≤n→(∀ r,(∀ j:Nat,j<j0→r≠n+j)→σ r=σ0 r)→
 ∃ σ',wC (Dl n th j0) σ=some σ'∧(∀ j:Nat,j<th.length→σ' (n+(j0+j:Nat))=σ0 (n+(j0+j:Nat))+(if th[j]?.getD false=true then σ0 (2*n+(j0+j:Nat)) else 0))∧∀ r,(∀ j:Nat,j<th.length→r≠n+(j0+j:Nat))→σ' r=σ r
 | [],j0,σ,_,_=>⟨σ,U,fun j h=>(by simp at h),fun _ _=>rfl⟩
 | t :: th,j0,σ,hn,h0=>by
   rw [aU] at hn;obtain ⟨σ1,a1,a2,a3⟩:∃ σ1,wC (if t then [⟨3,n+j0,n+j0,2*n+j0,0⟩] else []) σ=some σ1∧σ1 (n+j0)=σ0 (n+j0)+(if t=true then σ0 (2*n+j0) else 0)∧∀ r,r≠n+j0→σ1 r=σ r:=by
    have e1:σ (n+j0)=σ0 (n+j0):=h0 _ (fun j hj=>by omega);have e2:σ (2*n+j0)=σ0 (2*n+j0):=h0 _ (fun j hj=>by omega);cases t
    · exact ⟨σ,U,by rw [e1];exact (dV _).symm,fun _ _=>rfl⟩
    refine ⟨_,Pq _ _ _ _,?_,fun r hr=>uF _ _ hr⟩;rw [uN,e1,e2];rfl
   obtain ⟨σ2,b1,b2,b3⟩:=Rv (n:=n) σ0 th (j0+1) σ1 sU (fun r hr=>by
    rw [a3 r (hr j0 sU)];exact h0 r (fun j hj=>hr j sU))
   refine ⟨σ2,uB a1 b1,fun j hj=>?_,fun r hr=>?_⟩
   · rw [aU] at hj;cases j with
     | zero =>
       rw [b3 _ (fun j hj=>by omega)];exact a2
     | succ j =>
       have:=b2 j sU;rw [show j0+1+j=j0+(j+1) by omega] at this;exact this
   rw [b3 r (fun j hj=>by have:=hr (j+1) Vr;rw [show j0+1+j=j0+(j+1) by omega];exact this)];refine a3 r ?_;have:=hr 0 Vr;exact this
theorem TA {n:Int} {wh:List R2} {k:Int} {e:Nat} {σ:Int→Int} (f:List Int) (hf:f.length=e) (h1:1≤e) (he:(e:Int)<n) (hk:k<n) (hs:∀ j:Nat,j<e→σ (n+j)=co f j) :
 ∃ σ',wC (yC n wh k e) σ=some σ'∧(∀ j:Nat,j≤e→σ' (n+j)=co (Aq (uV wh k).a (uV wh k).b 0 f) j+σ k*co (wW (bezS (uV wh k).a (uV wh k).b) (bezT (uV wh k).a (uV wh k).b) e) j)∧∀ r,r<n→σ' r=σ r:=by
 generalize hp:uV wh k=p;generalize hu:bezS p.a p.b=u;generalize hv:bezT p.a p.b=v;unfold yC;rw [hp,hu,hv];obtain ⟨σ1,a1,a2,a3⟩:=DT (n:=n) (p:=p) (c:=co f) e (upd σ (n+e) (-p.b*σ (n+((e:Int) - 1)))) sU (fun j hj=>by rw [uF _ _ sU];exact hs j hj);have hA:wC (Kj n p e) σ=some σ1:=uB (vD _ _ _ _) a1;have hB:∀ j:Nat,j≤e→σ1 (n+j)=co (Aq p.a p.b 0 f) j:=fun j hj=>by
  rw [Rt];rcases aN j e with hje | hje
  · exact a2 j hje
  have e1:j=e:=sU;subst e1;rw [a3 _ (fun i hi=>by omega) sU,uN,aC (by omega)];have e2:co f j=0:=by unfold co;rw [bV sU];rfl
  have e3:σ (n+((j:Int) - 1))=co f (j - 1):=by
   rw [show ((j:Int) - 1)=((j - 1:Nat):Int) by omega];exact hs (j - 1) sU
  rw [e2,e3,cA,hU];omega
 have hC:∀ r,r<n→σ1 r=σ r:=fun r hr=>by rw [a3 r (fun j hj=>by omega) sU,uF _ _ sU]
 obtain ⟨σ2,b1,b2,b3⟩:=HQ (u:=u) (v:=v) (k:=k) (σ:=σ1) he;obtain ⟨σ3,c1,c2,c3⟩:=Rv (n:=n) σ2 (yR n u v e) 0 σ2 (by rw [As];omega) (fun _ _=>rfl);refine ⟨σ3,uB hA (uB b1 c1),fun j hj=>?_,fun r hr=>?_⟩
 · have h2:=c2 j (by rw [As];omega);rw [cP] at h2;rw [h2,b3 _ sU,hB j hj];congr 1;obtain ⟨g1,g2⟩:=b2 j hj;rw [hC k hk] at g1 g2;cases ht:(yR n u v e)[j]?.getD false with
   | true=>rw [aE rfl];exact g1 ht
   | false=>rw [aC (by decide)];exact (g2 ht).symm
 rw [c3 r (fun j hj=>by omega),b3 r sU,hC r hr]
def zT (n:Int) (wh:List R2):List Int→List I5
 | []=>[]
 | k :: left=>zS n wh k left.length left++zT n wh left
def vQ (n:Int) (wh:List R2):List Int→List I5
 | []=>[]
 | [k]=>tE n k 1
 | k :: i :: left=>vQ n wh (i :: left)++yC n wh k (i :: left).length
theorem YA {t:Int} {F G:List Int} (h:F.length=G.length) (j:Nat):co (Fx t F G) j=co F j - t*co G j:=by
 unfold co Fx;rw [List.getElem?_zipWith];rcases aN j F.length with hj | hj
 · rw [aA hj,aA (show j<G.length by omega)];rfl
 rw [bV hj,bV (show G.length≤j by omega)];show (0:Int)=0 - t*0;rw [cA];rfl
theorem Wy {n:Int} {wh:List R2}:∀ (o:List Int) (f:List Int) (σ:Int→Int),o.Nodup→o≠[]→(∀ k∈o,0≤k∧k<n)→(o.length:Int)≤n→
 (∀ k∈o,Int.gcd (uV wh k).a (uV wh k).b=1∧bezS (uV wh k).a (uV wh k).b*(uV wh k).a+bezT (uV wh k).a (uV wh k).b*(uV wh k).b=1)→(∀ k∈o,∀ i∈o,k≠i→Bm wh k i≠0)→f.length=o.length→(∀ k∈o,σ k=ev f (uV wh k).a (uV wh k).b)→
 ∃ σ',wC (zT n wh o++vQ n wh o) σ=some σ'∧(∀ j:Nat,j<f.length→σ' (n+j)=co f j)∧∀ r,r<n→r ∉ o→σ' r=σ r
 | [],f,σ,_,h,_,_,_,_,_,_=>absurd U h
 | [k],f,σ,_,_,ho,_,_,_,hf,hv=>by
   obtain ⟨c,rfl⟩:∃ c,f=[c]:=by
    match f,hf with
    | [c],_=>exact ⟨c,U⟩
   have hk:=ho k tW;refine ⟨_,(vD n k 1 σ:wC (tE n k 1) σ=_),fun j hj=>?_,fun r hr hr2=>uF _ _ sU⟩;have hj0:j=0:=by simpa using hj
   subst hj0;show upd σ n (1*σ k) (n+((0:Nat):Int))=c;rw [show n+((0:Nat):Int)=n by omega,uN,hv k tW,eN];show c*_ ^ 0+_*0=c;rw [lU,iE,cA,dV]
 | k :: i :: left,f,σ,hn,_,ho,hon,hg,hd,hf,hv=>by
   obtain ⟨hn1,hn2⟩:=iC.1 hn;obtain ⟨hk0,hkn⟩:=ho k aQ;obtain ⟨hgk,hbk⟩:=hg k aQ;generalize hrest:i :: left=rest at *;have hrl:1≤rest.length:=by rw [←hrest];simp
   rw [aU] at hf hon;obtain ⟨g,g1,g2,g3⟩:=NO hgk hbk f rest.length hf;have hvk:=hv k aQ;obtain ⟨σ1,a1,a2,a3⟩:=Wv (n:=n) (wh:=wh) (k:=k) (e:=rest.length) sU (fun i=>ev g (uV wh i).a (uV wh i).b) rest σ hn2 hn1 (fun i hi=>by
    have:=ho i (aL _ hi);refine ⟨by omega,hd k aQ i (aL _ hi) (fun e=>hn1 (e▸hi)),?_⟩;rw [hvk,hv i (aL _ hi)];have e2:=g3 (uV wh i).a (uV wh i).b;have e3:Bm wh k i=(uV wh k).a*(uV wh i).b - (uV wh k).b*(uV wh i).a:=by unfold Bm;rw [dH (uV wh i).a]
    rw [e3];exact e2)
   obtain ⟨σ2,b1,b2,b3⟩:=Wy rest g σ1 hn2 (by intro e;rw [e] at hrl;simp at hrl) (fun k hk=>ho k (aL _ hk)) sU (fun k hk=>hg k (aL _ hk)) (fun k hk i hi=>hd k (aL _ hk) i (aL _ hi)) g1 (fun i hi=>a2 i hi);have hk2:σ2 k=σ k:=by rw [b3 k hkn hn1,a3 k hn1 sU]
   obtain ⟨σ3,c1,c2,c3⟩:=TA (wh:=wh) (σ:=σ2) g g1 hrl sU hkn (fun j hj=>b2 j sU);refine ⟨σ3,?_,fun j hj=>?_,fun r hr hr2=>?_⟩
   · have e1:zT n wh (k :: rest)++vQ n wh (k :: rest)=zS n wh k rest.length rest++((zT n wh rest++vQ n wh rest)++yC n wh k rest.length):=by
      have e2:vQ n wh (k :: rest)=vQ n wh rest++yC n wh k rest.length:=by rw [←hrest];rfl
      rw [e2];show (zS n wh k rest.length rest++zT n wh rest)++_=_;simp only [bA]
     rw [e1];exact uB a1 (uB b1 c1)
   · rw [c2 j sU,←g2,hk2,hvk,YA (by rw [hf,Ex])];omega
   rw [c3 r hr,b3 r hr (fun x=>hr2 (aL _ x)),a3 r (fun x=>hr2 (aL _ x)) sU]
def Ey (o:List Int) (n:Nat):Prop:=o.length=n∧(∀ x∈o,0≤x∧x<n)∧o.Nodup
instance (o:List Int) (n:Nat):Decidable (Ey o n):=inferInstanceAs (Decidable (_∧_))
theorem Mr {q:PV} (h:1≤q.ins∧q.ins≤q.regs∧q.regs≤128∧q.code.length≤16384∧1≤q.outs.length∧q.outs.length≤128) (ho:∀ r∈q.outs,0≤r∧r<q.regs) (hc:∀ i∈q.code,tH i q.regs=true):sW q=true:=by
 have h1:vJ q=true:=by
  unfold vJ;rw [aF,aO,dQ];exact ⟨by omega,fun r hr=>by rw [aO];exact ho r hr⟩
 have h2:Cb q=none:=by
  unfold Cb;rw [gB];intro i hi;rw [hc i hi];rfl
 unfold sW uH;rw [aC (by rw [h1];decide),h2];rfl
structure Good (R:Int) (L d:Nat) (l:List I5):Prop where
 fit:∀ i∈l,tH i R=true
 len:l.length≤L
 dv:Zp l≤d
theorem DU (l m:List I5):Zp (l++m)=Zp l+Zp m:=by unfold Zp;rw [List.filter_append,aD]
theorem Good.nil (R:Int):Good R 0 0 []:=⟨fun i h=>yA,aH _,aH _⟩
abbrev gV:=@Good.nil
theorem Good.append {R:Int} {L d L' d':Nat} {l m:List I5} (h:Good R L d l) (k:Good R L' d' m):Good R (L+L') (d+d') (l++m):=
 ⟨fun i hi=>(dR.1 hi).elim (h.fit i) (k.fit i),by rw [aD];have:=h.len;have:=k.len;omega,by rw [DU];have:=h.dv;have:=k.dv;omega⟩
theorem Good.mono {R:Int} {L d L' d':Nat} {l:List I5} (h:Good R L d l) (h1:L≤L') (h2:d≤d'):Good R L' d' l:=⟨h.fit,bP h.len h1,bP h.dv h2⟩
theorem Good.one {R:Int} {i:I5} (h:tH i R=true):Good R 1 (if DM i then 1 else 0) [i]:=
 ⟨fun j hj=>by rw [eD.1 hj];exact h,aH _,by unfold Zp;by_cases hd:DM i <;> simp [hd]⟩
abbrev oN:=@Good.one
theorem KC {op to a b R:Int} (ho:op=3∨op=4) (h1:0≤to∧to<R) (h2:0≤a∧a<R) (h3:0≤b∧b<R):tH ⟨op,to,a,b,0⟩ R=true:=by
 unfold tH;rw [aF,aF,aO,dQ];refine ⟨⟨(show 1≤op∧op≤8∧0≤to∧to<R∧(op=3∨op=4∨b=0) by omega),?_⟩,fun r hr=>?_⟩
 · unfold tL;rw [aC (show ¬(op=5∨op=6) by omega),aC (show ¬(op=7∨op=8) by omega)];rfl
 rw [aO];unfold tM at hr;rw [aE (show op=3∨op=4 from ho)] at hr;rcases dD.1 hr with rfl | hr
 · exact h2
 rw [eD.1 hr];exact h3
theorem Gu {op to a R:Int} (ho:op=1∨op=2) (h1:0≤to∧to<R) (h2:0≤a∧a<R):tH ⟨op,to,a,0,0⟩ R=true:=by
 unfold tH;rw [aF,aF,aO,dQ];refine ⟨⟨(show 1≤op∧op≤8∧0≤to∧to<R∧(op=3∨op=4∨(0:Int)=0) by omega),?_⟩,fun r hr=>?_⟩
 · unfold tL;rw [aC (show ¬(op=5∨op=6) by omega),aC (show ¬(op=7∨op=8) by omega)];rfl
 rw [aO];unfold tM at hr;rw [aC (show ¬(op=3∨op=4) by omega),aE (show 1≤op∧op≤8 by omega)] at hr;rw [eD.1 hr];exact h2
theorem Ms {op to a c R:Int} (ho:op=5∨op=6) (h1:0≤to∧to<R) (h2:0≤a∧a<R) (hc:c≠0∧-512≤c∧c≤512):tH ⟨op,to,a,0,c⟩ R=true:=by
 unfold tH;rw [aF,aF,aO,dQ];refine ⟨⟨(show 1≤op∧op≤8∧0≤to∧to<R∧(op=3∨op=4∨(0:Int)=0) by omega),?_⟩,fun r hr=>?_⟩
 · unfold tL;rw [aE (show op=5∨op=6 from ho),aO];exact hc
 rw [aO];unfold tM at hr;rw [aC (show ¬(op=3∨op=4) by omega),aE (show 1≤op∧op≤8 by omega)] at hr;rw [eD.1 hr];exact h2
theorem Kk {R to a b:Int} (h1:0≤to∧to<R) (h2:0≤a∧a<R) (h3:0≤b∧b<R):Good R 1 0 [⟨3,to,a,b,0⟩]:=(oN (KC (.inl U) h1 h2 h3)).mono (aH _) (mT (aC (show ¬((3:Int)=6∨(3:Int)=8) by decide)))
theorem Ga {R to a b:Int} (h1:0≤to∧to<R) (h2:0≤a∧a<R) (h3:0≤b∧b<R):Good R 1 0 [⟨4,to,a,b,0⟩]:=(oN (KC (.inr U) h1 h2 h3)).mono (aH _) (mT (aC (show ¬((4:Int)=6∨(4:Int)=8) by decide)))
theorem vE {R to x c:Int} (h1:0≤to∧to<R) (h2:0≤x∧x<R) (hc:-512≤c∧c≤512):Good R 1 0 (tE to x c):=by
 unfold tE;split
 · exact Ga h1 h2 h2
 rename_i h0;split
 · exact (gV R).mono sU sU
 split
 · exact (oN (Gu (.inl U) h1 h2)).mono (aH _) (mT (aC (show ¬((1:Int)=6∨(1:Int)=8) by decide)))
 split
 · exact (oN (Gu (.inr U) h1 h2)).mono (aH _) (mT (aC (show ¬((2:Int)=6∨(2:Int)=8) by decide)))
 exact (oN (Ms (.inl U) h1 h2 ⟨h0,hc⟩)).mono (aH _) (mT (aC (show ¬((5:Int)=6∨(5:Int)=8) by decide)))
theorem Wz {R to c:Int} (h1:0≤to∧to<R) (h0:c≠0) (hc:-512≤c∧c≤512):Good R 1 (if c=1 then 0 else 1) (yB to c):=by
 unfold yB;split
 · exact (gV R).mono sU sU
 split
 · exact (oN (Gu (.inr U) h1 h1)).mono (aH _) (by split <;> omega)
 exact (oN (Ms (.inr U) h1 h1 ⟨h0,hc⟩)).mono (aH _) (by split <;> omega)
theorem Xa {R to c:Int} (h1:0≤to∧to<R) (h0:c≠0) (hc:-512≤c∧c≤512):∀ m:Nat,Good R m (if c=1 then 0 else m) (List.replicate m (yB to c)).flatten
 | 0=>(gV R).mono (aH _) (aP _)
 | m+1=>by
   rw [kB,mU];refine ((Wz h1 h0 hc).append (Xa h1 h0 hc m)).mono sU ?_;split <;> omega
theorem Mt {R to c:Int} (h1:0≤to∧to<R) (hc:-512≤c∧c≤512):∀ (e:Nat) (fr k:Int),0≤fr∧fr<R→-512≤k∧k≤512→Good R (e+1) 0 (Rr to c fr k e)
 | 0,fr,k,h2,hk=>vE h1 h2 hk
 | e+1,fr,k,h2,hk=>by
   unfold Rr;split
   · exact ((vE h1 h2 hk).append (Mt h1 hc e to c h1 hc)).mono sU sU
   exact (Mt h1 hc e fr (k*c) h2 sU).mono sU sU
theorem NS {R to a c:Int} (h1:0≤to∧to<R) (h2:0≤a∧a<R) (hc:-512≤c∧c≤512) (e:Nat):Good R (e+1) 0 (Bl to a c e):=by
 unfold Bl;split
 · refine (vE h1 h2 ?_).mono sU sU;split <;> omega
 exact Mt h1 hc e a 1 h2 sU
theorem KD {u v a b:Int} (h:u.natAbs+v.natAbs≤17) (hn:near a b):-512≤u*a+v*b∧u*a+v*b≤512:=by
 unfold near at hn;have h1:(u*a).natAbs≤u.natAbs*16:=by rw [fM];exact Nat.mul_le_mul_left _ sU
 have h2:(v*b).natAbs≤v.natAbs*16:=by rw [fM];exact Nat.mul_le_mul_left _ sU
 omega
theorem YB {a b c d:Int} (h:near a b) (k:near c d):-512≤a*d - c*b∧a*d - c*b≤512:=by
 unfold near at h k;have h1:(a*d).natAbs≤16*16:=by rw [fM];exact gO sU sU
 have h2:(c*b).natAbs≤16*16:=by rw [fM];exact gO sU sU
 omega
structure Wh (wh:List R2) (o:List Int):Prop where
 near:∀ k∈o,near (uV wh k).a (uV wh k).b
 cop:∀ k∈o,Int.gcd (uV wh k).a (uV wh k).b=1
 bez:∀ k∈o,bezS (uV wh k).a (uV wh k).b*(uV wh k).a+bezT (uV wh k).a (uV wh k).b*(uV wh k).b=1
 small:∀ k∈o,(bezS (uV wh k).a (uV wh k).b).natAbs+(bezT (uV wh k).a (uV wh k).b).natAbs≤17
 det:∀ k∈o,∀ i∈o,k≠i→Bm wh k i≠0
theorem Wh.tail {wh:List R2} {k:Int} {o:List Int} (h:Wh wh (k :: o)):Wh wh o:=
 ⟨fun i hi=>h.near i (aL _ hi),fun i hi=>h.cop i (aL _ hi),fun i hi=>h.bez i (aL _ hi),fun i hi=>h.small i (aL _ hi),
  fun k hk i hi=>h.det k (aL _ hk) i (aL _ hi)⟩
theorem Zs {n:Int} {wh:List R2} {k i:Int} (e:Nat) (hk:0≤k∧k<n) (hi:0≤i∧i<n) (h1:near (uV wh k).a (uV wh k).b) (h2:near (uV wh i).a (uV wh i).b) (h3:(bezS (uV wh k).a (uV wh k).b).natAbs+(bezT (uV wh k).a (uV wh k).b).natAbs≤17) (h4:Bm wh k i≠0) :
 Good (3*n+1) (e+3) 1 (De n wh k e i):=by
 have hl:=KD h3 h2;have hd:=YB h1 h2;unfold De;have e1:Good (3*n+1) (e+2) 0 (if Cr wh k i≠0∨e=0 then Bl (3*n) k (Cr wh k i) e++[⟨4,i,i,3*n,0⟩] else []):=by
  split
  · exact (NS sU sU hl e).append (Ga sU sU sU)
  exact (gV _).mono sU sU
 have e2:Good (3*n+1) 1 1 (if Bm wh k i=1 then [] else yB i (Bm wh k i)):=by
  split
  · exact (gV _).mono sU sU
  exact (Wz sU h4 hd).mono (aH _) (by split <;> omega)
 exact (e1.append e2).mono sU sU
theorem Rx {n:Int} {wh:List R2} {k:Int} (e:Nat) (hk:0≤k∧k<n) (h1:near (uV wh k).a (uV wh k).b) (h3:(bezS (uV wh k).a (uV wh k).b).natAbs+(bezT (uV wh k).a (uV wh k).b).natAbs≤17) :
 ∀ left:List Int,(∀ i∈left,0≤i∧i<n)→(∀ i∈left,near (uV wh i).a (uV wh i).b∧Bm wh k i≠0)→Good (3*n+1) (left.length*(e+3)) left.length (zS n wh k e left)
 | [],_,_=>(gV _).mono (aP _) (aP _)
 | i :: left,hi,h=>by
   have h5:=h i aQ;refine ((Zs e hk (hi i aQ) h1 h5.1 h3 h5.2).append (Rx e hk h1 h3 left (fun j hj=>hi j (aL _ hj)) (fun j hj=>h j (aL _ hj)))).mono ?_ ?_
   · rw [aU,pS];omega
   rw [aU];omega
def tg:Nat→Nat
 | 0=>0
 | m+1=>m+tg m
theorem Kl {n:Int} {wh:List R2}:∀ o:List Int,o.length≤15→(∀ i∈o,0≤i∧i<n)→o.Nodup→Wh wh o→Good (3*n+1) (238*o.length) (tg o.length) (zT n wh o)
 | [],_,_,_,_=>(gV _).mono (aP _) (aP _)
 | k :: left,hl,hr,hn,hw=>by
   obtain ⟨hn1,hn2⟩:=iC.1 hn;rw [aU] at hl;have h1:=Rx (n:=n) (wh:=wh) left.length (hr k aQ) (hw.near k aQ) (hw.small k aQ) left (fun i hi=>hr i (aL _ hi)) (fun i hi=>⟨hw.near i (aL _ hi),hw.det k aQ i (aL _ hi) (fun e=>hn1 (e▸hi))⟩);have h2:=Kl left sU (fun i hi=>hr i (aL _ hi)) hn2 hw.tail;refine (h1.append h2).mono ?_ ?_
   · rw [aU];have:left.length*(left.length+3)≤14*17:=gO sU sU;omega
   exact aH _
theorem HR {n u v:Int} {th:List Bool} {j:Nat} (hj:(j:Int)<n) (hu:-512≤u∧u≤512) (hv:-512≤v∧v≤512):Good (3*n+1) 3 0 (Ce n u v th j).2:=by
 unfold Ce;simp only;by_cases hj0:0<j
 · have h1:Good (3*n+1) 1 0 (tE (3*n) (2*n+(j - 1)) u):=vE sU sU hu;have h2:Good (3*n+1) 1 0 (tE (2*n+j) (2*n+j) v):=vE sU sU hv;have h3:Good (3*n+1) 1 0 (tE (2*n+j) (3*n) 1):=vE sU sU sU;have h4:Good (3*n+1) 1 0 [(⟨3,2*n+j,2*n+j,3*n,0⟩:I5)]:=Kk sU sU sU;generalize (decide (0<j) && th[j - 1]?.getD false && decide (u≠0))=low;generalize (th[j]?.getD false && decide (v≠0))=own;cases low <;> cases own
   · exact (gV _).mono sU sU
   · exact h2.mono sU sU
   · exact (h1.append h3).mono sU sU
   exact (h1.append (h2.append h4)).mono sU sU
 have h2:Good (3*n+1) 1 0 (tE (2*n+j) (2*n+j) v):=vE sU sU hv;rw [bN hj0];generalize (th[j]?.getD false && decide (v≠0))=own;cases own
 · exact (gV _).mono sU sU
 exact h2.mono sU sU
theorem DW {n u v:Int} (hu:-512≤u∧u≤512) (hv:-512≤v∧v≤512):∀ (m:Nat) (th:List Bool),(m:Int)≤n→Good (3*n+1) (3*m) 0 (Ww n u v m th).2
 | 0,_,_=>gV _
 | m+1,th,h=>((HR sU hu hv).append (DW hu hv m _ sU)).mono sU sU
theorem Xb {n u v:Int} (hu:-512≤u∧u≤512) (hv:-512≤v∧v≤512) (hn:n≤15):∀ (m d:Nat) (th:List Bool),((d+m:Nat):Int)≤n→Good (3*n+1) (45*m) 0 (Ir n u v m d th).2
 | 0,_,_,_=>gV _
 | m+1,d,th,h=>((DW hu hv (d+1) th sU).append (Xb hu hv hn m (d+1) _ sU)).mono sU sU
theorem DX {n u v k:Int} {e:Nat} (hu:-512≤u∧u≤512) (hv:-512≤v∧v≤512) (hn:n≤15) (he:(e:Int)<n) (hk:0≤k∧k<n):Good (3*n+1) (1+45*e) 0 (Ak n u v k e):=
 (vE sU sU sU).append (Xb hu hv hn e 1 _ sU)
theorem Xc {n:Int} {p:R2} (hp:near p.a p.b):∀ m:Nat,(m:Int)≤n→Good (3*n+1) (3*m) 0 (Zr n p m)
 | 0,_=>gV _
 | j+1,h=>by
   unfold near at hp;unfold Zr;have h1:Good (3*n+1) 1 0 (if 0<j then tE (3*n) (n+((j:Int) - 1)) p.b else []):=by
    split
    · exact vE sU sU sU
    exact (gV _).mono sU sU
   have h2:Good (3*n+1) 1 0 (tE (n+j) (n+j) p.a):=vE sU sU sU;have h3:Good (3*n+1) 1 0 (if 0<j then [(⟨4,n+j,n+j,3*n,0⟩:I5)] else []):=by
    split
    · exact Ga sU sU sU
    exact (gV _).mono sU sU
   exact (h1.append (h2.append (h3.append (Xc hp j sU)))).mono sU sU
theorem Oh {n:Int}:∀ (th:List Bool) (j:Nat),((j+th.length:Nat):Int)≤n→Good (3*n+1) th.length 0 (Dl n th j)
 | [],_,_=>gV _
 | t :: th,j,h=>by
   rw [aU] at h;have h1:Good (3*n+1) 1 0 (if t then [(⟨3,n+j,n+j,2*n+j,0⟩:I5)] else []):=by
    split
    · exact Kk sU sU sU
    exact (gV _).mono sU sU
   exact (h1.append (Oh th (j+1) sU)).mono Vr sU
theorem NT {n:Int} {wh:List R2} {k:Int} {e:Nat} (hn:n≤15) (h1:1≤e) (he:(e:Int)<n) (hk:0≤k∧k<n) (hp:near (uV wh k).a (uV wh k).b) (hs:(bezS (uV wh k).a (uV wh k).b).natAbs+(bezT (uV wh k).a (uV wh k).b).natAbs≤17):Good (3*n+1) 700 0 (yC n wh k e):=by
 have a1:=vE (R:=3*n+1) (to:=n+e) (x:=n+((e:Int) - 1)) (c:=-(uV wh k).b) sU sU Qn;have a2:=Xc (n:=n) hp e sU;have a3:=DX (n:=n) (u:=bezS (uV wh k).a (uV wh k).b) (v:=bezT (uV wh k).a (uV wh k).b) (k:=k) (e:=e) sU sU hn he hk;have a4:=Oh (n:=n) (yR n (bezS (uV wh k).a (uV wh k).b) (bezT (uV wh k).a (uV wh k).b) e) 0 (by rw [As];omega);have hl:=As n (bezS (uV wh k).a (uV wh k).b) (bezT (uV wh k).a (uV wh k).b) e;exact ((a1.append a2).append (a3.append a4)).mono (by rw [hl];omega) sU
theorem Km {n:Int} {wh:List R2} (hn:n≤15):∀ o:List Int,(o.length:Int)≤n→(∀ i∈o,0≤i∧i<n)→Wh wh o→Good (3*n+1) (700*o.length) 0 (vQ n wh o)
 | [],_,_,_=>gV _
 | [k],_,hr,_=>by
   have:=hr k aQ;exact (vE sU sU sU).mono tW (aH _)
 | k :: i :: left,hl,hr,hw=>by
   rw [aU] at hl;have h1:=Km hn (i :: left) sU (fun j hj=>hr j (aL _ hj)) hw.tail;have h2:=NT (n:=n) (wh:=wh) (k:=k) (e:=(i :: left).length) hn tW sU (hr k aQ) (hw.near k aQ) (hw.small k aQ);exact (h1.append h2).mono (by rw [aU (a:=k)];omega) sU
def Bn (m:Nat):List R2→Nat→List I5
 | [],_=>[]
 | p :: l,k=>(List.replicate m (yB k (Int.gcd p.a p.b))).flatten++Bn m l (k+1)
def tX (p:R2):R2:=⟨p.a.tdiv (Int.gcd p.a p.b),p.b.tdiv (Int.gcd p.a p.b)⟩
def Oi (l:List R2) (o:List Int):List Sl.Instr:=Bn (l.length - 1) l 0++(zT l.length (l.map tX) o++vQ l.length (l.map tX) o)
def tK (l:List R2) (o:List Int):PV:=⟨l.length,3*l.length+1,Oi l o,(List.range l.length).map fun j:Nat=>(l.length:Int)+j⟩
theorem Gb {p:R2} (h:Oz p):1≤Int.gcd p.a p.b∧Int.gcd p.a p.b≤16:=by
 obtain ⟨h1,h2⟩:=h;have hg0:0<Int.gcd p.a p.b:=Nat.pos_of_ne_zero fun h1=>h2 (Int.gcd_eq_zero_iff.mp h1);refine ⟨hg0,?_⟩;unfold near at h1;by_cases ha:p.a=0
 · have hb:p.b≠0:=fun hb=>h2 ⟨ha,hb⟩;have:=rF sU (show Int.gcd p.a p.b ∣ p.b.natAbs from Nat.gcd_dvd_right _ _);omega
 have:=rF sU (show Int.gcd p.a p.b ∣ p.a.natAbs from Nat.gcd_dvd_left _ _);omega
theorem Ko {n:Int} (m:Nat):∀ (l:List R2) (k:Nat),((k+l.length:Nat):Int)≤n→(∀ p∈l,Oz p)→Good (3*n+1) (l.length*m) (m*Mp l) (Bn m l k)
 | [],_,_,_=>(gV _).mono (aP _) (aP _)
 | p :: l,k,h,hp=>by
   rw [aU] at h;have hg:=Gb (hp p aQ);have h1:=Xa (R:=3*n+1) (to:=(k:Int)) (c:=(Int.gcd p.a p.b:Int)) sU sU sU m;have h2:=Ko (n:=n) m l (k+1) sU (fun q hq=>hp q (aL _ hq));refine (h1.append h2).mono ?_ ?_
   · rw [aU,pS];omega
   have e:Mp (p :: l)=(if Int.gcd p.a p.b=1 then 0 else 1)+Mp l:=by
    unfold Mp;rw [List.filter_cons];by_cases hh:Int.gcd p.a p.b=1
    · rw [aC (by simp [hh]),aE hh,cP]
    rw [aE (by simp [hh]),aC hh,aU,Nat.add_comm]
   rw [e,Nat.mul_add];by_cases hh:Int.gcd p.a p.b=1
   · rw [aE (by omega),aE hh];omega
   rw [aC (by omega),aC hh];omega
theorem KE (l:List R2) {k:Int} (h0:0≤k) (h:k<l.length):uV (l.map tX) k=tX (l[k.toNat]?.getD default):=by
 unfold uV;rw [bQ,aA (show k.toNat<l.length by omega)];rfl
theorem xR {p:R2} (h:Oz p):p.a=Int.gcd p.a p.b*(tX p).a∧p.b=Int.gcd p.a p.b*(tX p).b∧Int.gcd (tX p).a (tX p).b=1∧Oz (tX p):=by
 obtain ⟨g1,g2⟩:=Gb h;have e1:p.a.tdiv (Int.gcd p.a p.b)*Int.gcd p.a p.b=p.a:=kC (sQ p.a p.b);have e2:p.b.tdiv (Int.gcd p.a p.b)*Int.gcd p.a p.b=p.b:=kC (sC p.a p.b);have q1:=xO p.a (Int.gcd p.a p.b);have q2:=xO p.b (Int.gcd p.a p.b);refine ⟨by rw [dH];exact e1.symm,by rw [dH];exact e2.symm,?_,?_,?_⟩
 · show Nat.gcd (p.a.tdiv (Int.gcd p.a p.b)).natAbs (p.b.tdiv (Int.gcd p.a p.b)).natAbs=1;rw [show (p.a.tdiv (Int.gcd p.a p.b)).natAbs=p.a.natAbs / Int.gcd p.a p.b from mC _ _,show (p.b.tdiv (Int.gcd p.a p.b)).natAbs=p.b.natAbs / Int.gcd p.a p.b from mC _ _];exact Nat.coprime_div_gcd_div_gcd g1
 · have h1:=h.1;unfold near at *;show _≤p.a.tdiv _∧p.a.tdiv _≤_∧_≤p.b.tdiv _∧p.b.tdiv _≤_;omega
 intro ⟨z1,z2⟩;apply h.2;have z1:p.a.tdiv (Int.gcd p.a p.b)=0:=z1;have z2:p.b.tdiv (Int.gcd p.a p.b)=0:=z2;rw [z1,eR] at e1;rw [z2,eR] at e2;exact ⟨e1.symm,e2.symm⟩
theorem TB {l:List R2} (hR:uO l) {i j:Nat} (hij:i<j) (hj:j<l.length):(l[i]?.getD default).a*(l[j]?.getD default).b - (l[j]?.getD default).a*(l[i]?.getD default).b≠0:=by
 obtain ⟨h1,h2,h3,h4⟩:=hR;intro h;apply h4;obtain ⟨p1,p2⟩:=h3 i sU;obtain ⟨q1,q2⟩:=h3 j hj;refine ⟨j,hj,i,hij,p1,q1,(DE _ _ _ _).2 ?_⟩;unfold Mj;rw [aC (fun h=>h.elim p2 q2)];exact h
theorem DY {l:List R2} (hR:uO l) {o:List Int} (ho:∀ k∈o,0≤k∧k<l.length):Wh (l.map tX) o:=by
 have hok:∀ k∈o,Oz (l[k.toNat]?.getD default):=fun k hk=>hR.2.2.1 _ (by have:=ho k hk;omega);have hpt:∀ k∈o,uV (l.map tX) k=tX (l[k.toNat]?.getD default):=fun k hk=>KE l (ho k hk).1 (ho k hk).2;have hb:∀ k∈o,bezS (uV (l.map tX) k).a (uV (l.map tX) k).b*(uV (l.map tX) k).a+bezT (uV (l.map tX) k).a (uV (l.map tX) k).b*(uV (l.map tX) k).b=1∧(bezS (uV (l.map tX) k).a (uV (l.map tX) k).b).natAbs+(bezT (uV (l.map tX) k).a (uV (l.map tX) k).b).natAbs≤17:=fun k hk=>by
  rw [hpt k hk];obtain ⟨_,_,w3,w4⟩:=xR (hok k hk);obtain ⟨b1,b2,_⟩:=Gt w4.1 w4.2;rw [w3] at b1;exact ⟨b1,b2⟩
 refine ⟨fun k hk=>by rw [hpt k hk];exact (xR (hok k hk)).2.2.2.1,fun k hk=>by rw [hpt k hk];exact (xR (hok k hk)).2.2.1,fun k hk=>(hb k hk).1,fun k hk=>(hb k hk).2,fun k hk i hi hne=>?_⟩;have hd:((l[k.toNat]?.getD default).a*(l[i.toNat]?.getD default).b - (l[i.toNat]?.getD default).a*(l[k.toNat]?.getD default).b)≠0:=by
  have h1:=ho k hk;have h2:=ho i hi;rcases aN k.toNat i.toNat with h | h
  · exact TB hR h sU
  have:=TB hR (show i.toNat<k.toNat by omega) sU;intro h3;apply this;omega
 intro h0;apply hd;unfold Bm at h0;rw [hpt k hk,hpt i hi] at h0;obtain ⟨a1,a2,_⟩:=xR (hok k hk);obtain ⟨c1,c2,_⟩:=xR (hok i hi);generalize (l[k.toNat]?.getD default)=p at *;generalize (l[i.toNat]?.getD default)=q at *;have key:p.a*q.b - q.a*p.b=((tX p).a*(tX q).b - (tX q).a*(tX p).b)*((Int.gcd p.a p.b:Int)*(Int.gcd q.a q.b:Int)):=by
  rw [oY];calc p.a*q.b - q.a*p.b=(Int.gcd p.a p.b*(tX p).a)*(Int.gcd q.a q.b*(tX q).b) - (Int.gcd q.a q.b*(tX q).a)*(Int.gcd p.a p.b*(tX p).b):=by rw [←a1,←a2,←c1,←c2]
   _=_:=by congr 1 <;> ac_rfl
 rw [key,h0,eR]
theorem Mu {l:List R2} {o:List Int} (hR:uO l) (ho:Ey o l.length):Good (3*l.length+1) 16384 (tg l.length+(l.length - 1)*Mp l) (Oi l o):=by
 obtain ⟨o1,o2,o3⟩:=ho;have hl:=hR.2.1;have hw:=DY hR o2;have hok:∀ p∈l,Oz p:=fun p hp=>by
  obtain ⟨i,hi,rfl⟩:=gP.1 hp;have:=hR.2.2.1 i hi;rw [aA hi] at this;exact this
 have h1:=Ko (n:=l.length) (l.length - 1) l 0 sU hok;have h2:=Kl (n:=l.length) (wh:=l.map tX) o sU o2 o3 hw;have h3:=Km (n:=l.length) (wh:=l.map tX) sU o sU o2 hw;refine (h1.append (h2.append h3)).mono ?_ ?_
 · have:l.length*(l.length - 1)≤15*14:=gO sU sU;omega
 rw [o1];omega
theorem Is {l:List R2} {o:List Int} (hR:uO l) (ho:Ey o l.length):sW (tK l o)=true:=by
 have hg:=Mu hR ho;have hl:=hR.1;have hl2:=hR.2.1;refine Mr ⟨?_,?_,?_,hg.len,?_,?_⟩ ?_ hg.fit
 · show (1:Int)≤l.length;omega
 · show (l.length:Int)≤3*l.length+1;omega
 · show (3*l.length+1:Int)≤128;omega
 · show 1≤((List.range l.length).map _).length;rw [aT,cM];exact hl
 · show ((List.range l.length).map _).length≤128;rw [aT,cM];omega
 intro r hr;obtain ⟨j,hj,rfl⟩:=cT.1 hr;have:=jD.1 hj;show 0≤(l.length:Int)+j∧(l.length:Int)+j<3*l.length+1;omega
def Bb (i:I5) (zs:List Int):J0 Int:=
 let a:=zs[i.a.toNat]?.getD 0
 let b:=zs[i.b.toNat]?.getD 0
 if i.op=2 then some (-a)
 else if i.op=3 then some (a+b)
 else if i.op=4 then some (a - b)
 else if i.op=5∨i.op=7 then some (a*cst i)
 else if i.op=6∨i.op=8 then (if a % cst i=0 then some (a / cst i) else none)
 else some a
section
attribute [local irreducible] Dt pb vG uG p2 cst
end
def Zt (p:PV) (zs:List Int):Nat→J0 (List Int)
 | 0=>some zs
 | k+1=>(Zt p zs k).bind fun rs=>(Bb (p.code[((k:Nat):Int).toNat]?.getD default) rs).map fun x=>rs.set (p.code[((k:Nat):Int).toNat]?.getD default).to.toNat x
theorem Below.mono {m k:Nat} {zs:List Int} (h:Below m zs) (hk:m≤k):Below k zs:=fun z hz=>mI (h z hz) (jg hk)
section
attribute [local irreducible] Dt pb vG uG p2 cst Bb
end
theorem YC (G:A2) (p:PV) (ac ao:J0 Addr) (cc co:Nat) (hc:Arr G ac p.code) (ho:Arr G ao p.outs) (h1:p.code.length≤1099511627776) (h2:p.outs.length≤1099511627776) (hR:sW p=true) :
 Does Tryz.prog 56 [.agg (J1 p ac cc ao co)] G [] (fun v G' Ho=>v=.tuple #[.int .i64 (uH p).1,.int .i64 0]∧G'=G∧Ho=[]):=by
 have hf:(uH p).2=false:=by unfold sW at hR;simpa using hR
 have h:=jm G p ac ao cc co hc ho h1 h2;rw [hf] at h;exact h
def wD (p:PV) (zs:List Int):List Int:=zs++List.replicate (p.regs.toNat - zs.length) 0
def zU (p:PV) (rs:List Int):List Int:=p.outs.map fun r=>rs[r.toNat]?.getD 0
def Fg (p:PV) (zs:List Int):J0 (List Int):=(Zt p (wD p zs) p.code.length).map (zU p)
section
attribute [local irreducible] Dt pb vG uG p2 cst Bb uH
end
def GH:List I5→List Int→J0 (List Int)
 | [],rs=>some rs
 | i :: l,rs=>(Bb i rs).bind fun x=>GH l (rs.set i.to.toNat x)
theorem TC (l:List I5) (i:I5) (rs:List Int):GH (l++[i]) rs=(GH l rs).bind fun r=>(Bb i r).map fun x=>r.set i.to.toNat x:=by
 induction l generalizing rs with
 | nil =>
   show (Bb i rs).bind (fun x=>some (rs.set i.to.toNat x))=(Bb i rs).map _;cases Bb i rs <;> rfl
 | cons j l ih =>
   show (Bb j rs).bind (fun x=>GH (l++[i]) (rs.set j.to.toNat x))=((Bb j rs).bind fun x=>GH l (rs.set j.to.toNat x)).bind _;cases Bb j rs with
   | none=>rfl
   | some x=>exact ih _
theorem Ez (p:PV) (zs:List Int):∀ k,k≤p.code.length→Zt p zs k=GH (p.code.take k) zs
 | 0,_=>by rw [dP];rfl
 | k+1,hk=>by
   have htk:p.code.take (k+1)=p.code.take k++[p.code[(k:Int).toNat]?.getD default]:=by
    rw [dA,aG,aA sU];rfl
   rw [htk,TC,←Ez p zs k sU];rfl
def Dp (j:Nat) (rs:List (List Int)):List Int:=rs.map fun r=>r[j]?.getD 0
def Flat (N:Nat) (rs:List (List Int)):Prop:=∀ r∈rs,r.length=N
theorem zV (j:Nat) (rs:List (List Int)):(Dp j rs).length=rs.length:=by unfold Dp;rw [aT]
theorem Gc {j k:Nat} {rs:List (List Int)}:(Dp j rs)[k]?.getD 0=(rs[k]?.getD [])[j]?.getD 0:=by
 unfold Dp;rw [bQ];cases rs[k]? <;> rfl
theorem Pr (j k:Nat) (rs:List (List Int)) (x:List Int):Dp j (rs.set k x)=(Dp j rs).set k (x[j]?.getD 0):=by
 unfold Dp;rw [List.map_set]
theorem Df {N k:Nat} {rs:List (List Int)} (h:Flat N rs) (hk:k<rs.length):(rs[k]?.getD []).length=N:=by
 rw [aA hk];exact h _ (bY hk)
theorem Ry {l:List Int} {f:Int→Int} {j:Nat} (h:j<l.length):(l.map f)[j]?.getD 0=f (l[j]?.getD 0):=by
 rw [bQ,aA h];rfl
theorem DZ {l m:List Int} {f:Int→Int→Int} {j:Nat} (h:j<l.length) (h2:j<m.length):(List.zipWith f l m)[j]?.getD 0=f (l[j]?.getD 0) (m[j]?.getD 0):=by
 rw [List.getElem?_zipWith,aA h,aA h2];rfl
theorem KF {i:I5} {rs:List (List Int)} {N:Nat} (he:Flat N rs) (ha:i.a.toNat<rs.length) (hb:i.op=3∨i.op=4→i.b.toNat<rs.length) :
 (∀ x,zP i rs=some x→x.length=N∧∀ j,j<N→Bb i (Dp j rs)=some (x[j]?.getD 0))∧(zP i rs=none→∃ j,j<N∧Bb i (Dp j rs)=none):=by
 have la:=Df he ha;unfold zP Bb;simp only [Gc];by_cases h2:i.op=2
 · simp only [aE h2];refine ⟨fun x h=>?_,fun h=>by cases h⟩;cases h;refine ⟨by rw [aT];exact la,fun j hj=>?_⟩;rw [Ry sU,hU,eN]
 simp only [aC h2];by_cases h3:i.op=3
 · have lb:=Df he (hb (.inl h3));simp only [aE h3];refine ⟨fun x h=>?_,fun h=>by cases h⟩;cases h;refine ⟨by rw [jG];omega,fun j hj=>?_⟩;rw [DZ sU sU,eN]
 simp only [aC h3];by_cases h4:i.op=4
 · have lb:=Df he (hb (.inr h4));simp only [aE h4];refine ⟨fun x h=>?_,fun h=>by cases h⟩;cases h;refine ⟨by rw [jG];omega,fun j hj=>?_⟩;rw [DZ sU sU,hU,eN];rfl
 simp only [aC h4];by_cases h5:i.op=5∨i.op=7
 · simp only [aE h5];refine ⟨fun x h=>?_,fun h=>by cases h⟩;cases h;refine ⟨by rw [aT];exact la,fun j hj=>?_⟩;rw [Ry sU,dH]
 simp only [aC h5];by_cases h6:i.op=6∨i.op=8
 · simp only [aE h6];by_cases hd:yG (cst i) (rs[i.a.toNat]?.getD [])
   · rw [aE hd];refine ⟨fun x h=>?_,fun h=>by cases h⟩;cases h;refine ⟨by rw [aT];exact la,fun j hj=>?_⟩;rw [aE (hd j sU),Ry sU]
   rw [aC hd];refine ⟨fun x h=>yA,fun _=>?_⟩;unfold yG at hd;rw [Classical.not_forall] at hd;obtain ⟨j,hd⟩:=hd;rw [Classical.not_imp] at hd;exact ⟨j,by omega,aC hd.2⟩
 simp only [aC h6];refine ⟨fun x h=>?_,fun h=>by cases h⟩;cases h;exact ⟨la,fun j hj=>rfl⟩
theorem flat_set {N k:Nat} {rs:List (List Int)} {x:List Int} (h:Flat N rs) (hx:x.length=N):Flat N (rs.set k x):=fun r hr=>by
 rcases eM hr with h1 | h1
 · exact h r h1
 rw [h1];exact hx
def HS (n:Nat) (i:I5):Prop:=i.a.toNat<n∧(i.op=3∨i.op=4→i.b.toNat<n)
theorem EA {N:Nat}:∀ (l:List I5) (rs:List (List Int)),Flat N rs→(∀ i∈l,HS rs.length i)→
 (∀ r',zQ l rs=some r'→Flat N r'∧r'.length=rs.length∧∀ j,j<N→GH l (Dp j rs)=some (Dp j r'))∧(zQ l rs=none→∃ j,j<N∧GH l (Dp j rs)=none)
 | [],rs,he,_=>⟨fun r' h=>by cases h;exact ⟨he,U,fun j _=>rfl⟩,fun h=>by cases h⟩
 | i :: l,rs,he,hi=>by
   obtain ⟨h1,h2⟩:=KF he (hi i tW).1 (hi i tW).2;unfold zQ GH;cases hd:zP i rs with
   | none =>
     refine ⟨fun r' h=>yA,fun _=>?_⟩;obtain ⟨j,hj,hz⟩:=h2 hd;exact ⟨j,hj,by rw [hz];rfl⟩
   | some x =>
     obtain ⟨hx,hc⟩:=h1 x hd;obtain ⟨g1,g2⟩:=EA l (rs.set i.to.toNat x) (flat_set he hx) (fun q hq=>by rw [aI];exact hi q (by simp [hq]));refine ⟨fun r' h=>?_,fun h=>?_⟩
     · obtain ⟨k1,k2,k3⟩:=g1 r' h;refine ⟨k1,by rw [k2,aI],fun j hj=>?_⟩;rw [hc j hj];show GH l ((Dp j rs).set i.to.toNat (x[j]?.getD 0))=_;rw [←Pr];exact k3 j hj
     obtain ⟨j,hj,hz⟩:=g2 h;refine ⟨j,hj,?_⟩;rw [hc j hj];show GH l ((Dp j rs).set i.to.toNat (x[j]?.getD 0))=_;rw [←Pr];exact hz
theorem HT {i:I5} {regs:Int} {n:Nat} (h:tH i regs=true) (hn:(n:Int)=regs):HS n i:=by
 obtain ⟨m1,m2,m3,m4,m5⟩:=tZ h;exact ⟨by omega,fun h34=>by have:=m4 h34;omega⟩
theorem Mv {p:PV} {gs:List (List Int)} {N:Nat} (hN:Flat N gs) (h1:1≤gs.length):Flat N (vR p gs):=fun r hr=>by
 unfold vR at hr;obtain ⟨k,_,rfl⟩:=cT.1 hr;split
 · rename_i hk;exact Df hN hk
 rw [aM];exact Df hN h1
theorem Kp {p:PV} {gs:List (List Int)} (hz:gs.length≤p.regs.toNat) (j:Nat):Dp j (vR p gs)=wD p (Dp j gs):=by
 apply fL;intro k;have hl:(wD p (Dp j gs)).length=p.regs.toNat:=by unfold wD;rw [aD,aM,zV];omega
 have hl2:(Dp j (vR p gs)).length=p.regs.toNat:=by rw [zV,vW]
 rcases aN k p.regs.toNat with hk | hk
 · have e:∀ (l:List Int),k<l.length→l[k]?=some (l[k]?.getD 0):=fun l h=>by rw [aA h];rfl
   rw [e _ sU,e (wD p (Dp j gs)) sU];congr 1;rw [Gc,Fw hk];unfold wD;split
   · rename_i h;rw [bC (by rw [zV];exact h),Gc]
   rename_i h;rw [cS (by rw [zV];omega),zV];have e0:∀ (n m:Nat),(List.replicate n (0:Int))[m]?.getD 0=0:=fun n m=>by
    rw [dZ];split <;> rfl
   rw [e0,e0]
 rw [bV sU,bV sU]
theorem Gd {p:PV} {gs os:List (List Int)} {N:Nat} (hR:sW p=true) (hg:(gs.length:Int)=p.ins) (hN:Flat N gs) (ho:os.length=p.outs.length) (hf:Flat N os)
 (h:∀ j,j<N→Fg p (Dp j gs)=some (Dp j os)):tJ p gs=some os:=by
 obtain ⟨f1,f2,f3,f4,f5,f6,f7,f8⟩:=sZ hR;have hfp:=Mv (p:=p) hN sU;unfold tJ;rw [Ad p gs _ (aH _),bI];have hq:=EA p.code (vR p gs) hfp (fun i hi=>HT (f8 i hi) (by rw [vW];omega));have h9:∀ j,j<N→(GH p.code (Dp j (vR p gs))).map (zU p)=some (Dp j os):=fun j hj=>by
  have h1:=h j hj;unfold Fg at h1;rw [Ez p _ _ (aH _),bI,←Kp sU] at h1;exact h1
 cases hr:zQ p.code (vR p gs) with
 | none =>
   obtain ⟨j,hj,hz⟩:=hq.2 hr;have h1:=h9 j hj;rw [hz] at h1;cases h1
 | some s =>
   obtain ⟨q1,q2,q3⟩:=hq.1 s hr;show some (wV p s)=some os;congr 1;unfold wV;apply gS
   · rw [aT,ho]
   intro k g1 g2;rw [aT] at g1;rw [gE];have hrk:=f7 p.outs[k] (bY g1);have ls:=Df q1 (k:=p.outs[k].toNat) (by rw [q2,vW];omega);have lo:=hf _ (bY g2);apply gS
   · omega
   intro j j1 j2;have h1:=h9 j sU;rw [q3 j sU] at h1;have h2:zU p (Dp j s)=Dp j os:=jU h1;have h3:=congrArg (fun l:List Int=>l[k]?.getD 0) h2;simp only [Gc] at h3;unfold zU at h3;rw [bQ,aA g1,aA g2] at h3;simp only [fV,dI,Gc] at h3;rw [aA j1,aA j2] at h3;exact h3
def Ag (R:Int) (σ:Int→Int) (rs:List Int):Prop:=∀ r,0≤r→r<R→σ r=rs[r.toNat]?.getD 0
theorem YD {i:I5} {R:Int} {σ:Int→Int} {rs:List Int} (hm:tH i R=true) (h:Ag R σ rs):SW i σ=Bb i rs:=by
 obtain ⟨m1,m2,m3,m4,m5⟩:=tZ hm;unfold SW Bb;simp only [h i.a m3.1 m3.2];by_cases h34:i.op=3∨i.op=4
 · have:=m4 h34;rw [h i.b this.1 this.2]
 have h3:¬i.op=3:=fun e=>h34 (.inl e);have h4:¬i.op=4:=fun e=>h34 (.inr e);simp only [h3,h4,eQ]
theorem du {R:Int} {σ:Int→Int} {rs:List Int} {t x:Int} (h:Ag R σ rs) (hl:(rs.length:Int)=R) (ht:0≤t∧t<R):Ag R (upd σ t x) (rs.set t.toNat x):=fun r h0 h1=>by
 rw [cE];by_cases hr:r=t
 · subst hr;rw [uN,aE rfl,aE (by omega)];rfl
 rw [uF _ _ hr,aC (by omega)];exact h r h0 h1
theorem Sa {R:Int}:∀ (l:List I5) (σ σ':Int→Int) (rs:List Int),(∀ i∈l,tH i R=true)→(rs.length:Int)=R→Ag R σ rs→wC l σ=some σ'→∃ rs',GH l rs=some rs'∧(rs'.length:Int)=R∧Ag R σ' rs'
 | [],σ,σ',rs,_,hl,h,he=>by cases he;exact ⟨rs,U,hl,h⟩
 | i :: l,σ,σ',rs,hm,hl,h,he=>by
   have hmi:=hm i aQ;obtain ⟨m1,m2,m3⟩:=tZ hmi;obtain ⟨x,hx,he2⟩:=mQ.1 (show (SW i σ).bind (fun x=>wC l (upd σ i.to x))=some σ' from he);obtain ⟨rs',g1,g2,g3⟩:=Sa l (upd σ i.to x) σ' (rs.set i.to.toNat x) (fun j hj=>hm j (aL _ hj)) (by rw [aI];exact hl) (du h hl m2) he2;refine ⟨rs',?_,g2,g3⟩;show (Bb i rs).bind (fun x=>GH l (rs.set i.to.toNat x))=some rs';rw [←YD hmi h,hx];exact g1
theorem Oj (m:Nat) (v:Nat→Int):∀ (l:List R2) (k:Nat) (σ:Int→Int),(∀ p∈l,Int.gcd p.a p.b≠0)→(∀ i,i<l.length→σ ((k+i:Nat):Int)=(Int.gcd (l[i]?.getD default).a (l[i]?.getD default).b:Int) ^ m*v (k+i))→
 ∃ σ',wC (Bn m l k) σ=some σ'∧(∀ i,i<l.length→σ' ((k+i:Nat):Int)=v (k+i))∧∀ r:Int,r<k→σ' r=σ r
 | [],k,σ,_,_=>⟨σ,U,fun i h=>by simp at h,fun _ _=>rfl⟩
 | p :: l,k,σ,hg,h=>by
   have h0:=h 0 tW;obtain ⟨σ',a1,a2,a3⟩:=Oj m v l (k+1) (upd σ (k:Int) (v k)) (fun q hq=>hg q (aL _ hq)) (fun i hi=>by
    have:=h (i+1) Vr;rw [uF _ _ sU,show k+1+i=k+(i+1) by omega];exact this)
   refine ⟨σ',uB (Wu (k:Int) (Int.gcd p.a p.b:Int) (by have:=hg p aQ;omega) m σ (v k) h0) a1,fun i hi=>?_,fun r hr=>?_⟩
   · cases i with
     | zero =>
       show σ' ((k+0:Nat):Int)=v (k+0);rw [iY,a3 _ sU,uN]
     | succ i =>
       rw [aU] at hi;have:=a2 i sU;rw [show k+1+i=k+(i+1) by omega] at this;exact this
   rw [a3 r sU,uF _ _ sU]
theorem TD {l:List R2} {o:List Int} {f:List Int} (hR:uO l) (ho:Ey o l.length) (hf:f.length=l.length):Fg (tK l o) (l.map fun p=>ev f p.a p.b)=some f:=by
 have hg:=Mu hR ho;have hw:=DY hR ho.2.1;have hl:=hR.1;have hok:∀ i,i<l.length→Oz (l[i]?.getD default):=hR.2.2.1;have hokm:∀ p∈l,Oz p:=fun p hp=>by
  obtain ⟨i,hi,rfl⟩:=gP.1 hp;have:=hok i hi;rw [aA hi] at this;exact this
 generalize hrs:wD (tK l o) (l.map fun p=>ev f p.a p.b)=rs;have hzl:(l.map fun p=>ev f p.a p.b).length=l.length:=aT _;have hregs:(tK l o).regs=3*l.length+1:=rfl;have hrl:(rs.length:Int)=3*l.length+1:=by
  rw [←hrs];unfold wD;rw [aD,aM,hzl,hregs];omega
 have hr0:∀ i,i<l.length→rs[i]?.getD 0=ev f (l[i]?.getD default).a (l[i]?.getD default).b:=fun i hi=>by
  rw [←hrs];unfold wD;rw [bC (by rw [hzl];exact hi),bQ,aA hi];rfl
 obtain ⟨c,f',hcf⟩:∃ c f',f=c :: f':=by
  cases f with
  | nil=>rw [cD] at hf;omega
  | cons c f'=>exact ⟨c,f',U⟩
 have hfl:f'.length=l.length - 1:=by rw [hcf,aU] at hf;omega
 obtain ⟨σ1,a1,a2,a3⟩:=Oj (l.length - 1) (fun i=>ev f (uV (l.map tX) (i:Int)).a (uV (l.map tX) (i:Int)).b) l 0 (fun r=>rs[r.toNat]?.getD 0) (fun p hp=>by have:=Gb (hokm p hp);omega) (fun i hi=>by
  simp only [cP];rw [aG,hr0 i hi,KE l sU sU,aG];obtain ⟨w1,w2,_⟩:=xR (hok i hi);have hgp:=Gb (hok i hi);generalize (l[i]?.getD default)=p at *;have:=XX (g:=(Int.gcd p.a p.b:Int)) (tX p).a (tX p).b c f' sU;rw [←w1,←w2,hfl,←hcf] at this;exact this)
 have hv:∀ k∈o,σ1 k=ev f (uV (l.map tX) k).a (uV (l.map tX) k).b:=fun k hk=>by
  have h1:=ho.2.1 k hk;have:=a2 k.toNat sU;simp only [cP] at this;rw [show ((k.toNat:Nat):Int)=k by omega] at this;exact this
 have hol:=ho.1;obtain ⟨σ2,b1,b2,b3⟩:=Wy (n:=l.length) (wh:=l.map tX) o f σ1 ho.2.2 (by intro e;rw [e,cD] at hol;omega) ho.2.1 sU (fun k hk=>⟨hw.cop k hk,hw.bez k hk⟩) hw.det sU hv;obtain ⟨rs',c1,c2,c3⟩:=Sa (Oi l o) (fun r=>rs[r.toNat]?.getD 0) σ2 rs hg.fit hrl (fun r _ _=>rfl) (uB a1 b1);unfold Fg;rw [Ez _ _ _ (aH _),bI,hrs];show (GH (Oi l o) rs).map (zU (tK l o))=some f;rw [c1];show some (zU (tK l o) rs')=some f;congr 1;unfold zU tK;simp only;apply gS
 · rw [aT,aT,cM,hf]
 intro j g1 g2;rw [gE,gE,rL,←c3 _ sU sU,b2 j g2];unfold co;rw [aA g2];rfl
theorem EC {n j:Nat} (h:j<n) (a b:Int):ev (vS n j) a b=a ^ j*b ^ (n - 1 - j):=JZ a b n j h
theorem Ok {l:List R2} {o:List Int} (hR:uO l) (ho:Ey o l.length):Aj (tK l o) l:=by
 have hpo:(tK l o).outs.length=l.length:=by show ((List.range l.length).map _).length=_;rw [aT,cM]
 refine ⟨Is hR ho,U,hpo,?_⟩;have hul:∀ j,(vS l.length j).length=l.length:=fun j=>by unfold vS;rw [aI,aM]
 refine Gd (N:=l.length) (Is hR ho) (by rw [Eu];rfl) (fun r hr=>?_) (by rw [aT,cM,hpo]) (fun r hr=>?_) fun j hj=>?_
 · unfold xJ at hr;obtain ⟨p,hp,rfl⟩:=cT.1 hr;unfold xP;rw [aT,cM]
 · obtain ⟨i,hi,rfl⟩:=cT.1 hr;exact hul i
 have e1:Dp j (xJ l)=l.map fun p=>ev (vS l.length j) p.a p.b:=by
  unfold Dp xJ;rw [pW];apply lX;intro p hp;show (xP p.a p.b l.length)[j]?.getD 0=_;rw [EC hj];unfold xP;rw [bQ,eF hj];rfl
 have e2:Dp j ((List.range l.length).map (vS l.length))=vS l.length j:=by
  apply gS
  · rw [zV,aT,cM,hul]
  intro i g1 g2;rw [zV,aT,cM] at g1;have e3:∀ (a b:Nat),b<l.length→(vS l.length a)[b]?.getD 0=if a=b then 1 else 0:=fun a b hb=>by
   unfold vS;rw [cE,dZ];by_cases hab:a=b
   · rw [aE hab,aE hab,aE (by rw [aM];omega)];rfl
   rw [aC hab,aC hab,aE hb];rfl
  have e4:=e3 i j hj;have e5:=e3 j i g1;rw [aA g2] at e5;have e6:(Dp j ((List.range l.length).map (vS l.length)))[i]?.getD 0=(vS l.length i)[j]?.getD 0:=by
   rw [Gc,bQ,eF g1];rfl
  rw [aA (by rw [zV,aT,cM];exact g1)] at e6;simp only [dI] at e5 e6;rw [e6,e4,e5];by_cases hij:i=j
  · rw [aE hij,aE hij.symm]
  rw [aC hij,aC (fun h=>hij h.symm)]
 rw [e1,e2];exact TD hR ho (hul j)
def Lq (to a c:Int):List Sl.Instr:=
 if c=1 then (if to=a then [] else [⟨1,to,a,0,0⟩]) else if c=-1 then [⟨2,to,a,0,0⟩] else if wH c=0 then [⟨5,to,a,0,c⟩] else [⟨7,to,a,0,wH c⟩]
def Kq (to c:Int):Int→Nat→List I5
 | _,0=>[]
 | a,n+1=>Lq to a c++Kq to c to n
def KG (to tm b j:Int) (n:Nat):List Sl.Instr:=
 if b=1∨(b=-1∧n % 2=0) then [⟨3,to,to,j,0⟩] else if b=-1 then [⟨4,to,to,j,0⟩] else Kq tm b j n++[⟨3,to,to,tm,0⟩]
def PP (k:Nat) (to tm a b:Int):Int→Nat→List I5
 | _,0=>[]
 | fr,m+1=>Lq to fr a++(KG to tm b m (k - 1 - m)++PP k to tm a b to m)
def Cs (k n i:Nat) (q:R2):List Sl.Instr:=
 if k=1 then [] else if q.a=0∧q.b=0 then [⟨4,(k:Int)+i,0,0,0⟩] else if q.a=0 then Kq ((k:Int)+i) q.b 0 (k - 1)
 else if q.b=0 then Kq ((k:Int)+i) q.a ((k:Int) - 1) (k - 1) else PP k ((k:Int)+i) ((k:Int)+n) q.a q.b ((k:Int) - 1) (k - 1)
def ED (k n:Nat):Nat→List R2→List I5
 | _,[]=>[]
 | i,q :: l=>Cs k n i q++ED k n (i+1) l
def NU (k i:Nat):Int:=if k=1 then 0 else (k:Int)+i
def xG (k:Nat) (l:List R2):PV:=⟨k,(k:Int)+l.length+1,ED k l.length 0 l,(List.range l.length).map (NU k)⟩
theorem EE (k n:Nat) (q:R2):∀ (l:List R2) (i:Nat),ED k n i (l++[q])=ED k n i l++Cs k n (i+l.length) q
 | [],i=>by show Cs k n i q++[]=[]++_;rw [cK];rfl
 | p :: l,i=>by
   show Cs k n i p++ED k n (i+1) (l++[q])=(Cs k n i p++ED k n (i+1) l)++_;rw [EE k n q l (i+1),bA,aU,show i+1+l.length=i+(l.length+1) by omega]
theorem YE {to a c:Int} (h:wH c≠0):cst ⟨7,to,a,0,wH c⟩=c:=by
 rcases Ds h with rfl | rfl | rfl | rfl | rfl | rfl | rfl | rfl | rfl <;> rfl
theorem Zu (to a c:Int) (σ:Int→Int):wC (Lq to a c) σ=some (upd σ to (c*σ a)):=by
 unfold Lq;by_cases h1:c=1
 · rw [aE h1,h1,eN];by_cases h2:to=a
   · rw [aE h2,h2,Kh];rfl
   rw [aC h2];rfl
 rw [aC h1];by_cases h3:c=-1
 · rw [aE h3,h3,hU,eN];rfl
 rw [aC h3];by_cases h4:wH c=0
 · rw [aE h4];exact (Ea (x:=σ a*c) U).trans (by rw [dH])
 rw [aC h4];refine (Ea (x:=σ a*c) ?_).trans (by rw [dH]);show some (σ a*cst _)=_;rw [YE h4]
theorem Ps (to c:Int):∀ (n:Nat) (a:Int) (σ:Int→Int),wC (Kq to c a (n+1)) σ=some (upd σ to (c ^ (n+1)*σ a))
 | 0,a,σ=>by
   show wC (Lq to a c++[]) σ=_;rw [cK,Zu,gI,lU,eN]
 | n+1,a,σ=>by
   refine uB (Zu to a c σ) ((Ps to c n to _).trans ?_);rw [Zq,uN,gI c (n+1),bT]
theorem YF {to tm b j:Int} {n:Nat} (σ:Int→Int) (h1:tm≠to) (h2:j≠to) (hn:1≤n) :
 ∃ σ',wC (KG to tm b j n) σ=some σ'∧σ' to=σ to+b ^ n*σ j∧∀ r,r≠to→r≠tm→σ' r=σ r:=by
 unfold KG;by_cases c1:b=1∨(b=-1∧n % 2=0)
 · rw [aE c1];refine ⟨_,Pq _ _ _ _,?_,fun r hr _=>uF _ _ hr⟩;rw [uN];have:b ^ n=1:=by
    rcases c1 with rfl | ⟨rfl,h⟩
    · exact Int.one_pow
    rw [Fz,aE h]
   rw [this,eN]
 rw [aC c1];by_cases c2:b=-1
 · rw [aE c2];refine ⟨_,Ki _ _ _ _,?_,fun r hr _=>uF _ _ hr⟩;rw [uN,c2,Fz,aC (fun h=>c1 (.inr ⟨c2,h⟩)),hU,eN];rfl
 rw [aC c2];obtain ⟨m,rfl⟩:∃ m,n=m+1:=⟨n - 1,by omega⟩
 refine ⟨_,uB (Ps tm b m j σ) (Pq _ _ _ _),?_,fun r hr h=>?_⟩
 · rw [uN,uN,uF _ _ (kA h1)]
 rw [uF _ _ hr,uF _ _ h]
theorem KH {z:List Int} {m:Nat} (h:m<z.length) (a b:Int):ev (z.drop m) a b=z[m]?.getD 0*b ^ (z.length - 1 - m)+a*ev (z.drop (m+1)) a b:=by
 rw [dC h,aA h];show z[m]*b ^ (z.drop (m+1)).length+_=_;rw [eK,show z.length - (m+1)=z.length - 1 - m by omega];rfl
theorem KI {k:Nat} {to tm a b:Int} {z:List Int} (hz:z.length=k) (h1:tm≠to) (ht:(k:Int)≤to) (htm:(k:Int)≤tm):∀ (m:Nat) (fr:Int) (σ:Int→Int),m+1≤k→(m=0→fr=to)→
 (∀ j:Nat,j<k→σ j=z[j]?.getD 0)→σ fr=ev (z.drop m) a b→∃ σ',wC (PP k to tm a b fr m) σ=some σ'∧σ' to=ev z a b∧∀ r,r≠to→r≠tm→σ' r=σ r
 | 0,fr,σ,_,hf,_,hs=>⟨σ,U,by rw [←hf rfl,hs];rfl,fun _ _ _=>rfl⟩
 | m+1,fr,σ,hm,_,hr,hs=>by
   obtain ⟨σ2,e1,e2,e3⟩:=YF (to:=to) (tm:=tm) (b:=b) (j:=(m:Int)) (n:=k - 1 - m) (upd σ to (a*σ fr)) h1 sU sU;rw [uN,uF _ _ sU,hr m sU] at e2;obtain ⟨σ3,f1,f2,f3⟩:=KI hz h1 ht htm m to σ2 sU (fun _=>rfl) (fun j hj=>by rw [e3 _ sU sU,uF _ _ sU];exact hr j hj) (by
    rw [e2,hs,KH (z:=z) (m:=m) sU a b,hz,dH (b ^ (k - 1 - m)),Int.add_comm])
   refine ⟨σ3,uB (Zu to fr a σ) (uB e1 f1),f2,fun r g1 g2=>?_⟩;rw [f3 r g1 g2,e3 r g1 g2,uF _ _ g1]
theorem EF (a:Int):∀ z:List Int,1≤z.length→ev z a 0=a ^ (z.length - 1)*z[z.length - 1]?.getD 0
 | [],h=>absurd h tW
 | [c],_=>by simp [ev]
 | c :: d :: f,_=>by
   have ih:=EF a (d :: f) tW;show c*0 ^ (d :: f).length+a*ev (d :: f) a 0=_;rw [ih];simp only [aU,iQ];rw [rZ sU,cA,mW,iD,gI a f.length,dH (a ^ f.length) a,bT]
theorem KJ (b:Int) {z:List Int} (h:1≤z.length):ev z 0 b=b ^ (z.length - 1)*z[0]?.getD 0:=by
 cases z with
 | nil=>simp at h
 | cons c f =>
   show c*b ^ f.length+0*_=_;rw [eR,dV,dH];rfl
theorem TE {k n i:Nat} {q:R2} {z:List Int} (hz:z.length=k) (h1:1≤k) (hi:i<n) (σ:Int→Int) (hr:∀ j:Nat,j<k→σ j=z[j]?.getD 0) :
 ∃ σ',wC (Cs k n i q) σ=some σ'∧(k≠1→σ' ((k:Int)+i)=ev z q.a q.b)∧∀ r,r≠(k:Int)+i→r≠(k:Int)+n→σ' r=σ r:=by
 unfold Cs;by_cases hk:k=1
 · rw [aE hk];exact ⟨σ,U,fun h=>absurd hk h,fun _ _ _=>rfl⟩
 rw [aC hk];by_cases c1:q.a=0∧q.b=0
 · rw [aE c1];refine ⟨_,Ki _ _ _ _,fun _=>?_,fun r hr _=>uF _ _ hr⟩;rw [uN,pY,c1.1,c1.2,KJ 0 sU,rZ sU,eR]
 rw [aC c1];obtain ⟨m,hm⟩:∃ m,k - 1=m+1:=⟨k - 2,by omega⟩
 by_cases c2:q.a=0
 · rw [aE c2,hm];refine ⟨_,Ps _ _ m _ σ,fun _=>?_,fun r hr _=>uF _ _ hr⟩;have:=hr 0 sU;rw [uN,c2,KJ _ sU,hz,hm,←this];rfl
 rw [aC c2];by_cases c3:q.b=0
 · rw [aE c3,hm];refine ⟨_,Ps _ _ m _ σ,fun _=>?_,fun r hr _=>uF _ _ hr⟩;have:=hr (k - 1) sU;rw [show ((k - 1:Nat):Int)=(k:Int) - 1 by omega] at this;rw [uN,c3,EF _ _ sU,hz,this,hm]
 rw [aC c3];obtain ⟨σ',e1,e2,e3⟩:=KI (k:=k) (to:=(k:Int)+i) (tm:=(k:Int)+n) (a:=q.a) (b:=q.b) hz sU sU sU (k - 1) ((k:Int) - 1) σ sU (fun h=>by omega) hr (by
  have:=hr (k - 1) sU;rw [show ((k - 1:Nat):Int)=(k:Int) - 1 by omega] at this;rw [this,KH sU,gT sU,hz,iX,lU,iE];show _=_+q.a*0;rw [cA,dV])
 exact ⟨σ',e1,fun _=>e2,e3⟩
theorem KK {k:Nat} (n:Nat) {z:List Int} (hz:z.length=k) (h1:1≤k):∀ (l:List R2) (i:Nat) (σ:Int→Int),i+l.length≤n→(∀ j:Nat,j<k→σ j=z[j]?.getD 0)→
 ∃ σ',wC (ED k n i l) σ=some σ'∧(k≠1→∀ t:Nat,t<l.length→σ' ((k:Int)+((i+t:Nat):Int))=ev z (l[t]?.getD default).a (l[t]?.getD default).b)∧∀ r:Int,r<(k:Int)+i→σ' r=σ r
 | [],i,σ,_,_=>⟨σ,U,fun _ t ht=>absurd ht tW,fun _ _=>rfl⟩
 | q :: l,i,σ,hi,hr=>by
   rw [aU] at hi;obtain ⟨σ1,e1,e2,e3⟩:=TE (q:=q) (n:=n) hz h1 (show i<n by omega) σ hr;obtain ⟨σ2,f1,f2,f3⟩:=KK n hz h1 l (i+1) σ1 sU (fun j hj=>by rw [e3 _ sU sU];exact hr j hj);refine ⟨σ2,uB e1 f1,fun hk t ht=>?_,fun r hr=>by rw [f3 r sU,e3 r sU sU]⟩;cases t with
   | zero =>
     rw [iY,f3 _ sU,e2 hk];rfl
   | succ t =>
     rw [aU] at ht;have:=f2 hk t sU;rw [show i+1+t=i+(t+1) by omega] at this;exact this
theorem YG {to a c R:Int} (h1:0≤to∧to<R) (h2:0≤a∧a<R) (hc:1≤c∧c≤64):tH ⟨7,to,a,0,c⟩ R=true:=by
 unfold tH;rw [aF,aF,aO,dQ];refine ⟨⟨(show 1≤(7:Int)∧(7:Int)≤8∧0≤to∧to<R∧((7:Int)=3∨(7:Int)=4∨(0:Int)=0) by omega),?_⟩,fun r hr=>?_⟩
 · unfold tL;rw [aC (show ¬((7:Int)=5∨(7:Int)=6) by omega),aE (show ((7:Int)=7∨(7:Int)=8) by omega),aO];exact hc
 rw [aO];unfold tM at hr;rw [aC (show ¬((7:Int)=3∨(7:Int)=4) by omega),aE (show 1≤(7:Int)∧(7:Int)≤8 by omega)] at hr;rw [eD.1 hr];exact h2
theorem Pt {R:Int} {i:I5} (h:tH i R=true) (hd:¬(i.op=6∨i.op=8)):Good R 1 0 [i]:=(oN h).mono (aH _) (mT (aC hd))
theorem EG {R to a c:Int} (h1:0≤to∧to<R) (h2:0≤a∧a<R) (hc:c≠0∧-512≤c∧c≤512):Good R 1 0 (Lq to a c):=by
 unfold Lq;split
 · split
   · exact (gV R).mono sU (aH _)
   exact Pt (Gu (.inl U) h1 h2) (by show ¬((1:Int)=6∨(1:Int)=8);decide)
 split
 · exact Pt (Gu (.inr U) h1 h2) (by show ¬((2:Int)=6∨(2:Int)=8);decide)
 split
 · exact Pt (Ms (.inl U) h1 h2 hc) (by show ¬((5:Int)=6∨(5:Int)=8);decide)
 rename_i hp;refine Pt (YG h1 h2 ?_) (by show ¬((7:Int)=6∨(7:Int)=8);decide);rcases Ds hp with rfl | rfl | rfl | rfl | rfl | rfl | rfl | rfl | rfl <;> decide
theorem Kr {R to c:Int} (h1:0≤to∧to<R) (hc:c≠0∧-512≤c∧c≤512):∀ (n:Nat) (a:Int),0≤a∧a<R→Good R n 0 (Kq to c a n)
 | 0,_,_=>gV R
 | n+1,a,h2=>((EG h1 h2 hc).append (Kr h1 hc n to h1)).mono sU (aH _)
theorem TF {R to tm b j:Int} {n:Nat} (h1:0≤to∧to<R) (h2:0≤tm∧tm<R) (h3:0≤j∧j<R) (hb:b≠0∧-512≤b∧b≤512):Good R (n+1) 0 (KG to tm b j n):=by
 unfold KG;split
 · exact (Kk h1 h1 h3).mono sU (aH _)
 split
 · exact (Ga h1 h1 h3).mono sU (aH _)
 exact (Kr h2 hb n j h3).append (Kk h1 h1 h2)
theorem EH {k:Nat} {R to tm a b:Int} (h1:0≤to∧to<R) (h2:0≤tm∧tm<R) (hk:(k:Int)≤R) (ha:a≠0∧-512≤a∧a≤512) (hb:b≠0∧-512≤b∧b≤512) :
 ∀ (m:Nat) (fr:Int),m+1≤k→0≤fr∧fr<R→Good R (m*(k+1)) 0 (PP k to tm a b fr m)
 | 0,_,_,_=>(gV R).mono (aP _) (aH _)
 | m+1,fr,hm,h3=>((EG h1 h3 ha).append ((TF (n:=k - 1 - m) h1 h2 sU hb).append (EH h1 h2 hk ha hb m to sU h1))).mono (by rw [pS];omega) (aH _)
theorem NV {k n i:Nat} {q:R2} (h1:1≤k) (h8:k≤8) (hi:i<n) (hq:near q.a q.b):Good ((k:Int)+n+1) 63 0 (Cs k n i q):=by
 have hq':-16≤q.a∧q.a≤16∧-16≤q.b∧q.b≤16:=by unfold near at hq;omega
 unfold Cs;by_cases hk:k=1
 · rw [aE hk];exact (gV _).mono (aP _) (aH _)
 rw [aC hk];by_cases c1:q.a=0∧q.b=0
 · rw [aE c1];exact (Ga sU sU sU).mono sU (aH _)
 rw [aC c1];by_cases c2:q.a=0
 · rw [aE c2];exact (Kr sU sU _ _ sU).mono sU (aH _)
 rw [aC c2];by_cases c3:q.b=0
 · rw [aE c3];exact (Kr sU sU _ _ sU).mono sU (aH _)
 rw [aC c3];exact (EH sU sU sU sU sU _ _ sU sU).mono (bP (gO (show k - 1≤7 by omega) (show k+1≤9 by omega)) (aH _)) (aH _)
theorem Sb {k n:Nat} (h1:1≤k) (h8:k≤8):∀ (l:List R2) (i:Nat),i+l.length≤n→(∀ q∈l,near q.a q.b)→Good ((k:Int)+n+1) (63*l.length) 0 (ED k n i l)
 | [],_,_,_=>gV _
 | q :: l,i,hi,hq=>by
   rw [aU] at hi;exact ((NV h1 h8 (show i<n by omega) (hq q aQ)).append (Sb h1 h8 l (i+1) sU fun p hp=>hq p (aL _ hp))).mono Vr (aH _)
def Sc (k:Nat) (l:List R2):Prop:=1≤k∧k≤8∧1≤l.length∧l.length≤15∧Dx l
theorem Xd {l:List R2} (h:Dx l):∀ q∈l,near q.a q.b:=fun q hq=>by
 obtain ⟨i,hi,rfl⟩:=gP.1 hq;have:=h i hi;rw [aA hi] at this;exact this
theorem Mw {k:Nat} {l:List R2} (h:Sc k l):Good ((k:Int)+l.length+1) (63*l.length) 0 (ED k l.length 0 l):=Sb h.1 h.2.1 l 0 sU (Xd h.2.2.2.2)
theorem Sd {k:Nat} {l:List R2} (h:Sc k l):sW (xG k l)=true:=by
 have hg:=Mw h;obtain ⟨h1,h2,h3,h4,h5⟩:=h;have hgl:=hg.len;have hol:(xG k l).outs.length=l.length:=by show ((List.range l.length).map _).length=_;rw [aT,cM]
 refine Mr ⟨by show (1:Int)≤k;omega,by show (k:Int)≤(k:Int)+l.length+1;omega,by show (k:Int)+l.length+1≤128;omega,bP hgl sU,by omega,by omega⟩ (fun r hr=>?_) hg.fit;obtain ⟨i,hi,rfl⟩:=cT.1 (show r∈(List.range l.length).map (NU k) from hr);have:=jD.1 hi;show 0≤NU k i∧NU k i<(k:Int)+l.length+1;unfold NU;split <;> omega
theorem YH {l:List I5} (h:Zp l≤0):∀ i∈l,¬(i.op=6∨i.op=8):=fun i hi hd=>by
 unfold Zp at h;have:(l.filter fun i=>DM i)=[]:=List.length_eq_zero_iff.1 (qM.1 h);rw [List.filter_eq_nil_iff] at this;exact this i hi (cL hd)
theorem TG {k:Nat} {l:List R2} (h:Sc k l) {z:List Int} (hz:z.length=k):Fg (xG k l) z=some (l.map fun q=>ev z q.a q.b):=by
 have hg:=Mw h;obtain ⟨h1,h2,h3,h4,h5⟩:=h;generalize hrs:wD (xG k l) z=rs;have hrl:(rs.length:Int)=(k:Int)+l.length+1:=by
  rw [←hrs];unfold wD;rw [aD,aM,hz];show ((k+(((k:Int)+l.length+1).toNat - k):Nat):Int)=_;omega
 have hr0:∀ i,i<k→rs[i]?.getD 0=z[i]?.getD 0:=fun i hi=>by
  rw [←hrs];unfold wD;rw [bC sU]
 obtain ⟨σ',e1,e2,e3⟩:=KK l.length hz h1 l 0 (fun r=>rs[r.toNat]?.getD 0) sU (fun j hj=>by rw [aG];exact hr0 j hj);obtain ⟨rs',c1,c2,c3⟩:=Sa (ED k l.length 0 l) (fun r=>rs[r.toNat]?.getD 0) σ' rs hg.fit hrl (fun r _ _=>rfl) e1;unfold Fg;rw [Ez _ _ _ (aH _),bI,hrs];show (GH (ED k l.length 0 l) rs).map (zU (xG k l))=_;rw [c1];show some (zU (xG k l) rs')=_;congr 1;unfold zU xG;simp only;apply gS
 · rw [aT,aT,cM,aT]
 intro j g1 g2;rw [aT] at g2;rw [gE,gE,rL,gE];unfold NU;by_cases hk:k=1
 · rw [aE hk];have:=c3 0 sU sU;show rs'[(0:Int).toNat]?.getD 0=_;rw [←this,e3 0 sU];show rs[(0:Int).toNat]?.getD 0=_;rw [show (0:Int).toNat=0 from rfl,hr0 0 sU];cases z with
   | nil=>simp at hz;omega
   | cons c f =>
     cases f with
     | nil=>simp [ev]
     | cons d f=>simp at hz;omega
 rw [aC hk,←c3 _ sU sU];have:=e2 hk j g2;rw [cP] at this;rw [this,aA g2];rfl
theorem Gw {k:Nat} {l:List R2} (h:Sc k l):yK (xG k l) k l:=by
 have hol:(xG k l).outs.length=l.length:=by show ((List.range l.length).map _).length=_;rw [aT,cM]
 refine ⟨U,hol,YH (Mw h).dv,?_⟩;rw [aG];refine Gd (N:=k) (Sd h) (by rw [yV];rfl) (fun r hr=>?_) (by rw [aT,hol]) (fun r hr=>?_) fun j hj=>?_
 · unfold vT at hr;obtain ⟨i,hi,rfl⟩:=cT.1 hr;exact Br k i
 · obtain ⟨q,hq,rfl⟩:=cT.1 hr;exact Kg _ _ _
 have e1:Dp j (vT k)=vS k j:=by
  refine fL fun i=>?_;rcases aN i k with hi | hi
  · have hl1:i<(Dp j (vT k)).length:=by rw [zV,yV];exact hi
    have hl2:i<(vS k j).length:=by rw [Br];exact hi
    have h1:(Dp j (vT k))[i]?.getD 0=(vS k j)[i]?.getD 0:=by
     rw [Gc,NM hi];unfold vS;rw [cE,cE,dZ,dZ,aM];by_cases hij:i=j
     · subst hij;rw [aE rfl,aE hj]
     rw [aC hij,aC (kA hij),aE hi,aE hj]
    rw [aA hl1,aA hl2] at h1 ⊢;exact congrArg some h1
  rw [bV (by rw [zV,yV];exact hi),bV (by rw [Br];exact hi)]
 rw [e1,TG h (Br k j)];congr 1;unfold Dp;rw [pW];apply lX;intro q hq;show ev (vS k j) q.a q.b=(xP q.a q.b k)[j]?.getD 0;rw [EC hj];unfold xP;rw [bQ,eF hj];rfl
section
attribute [local irreducible] Dt pb vG uG p2 cst
end
theorem dw (G:A2) (a:J0 Addr) (c:Nat) (l:List R2) (ha:Arr G a l) (hl:l.length≤1048576) :
 Does Tryz.prog 33 [.slice a l.length c] G [] (fun v G' Ho=>∃ s d,v=.slice s l.length d∧Arr G' s l∧l.length≤d∧Ho=[]):=by
 refine D0 Tryz.func33 Tryz.ntmps33 fun w=>?_;by_cases hne:a=none
 · subst hne;have hl0:l=[]:=by
    rcases ha.2 with h0 | ⟨_,_,h,_⟩
    · exact List.length_eq_zero_iff.mp h0
    cases h
   subst hl0;refine dK 0 (Row 52 ([]:List R2) []) ?_;refine aK 9 [] ?_;refine aZ (gN T.sl22 U U) ?_;refine bG 2 [] ?_;refine cF (fun hc1=>?_) fun hc1=>?_;refine bE 7 [] ?_;rotate_left;refine aK 4 [] ?_;refine nY 1 U T.sl22 fun b1=>?_;refine aB 1 [] ?_;rotate_left;refine cG ?_
   · exact ⟨none,0,U,⟨U,.inl U⟩,aH _,U⟩
   exact absurd U hc1
 refine aK 9 [] ?_;refine aZ (gN T.sl22 U U) ?_;refine aS 7 [0] ?_;refine nY 0 U T.sl22 fun b1=>?_;refine aB 1 [] ?_;refine Wl.reH 0 (Row 52 ([]:List R2) []) U U ?_;refine lN (α:=R2) (xs:=[]) (ys:=l) (junk:=[]) 0 U T.sl22 T.el52 U U U (.inr ⟨b1,U,U,aH _,aP _⟩) (rT ha) IZ IY fun a1 c1 junk1 ho1=>?_;rw [fJ] at ho1 ⊢;refine aY 4 [] ?_;refine fO 0 U ho1 fun G1 hle1 harr1=>?_;refine cG ?_;exact ⟨a1,c1,U,harr1,ho1.le,U⟩
theorem dx (G:A2) (a:J0 Addr) (c:Nat) (l:List I5) (ha:Arr G a l) (hl:l.length≤1048576) :
 Does Tryz.prog 52 [.slice a l.length c] G [] (fun v G' Ho=>∃ s d,v=.slice s l.length d∧Arr G' s l∧Ho=[]):=by
 refine D0 Tryz.func52 Tryz.ntmps52 fun w=>?_;by_cases hne:a=none
 · subst hne;have hl0:l=[]:=by
    rcases ha.2 with h0 | ⟨_,_,h,_⟩
    · exact List.length_eq_zero_iff.mp h0
    cases h
   subst hl0;refine dK 0 (Row 91 ([]:List I5) []) ?_;refine aK 9 [] ?_;refine aZ (gN T.sl23 U U) ?_;refine bG 2 [] ?_;refine cF (fun hc1=>?_) fun hc1=>?_;refine bE 7 [] ?_;rotate_left;refine aK 4 [] ?_;refine nY 1 U T.sl23 fun b1=>?_;refine aB 1 [] ?_;rotate_left;refine cG ?_
   · exact ⟨none,0,U,⟨U,.inl U⟩,U⟩
   exact absurd U hc1
 refine aK 9 [] ?_;refine aZ (gN T.sl23 U U) ?_;refine aS 7 [0] ?_;refine nY 0 U T.sl23 fun b1=>?_;refine aB 1 [] ?_;refine Wl.reH 0 (Row 91 ([]:List I5) []) U U ?_;refine lN (α:=I5) (xs:=[]) (ys:=l) (junk:=[]) 0 U T.sl23 T.el91 U U U (.inr ⟨b1,U,U,aH _,aP _⟩) (rT ha) IZ IY fun a1 c1 junk1 ho1=>?_;rw [fJ] at ho1 ⊢;refine aY 4 [] ?_;refine fO 0 U ho1 fun G1 hle1 harr1=>?_;refine cG ?_;exact ⟨a1,c1,U,harr1,U⟩
theorem dy (G:A2) (a:J0 Addr) (c:Nat) (l:List Int) (ha:Arr G a l) (hl:l.length≤1048576) :
 Does Tryz.prog 53 [.slice a l.length c] G [] (fun v G' Ho=>∃ s d,v=.slice s l.length d∧Arr G' s l∧Ho=[]):=by
 refine D0 Tryz.func53 Tryz.ntmps53 fun w=>?_;by_cases hne:a=none
 · subst hne;have hl0:l=[]:=by
    rcases ha.2 with h0 | ⟨_,_,h,_⟩
    · exact List.length_eq_zero_iff.mp h0
    cases h
   subst hl0;refine dK 0 (Row 3 ([]:List Int) []) ?_;refine aK 9 [] ?_;refine aZ (gN T.sl24 U U) ?_;refine bG 2 [] ?_;refine cF (fun hc1=>?_) fun hc1=>?_;refine bE 7 [] ?_;rotate_left;refine aK 4 [] ?_;refine nY 1 U T.sl24 fun b1=>?_;refine aB 1 [] ?_;rotate_left;refine cG ?_
   · exact ⟨none,0,U,⟨U,.inl U⟩,U⟩
   exact absurd U hc1
 refine aK 9 [] ?_;refine aZ (gN T.sl24 U U) ?_;refine aS 7 [0] ?_;refine nY 0 U T.sl24 fun b1=>?_;refine aB 1 [] ?_;refine Wl.reH 0 (Row 3 ([]:List Int) []) U U ?_;refine lN (α:=Int) (xs:=[]) (ys:=l) (junk:=[]) 0 U T.sl24 T.el3 U U U (.inr ⟨b1,U,U,aH _,aP _⟩) (rT ha) IZ IY fun a1 c1 junk1 ho1=>?_;rw [fJ] at ho1 ⊢;refine aY 4 [] ?_;refine fO 0 U ho1 fun G1 hle1 harr1=>?_;refine cG ?_;exact ⟨a1,c1,U,harr1,U⟩
theorem Xe (a b c d:Int):Mj a b c d↔Mj c d a b:=by
 unfold Mj;by_cases h:(a=0∧b=0)∨(c=0∧d=0)
 · rw [aE h,aE h.symm];exact And.comm
 rw [aC h,aC (fun h2=>h h2.symm)];omega
instance (l:List R2):Decidable (Cd l):=Classical.propDecidable _
theorem kf (G:A2) (a:J0 Addr) (c:Nat) (l:List R2) (ha:Arr G a l) (h1:l.length≤1048576):Does Tryz.prog 104 [.slice a l.length c,.func (.func 105) #[] #[]] G [] (fun v G' Ho=>v=.bool (decide (Cd l))∧G'=G∧Ho=[]):=by
 refine (te G a c l ha h1).mono fun v G' Ho _ ⟨b,e,h1,h2,h3⟩=>?_;subst e;refine ⟨?_,h2,h3⟩;congr 1;by_cases h:Cd l
 · rw [cL h];exact h1.2 h
 rw [bN h];exact Bool.eq_false_iff.2 (fun h2=>h (h1.1 h2))
theorem pq (G:A2) (k1 k2:Int) (a:J0 Addr) (c:Nat) (l:List R2) (ha:Arr G a l) (hl:l.length≤1048576) :
 Does Tryz.prog 35 [.agg #[.int .i64 k1,.int .i64 k2,.slice a l.length c]] G [] (fun v G' Ho=>v=.int .i64 (tT k1 k2 l)∧G'=G∧Ho=[]):=by
 refine D0 Tryz.func35 Tryz.ntmps35 fun w=>?_;refine aK 2 [] ?_;refine eG 0 fun b1=>?_;refine aS 10 [0] ?_;apply cJ 4 9 13 U;intro hg1;refine aB 7 [0] ?_;exact cC 4 0;intro hg1;refine aB 4 [] ?_;exact cC 4 0;refine aB 1 [] ?_;apply cJ 4 14 18 U;intro hg1;refine aB 7 [0] ?_;exact cC 4 0;intro hg1;refine aB 4 [] ?_;exact cC 4 0;refine aB 1 [] ?_;apply cJ 4 19 23 U;intro hg1;refine aB 7 [0] ?_;exact cC 4 0;intro hg1;refine aB 4 [] ?_;exact cC 4 0;refine bG 2 [] ?_;refine cF (fun hc1=>?_) fun hc1=>?_;refine bE 7 [] ?_;refine cG ?_;rotate_left;refine bJ 9 [] ?_;rotate_left
 · exact ⟨congrArg _ (Ew (by unfold uJ;omega)).symm,U,U⟩
 have hP:uJ k1∧uJ k2:=by unfold uJ;omega
 refine gZ (ι:=Nat) (fun j=>([(3,.int .i64 (j:Int)),(1,.pointer (some ⟨b1,0,none⟩))],[(0,some b1,.cells #[.int .i64 k1,.int .i64 k2,.slice a (List.length l) c] 62)])) (fun j=>j≤l.length∧∀ i:Nat,i<j→near (l[i]?.getD default).a (l[i]?.getD default).b) (fun j=>l.length - j) (0) (⟨aP _,fun i h=>absurd h sU⟩) fun j=>fun hk=>?_;obtain ⟨hj,hno⟩:=hk;refine bJ 10 [0] ?_;refine cF (fun hc2=>?_) fun hc2=>?_;refine aK 9 [0] ?_;refine gG (α:=R2) T.sl22 ?_;refine mL T.agg52 ?_;refine cZ U (by apply c69 <;> first | assumption | omega | rfl) ?_;refine aZ (eJ U) ?_;refine bG 2 [] ?_;refine cF (fun hc3=>?_) fun hc3=>?_;refine bE 11 [] ?_;refine cG ?_;rotate_left;refine bE 8 [] ?_;rotate_left;refine bJ 20 [0,0,0] ?_;refine cF (fun hc3=>?_) fun hc3=>?_;refine bE 7 [] ?_;refine cG ?_;rotate_left;refine bJ 9 [] ?_;rotate_left
 · exact ⟨congrArg _ (Rm (fun h=>absurd (h j sU) sV)).symm,U,U⟩
 · refine cO (j+1) ?_ ?_
   · refine ⟨by omega,fun i hi=>?_⟩;rcases aN i j with h | h
     · exact hno i h
     have e:i=j:=sU;subst e;exact bR.1 sV
   omega
 · have hA:Dx l:=fun i hi=>hno i sU;exact ⟨congrArg _ (Mm hP hA sU).symm,U,U⟩
 have hA:Dx l:=fun i hi=>hno i sU;have hnear:∀ i:Nat,i<l.length→near (l[i]?.getD default).a (l[i]?.getD default).b:=hA;clear hno;have hL:(l.length:Int)=k1+k2 - 1:=sU;refine gZ (ι:=Nat) (fun m=>([(4,.int .i64 (m:Int)),(1,.pointer (some ⟨b1,0,none⟩))],[(0,some b1,.cells #[.int .i64 k1,.int .i64 k2,.slice a (List.length l) c] 62)])) (fun m=>m≤l.length∧∀ i:Nat,i<m→¬((l[i]?.getD default).a=0∧(l[i]?.getD default).b=0)∧∀ k:Nat,k<i→¬Mj (l[i]?.getD default).a (l[i]?.getD default).b (l[k]?.getD default).a (l[k]?.getD default).b) (fun m=>l.length - m) (0) (⟨aP _,fun i h=>absurd h sU⟩) fun m=>fun hk=>?_;obtain ⟨hm,hn2⟩:=hk;refine bJ 10 [0] ?_;refine cF (fun hc4=>?_) fun hc4=>?_;refine aK 10 [0] ?_;refine gG (α:=R2) T.sl22 ?_;refine mL T.agg52 ?_;refine cZ U BL ?_;refine bG 2 [] ?_;refine cF (fun hc5=>?_) fun hc5=>?_;refine bE 12 [] ?_;refine cG ?_;rotate_left;refine bJ 8 [] ?_;rotate_left;refine bE 11 [] ?_;refine cG ?_;rotate_left
 · exact ⟨congrArg _ (Dy hP hA (.inl ⟨m,by omega,by assumption⟩)).symm,U,U⟩
 · refine gZ (ι:=Nat) (fun k=>([(5,.int .i64 (k:Int)),(4,.int .i64 (↑m:Int)),(1,.pointer (some ⟨b1,0,none⟩))],[(0,some b1,.cells #[.int .i64 k1,.int .i64 k2,.slice a (List.length l) c] 62)])) (fun k=>k≤m∧∀ i:Nat,i<k→¬Mj (l[m]?.getD default).a (l[m]?.getD default).b (l[i]?.getD default).a (l[i]?.getD default).b) (fun k=>m - k) (0) (⟨aP _,fun i h=>absurd h sU⟩) fun k=>fun hk=>?_;obtain ⟨hk0,hn3⟩:=hk;refine bJ 8 [] ?_;refine cF (fun hc6=>?_) fun hc6=>?_;refine bJ 5 [] ?_;refine dL [0] [] T.mixed [[0],[1,0],[2]] ?_;refine kE (α:=R2) 3 T.sl22 ?_;refine oP 4 T.agg52 ?_;refine eO [[5],[6,0],[7]] ?_;refine kE (α:=R2) 8 T.sl22 ?_;refine oP 9 T.agg52 ?_;refine dB 10 ?_;refine cZ U (c71 _ _ _ _ _ (hnear _ sU) (hnear _ sU)) ?_;refine fB ?_;refine cH ?_;refine cF (fun hc7=>?_) fun hc7=>?_;refine bE 15 [] ?_;refine cG ?_;rotate_left;refine bE 8 [] ?_;rotate_left;refine bE 11 [] ?_;rotate_left
   · exact ⟨congrArg _ (Dy hP hA (.inr ((DF l).2 ⟨m,by omega,k,by omega,hnear k sU,hnear m sU,(Xe _ _ _ _).1 sV⟩))).symm,U,U⟩
   · refine cO (k+1) ?_ ?_
     · refine ⟨by omega,fun i hi=>?_⟩;rcases aN i k with h | h
       · exact hn3 i h
       have e:i=k:=sU;subst e;assumption
     omega
   refine cO (m+1) ?_ ?_
   · refine ⟨by omega,fun i hi=>?_⟩;rcases aN i m with h | h
     · exact hn2 i h
     have e:i=m:=sU;subst e;exact ⟨by assumption,fun k0 h0=>hn3 k0 sU⟩
   omega
 refine ⟨congrArg _ (DI hP hA hL ?_).symm,U,U⟩;rintro (⟨i,hi,h0⟩ | h0)
 · exact (hn2 i sU).1 h0
 obtain ⟨j0,hj0,i0,hi0,_,_,h1⟩:=(DF l).1 h0;exact (hn2 j0 sU).2 i0 hi0 ((Xe _ _ _ _).1 h1)
theorem c54 (G:A2) (k1 k2:Int) (a:J0 Addr) (c:Nat) (l:List R2) (ha:Arr G a l) (hl:l.length≤1048576) (hlc:l.length≤c) :
 Does Tryz.prog 54 [.int .i64 k1,.int .i64 k2,.slice a l.length c] G [] (fun v G' Ho=>∃ pv:Value,v=.tuple #[pv,.int .i64 (tT k1 k2 l)]∧Ho=[]):=by
 refine D0 Tryz.func54 Tryz.ntmps54 fun w=>?_;refine aK 10 [] ?_;refine cZ U (by apply kd <;> first | assumption | omega | rfl) ?_;refine aZ (eJ U) ?_;refine aB 1 [] ?_;apply cJ 4 16 20 U;intro hg1;refine aB 3 [] ?_;refine cZ U (by apply kd <;> first | assumption | omega | rfl) ?_;refine aB 1 [] ?_;refine aZ (eJ U) ?_;refine aB 1 [] ?_;exact cC 4 0;intro hg1;refine aB 4 [] ?_;exact cC 4 0;refine bG 2 [] ?_;refine cF (fun hc1=>?_) fun hc1=>?_;refine bE 8 [] ?_;rotate_left;refine bJ 11 [] ?_;rotate_left
 · refine jJ ?_;exact ⟨_,by rw [Ew (by unfold uJ;omega)],U⟩
 have hP:uJ k1∧uJ k2:=by unfold uJ;omega
 refine gZ (ι:=Nat) (fun j=>([(23,.int .i64 (j:Int)),(0,.int .i64 k1),(1,.int .i64 k2),(2,.slice a l.length c),(22,.int .i64 (l.length:Int)),(21,.slice a (List.length l) c)],[])) (fun j=>j≤l.length∧∀ i:Nat,i<j→near (l[i]?.getD default).a (l[i]?.getD default).b) (fun j=>l.length - j) (0) (⟨aP _,fun i h=>absurd h sU⟩) fun j=>fun hk=>?_;obtain ⟨hj,hno⟩:=hk;refine bJ 6 [] ?_;refine cF (fun hc2=>?_) fun hc2=>?_;refine aK 6 [] ?_;refine gG (α:=R2) T.sl22 ?_;refine mL T.agg52 ?_;refine aV 0 U T.zero52 fun b1=>?_;refine aS 6 [0,0] ?_;refine cZ U Nt ?_;refine aZ (eJ U) ?_;refine bG 2 [] ?_;refine cF (fun hc3=>?_) fun hc3=>?_;refine bE 12 [] ?_;rotate_left;refine bE 7 [] ?_;rotate_left;refine aK 16 [] ?_;apply cJ 3 38 41 U;intro hg1;refine aB 3 [] ?_;refine cZ U (kf _ _ _ _ sV sU) ?_;refine aB 1 [] ?_;exact cC 3 0;intro hg1;refine aB 3 [] ?_;exact cC 3 0;refine bG 2 [] ?_;refine cF (fun hc3=>?_) fun hc3=>?_;refine bE 8 [] ?_;rotate_left;refine aK 5 [] ?_;refine cU 0 U (jy _ _ _ _ sV sU xL) fun v1 G1 Ho1 hle1 hp=>?_;obtain ⟨ti1,tj1,tb1,rfl,htb1,rfl,rfl⟩:=hp;refine bG 15 [] ?_;refine mE U (fun hc4=>?_) fun hc4=>?_;refine bE 8 [] ?_;rotate_left;refine aK 7 [] ?_;refine cU 0 U (dw _ _ _ _ sV sU) fun v2 G2 Ho2 hle2 hp=>?_;obtain ⟨s2,d2,rfl,hs2,hsd2,rfl⟩:=hp;refine aZ (cQ (cs:=[_,_,_]) T.st176 U U U) ?_;refine eG 0 fun b1=>?_;refine aY 5 [] ?_;rotate_left
 · refine jJ ?_;exact ⟨_,by rw [Rm (fun h=>absurd (h j sU) sV)],U⟩
 · refine dW 23 U (show _=Value.int .i64 ((j+1:Nat):Int) from U) ?_;refine cO (j+1) ?_ ?_
   · refine ⟨by omega,fun i hi=>?_⟩;rcases aN i j with h | h
     · exact hno i h
     have e:i=j:=sU;subst e;exact bR.1 sV
   omega
 · have hA:Dx l:=fun i hi=>hno i sU;have e:tT k1 k2 l=71:=hc3.elim (fun h=>Mm hP hA h) (fun h=>Dy hP hA (.inl h));refine jJ ?_;exact ⟨_,by rw [e],U⟩
 · have hA:Dx l:=fun i hi=>hno i sU;have e:tT k1 k2 l=71:=Dy hP hA (.inr (htb1.1 sV));refine jJ ?_;exact ⟨_,by rw [e],U⟩
 have hA:Dx l:=fun i hi=>hno i sU;have e:tT k1 k2 l=0:=DI hP hA (cV fun h=>hc3 (.inl h)) (fun h=>h.elim (fun h=>hc3 (.inr h)) (fun h=>absurd (htb1.2 h) (by rw [hc4];decide)));refine jJ ?_;exact ⟨_,by rw [e],U⟩
theorem c87 (G:A2) (a:J0 Addr) (c:Nat) (l:List R2) (ha:Arr G a l) (hl:l.length≤1048576) (hR:uO l) :
 Does Tryz.prog 87 [.slice a l.length c] G [] (fun v G' Ho=>v=.bool (decide (1=1))∧G'=G∧Ho=[]):=by
 refine D0 Tryz.func87 Tryz.ntmps87 fun w=>?_;refine bJ 14 [] ?_;refine gZ (ι:=Nat) (fun j=>([(7,.int .i64 (j:Int)),(6,.int .i64 (l.length:Int)),(5,.slice a (List.length l) c),(0,.slice a (List.length l) c)],[])) (fun j=>j≤l.length) (fun j=>l.length - j) (0) (aP _) fun j=>fun (hk:j≤l.length)=>?_;refine bJ 6 [] ?_;refine cF (fun hc1=>?_) fun hc1=>?_;refine aK 6 [] ?_;refine gG (α:=R2) T.sl22 ?_;refine mL T.agg52 ?_;refine aV 0 U T.zero52 fun b1=>?_;refine aS 6 [0,0] ?_;refine cZ U Nt ?_;refine aZ (eJ U) ?_;refine bG 2 [] ?_;refine cF (fun hc2=>?_) fun hc2=>?_;refine bE 11 [] ?_;rotate_left;refine bE 7 [] ?_;rotate_left;refine aK 11 [] ?_;apply bS 4 18 22 U;intro hg1;refine aB 7 [] ?_;exact cC 4 0;intro hg1;refine aB 4 [] ?_;exact cC 4 0;refine aY 4 [] ?_;rotate_left
 · exfalso;have h:=(hR.2.2.1 j sU).1;exact absurd h sV
 · refine dW 7 U (show _=Value.int .i64 ((j+1:Nat):Int) from U) ?_;refine cO (j+1) ?_ ?_
   · omega
   omega
 refine cG ?_;have h1:=hR.1;have h2:=hR.2.1;exact ⟨by rw [cL sU,cL rfl],U,U⟩
section
attribute [local irreducible] Dt sY pb pw vG uG p2 xP xJ tJ sW vS
theorem tj (G:A2) (x y:IV) (zx zy:Int) (hx:C3 G x zx) (hy:C3 G y zy) (h1:x.n≤1073741824) (h2:y.n≤1073741824) :
 Does Tryz.prog 117 [.agg (A0.enc x).toArray,.agg (A0.enc y).toArray] G [] (fun v G' Ho=>v=.bool (decide (zx=zy))∧G'=G∧Ho=[]):=by
 refine D0 Tryz.func117 Tryz.ntmps117 fun w=>?_;refine aK 2 [] ?_;refine eG 0 fun b1=>?_;refine eG 1 fun b2=>?_;refine aS 7 [0,1] ?_;refine cZ U (JL _ _ _ _ _ sV sV sU sU) ?_;refine aY 5 [] ?_;refine cG ?_;exact ⟨by congr 1;exact decide_eq_decide.mpr Ip,U,U⟩
theorem tk (G:A2) (k:Nat) (hk15:k≤15):Does Tryz.prog 115 [.int .i64 (k:Int)] G [] (fun v G' Ho=>∃ (s:J0 Addr) (r:List SV) (c':Nat),v=.slice s r.length c'∧Arr G' s r∧D3 G' r (vT k)∧r.length≤c'∧Ho=[]):=by
 refine D0 Tryz.func115 Tryz.ntmps115 fun w=>?_;refine dK 9 (Row 191 ([]:List SV) []) ?_;refine bJ 17 [] ?_;refine nN (ι:=Nat×A2×List SV×(J0 Addr×Nat×List Value)) (fun (i,Gx,r,(o,d,j))=>([(4,.int .i64 (i:Int)),(3,.slice o r.length d),(2,.slice none 0 0),(0,.int .i64 (↑k:Int))],[(9,o.map (·.block),Row 191 r j)])) (fun (i,Gx,r,(o,d,j))=>Gx) (fun (i,Gx,r,(o,d,j))=>i≤k∧G.le Gx∧r.length=i∧D3 Gx r ((vT k).take i)∧A3 o d r j) (fun (i,Gx,r,(o,d,j))=>k - i) ((0,G,[],(none,0,[]))) (⟨aP _,cX _,U,by rw [dP];exact D3.nil _,dN⟩) U ⟨U,U,U,U,I3⟩ ⟨U,I3⟩ fun ⟨i,Gx,r,(o,d,j)⟩=>fun hk=>?_;obtain ⟨hi1,hi2,hi3,hi4,hi5⟩:=hk;rcases aN i k with hil | hil
 · refine aK 16 [1] ?_;refine gM (α:=IV) 10 U T.sl191 T.el190 U U sU sU fun b1=>?_;refine aS 7 [] ?_;refine cU 11 U (HE _ 1 tI) fun v1 G1 Ho1 hle1 hp=>?_;obtain ⟨ro1,rfl,hro1,rfl⟩:=hp;have ho2:A3 (some ⟨b1,0,none⟩) (List.replicate ((k:Int)).toNat (default:IV)).length (List.replicate ((k:Int)).toNat (default:IV)) []:=iJ (by rw [aM];simp only [maxLen];omega);refine aZ (dM (α:=IV) T.sl191 U U ho2 Ql) ?_;refine dJ (α:=IV) (z:=ro1) (m:=(i:Int)) 10 T.size190 U U U ho2 Ql U fun ho3=>?_;refine iF 10 U ho3 fun G3 hle3 hA3=>?_;refine aS 5 [] ?_;refine eH (α:=SV) 11 [⟨_,_,_⟩] U T.sl182 T.el191 U U U U U fun b2=>?_;refine iP (α:=SV) 9 T.sl182 T.el191 (eP 11 U) fun a1 c1 junk1 ho1=>?_;refine aY 9 [] ?_;refine cO ((i+1,_,r++[⟨some ⟨b1,0,none⟩,(List.replicate ((k:Int)).toNat (default:IV)).length,(List.replicate ((k:Int)).toNat (default:IV)).length⟩],(a1,c1,junk1))) ?_ ?_
   · refine ⟨by omega,bL hi2 (bL hle1 hle3),by rw [aD,hi3];rfl,?_,ho1⟩;have e:(vT k).take (i+1)=(vT k).take i++[vS k i]:=by
      rw [dA];congr 1;unfold vT;rw [bQ,eF hil];rfl
     rw [e];exact D3.snoc (hi4.up (bL hle1 hle3)) ⟨_,by rw [aI],aH _,hA3,(Wt hro1 hil).up hle3⟩
   show k - (i+1)<k - i;omega
 have hie:i=k:=sU;subst hie;have e:(vT i).take i=vT i:=dU (by rw [yV];exact aH _);rw [e] at hi4;refine bE 21 [0] ?_;refine fO 9 U hi5 fun G8 hle8 hA8=>?_;refine cG ?_;exact ⟨_,_,_,U,hA8,hi4.up hle8,hi5.le,U⟩
end
section
attribute [local irreducible] Dt sY pb pw vG uG p2 xP xJ tJ sW vS
theorem c58 (G:A2) (p:PV) (ac ao a:J0 Addr) (cc co c k:Nat) (l:List R2) (hc:Arr G ac p.code) (ho:Arr G ao p.outs) (ha:Arr G a l) (hcl:p.code.length≤16384) (hol:p.outs.length≤1099511627776) (hl15:l.length≤15) (hnr:∀ i:Nat,i<l.length→near (l[i]?.getD default).a (l[i]?.getD default).b) (hR:sW p=true) (hk1:1≤k) (hk8:k≤8) :
 Does Tryz.prog 58 [.agg (J1 p ac cc ao co),.int .i64 (k:Int),.slice a l.length c] G [] (fun v G' Ho=>v=.bool (decide (yK p (k:Int) l))∧Ho=[]):=by
 refine D0 Tryz.func58 Tryz.ntmps58 fun w=>?_;refine aK 2 [] ?_;refine eG 0 fun b1=>?_;refine aS 11 [0] ?_;apply cJ 7 18 25 U;intro hg1;refine aB 13 [0] ?_;exact cC 7 0;intro hg1;refine aB 7 [] ?_;exact cC 7 0;refine bG 2 [] ?_;refine cF (fun hc1=>?_) fun hc1=>?_;refine bE 7 [] ?_;rotate_left;refine bJ 9 [] ?_;rotate_left
 · refine cG ?_;exact ⟨by rw [bN (fun h=>hc1.elim (fun h2=>h2 h.1) (fun h2=>h2 (by have:=h.2.1;omega)))],U⟩
 have hI:p.ins=(k:Int):=cV fun h=>hc1 (.inl h);have hO:p.outs.length=l.length:=cV fun h=>hc1 (.inr sU);refine gZ (ι:=Nat) (fun j=>([(7,.int .i64 (j:Int)),(1,.int .i64 (k:Int)),(2,.slice a l.length c),(3,.pointer (some ⟨b1,0,none⟩))],[(0,some b1,.cells (J1 p ac cc ao co) 26)])) (fun j=>j≤p.code.length∧∀ i:Nat,i<j→¬((p.code[i]?.getD default).op=6∨(p.code[i]?.getD default).op=8)) (fun j=>p.code.length - j) (0) (⟨aP _,fun i h=>absurd h sU⟩) fun j=>fun hk=>?_;obtain ⟨hj,hno⟩:=hk;rcases aN j p.code.length with hjl | hjl
 · refine aK 20 [0,1,0] ?_;refine gG (α:=I5) T.sl23 ?_;refine aB 1 [] ?_;refine kT 0 T.one3 ?_;refine aB 2 [] ?_;apply cJ 8 40 48 U;intro hg1;refine aB 7 [0] ?_;refine gG (α:=I5) T.sl23 ?_;refine aB 3 [] ?_;refine kT 0 T.one3 ?_;refine aB 3 [] ?_;exact cC 8 0;intro hg1;refine aB 8 [] ?_;exact cC 8 0;refine bG 2 [] ?_;refine cF (fun hc2=>?_) fun hc2=>?_;refine bE 11 [] ?_;rotate_left;refine bE 8 [] ?_;rotate_left
   · refine cG ?_;refine ⟨by rw [bN (fun h=>h.2.2.1 (p.code[j]?.getD default) ?_ sV)],U⟩;rw [aA hjl];exact bY _
   refine cO (j+1) ?_ ?_
   · refine ⟨by omega,fun i hi=>?_⟩;rcases aN i j with h | h
     · exact hno i h
     have e:i=j:=sU;subst e;assumption
   show p.code.length - (j+1)<p.code.length - j;omega
 have hND:zX p:=fun i hi=>by
  obtain ⟨t,ht,rfl⟩:=gP.1 hi;have:=hno t sU;rw [aA ht] at this;exact this
 obtain ⟨os,hf⟩:=Zo hND (vT k);have hosl:os.length=l.length:=by rw [Et hf,hO]
 have hose:=Oe hR (Of k) (by rw [yV];omega) hf;have hiff:yK p (k:Int) l↔∀ t:Nat,t<l.length→os[t]?.getD []=xP (l[t]?.getD default).a (l[t]?.getD default).b k:=by
  rw [←SO hosl];unfold yK;rw [aG,hf];exact ⟨fun h=>jU h.2.2.2,fun h=>⟨hI,hO,hND,by rw [h]⟩⟩
 refine bJ 17 [0,0] ?_;refine dL [0] [] T.mixed [[0,0],[1]] ?_;refine dB 2 ?_;refine cU 1 U (tk _ k sU) fun v1 G1 Ho1 hle1 hp=>?_;obtain ⟨us1,ur1,uc1,rfl,huA1,huB1,huL1,rfl⟩:=hp;replace hc:=hc.up hle1;replace ho:=ho.up hle1;replace ha:=ha.up hle1;refine cY 3 ?_;refine cU 1 U (Od _ p _ _ _ _ _ _ _ (vT k) k sV sV sV (Iq huB1) (Of k) sU hR (by rw [huB1.1,yV];omega) hcl os hf) fun v2 G2 Ho2 hle2 hp=>?_;obtain ⟨sv2,oa2,oc2,ol2,rfl,hoA2,hoG2,rfl⟩:=hp;replace huA1:=huA1.up hle2;replace hc:=hc.up hle2;replace ho:=ho.up hle2;replace ha:=ha.up hle2;refine bW ?_;refine eO [[4],[5],[6],[7],[8],[9],[10]] ?_;refine eU ?_;refine oS 8 [] ?_;have hol2:ol2.length=l.length:=by rw [hoG2.1];exact hosl
 refine Wc.lg (ι:=Nat×A2) (fun (i,Gx)=>([(11,.int .i64 (i:Int)),(10,.slice oa2 (List.length ol2) oc2),(1,.int .i64 (↑k:Int)),(2,.slice a (List.length l) c)],[(0,some b1,.cells (J1 p ac cc ao co) 26)])) (fun (i,Gx)=>Gx) (fun (i,Gx)=>i≤l.length∧G2.le Gx∧∀ t:Nat,t<i→os[t]?.getD []=xP (l[t]?.getD default).a (l[t]?.getD default).b k) (fun (i,Gx)=>l.length - i) ((0,G2)) (⟨aP _,cX _,fun t ht=>absurd ht sU⟩) fun ⟨i,Gx⟩=>fun hk=>?_;obtain ⟨hi0,hgx,hall⟩:=hk;replace ha:=ha.up hgx;replace hoA2:=hoA2.up hgx;rcases aN i l.length with hil | hil
 · have hnear:near (l[(i:Int).toNat]?.getD default).a (l[(i:Int).toNat]?.getD default).b:=hnr i hil;refine aK 18 [1] ?_;refine gG (α:=R2) T.sl22 ?_;refine mL T.agg52 ?_;refine aB 1 [] ?_;refine cU 1 U (ka _ _ _ k hnear sU) fun v3 G3 Ho3 hle3 hp=>?_;obtain ⟨ps3,pr3,pc3,rfl,hpA3,hpB3,hpL3,rfl⟩:=hp;replace ha:=ha.up hle3;replace hoA2:=hoA2.up hle3;refine bG 9 [] ?_;obtain ⟨q,hq1,hq2,hq3,hq4⟩:C1 G3 (ol2[(i:Int).toNat]?.getD default) (os[i]?.getD []):=(hoG2.up (bL hgx hle3)).2 i sU;have hE:=hose.at (k:=(i:Int)) sU;rw [aG] at hE;have hql:q.length=k:=hq4.1.trans hE.1;have hP:Go.Sl.Below 4 (xP (l[i]?.getD default).a (l[i]?.getD default).b k):=(Ws (hnr i hil) sU).2;have hpl:pr3.length=k:=hpB3.1.trans (Kg _ _ _);refine gZ (ι:=Nat) (fun j=>([(13,.int .i64 (j:Int)),(1,.int .i64 (k:Int)),(10,.slice oa2 ol2.length oc2),(11,.int .i64 (i:Int)),(12,.slice ps3 pr3.length pc3),(2,.slice a l.length c)],[(0,some b1,.cells (J1 p ac cc ao co) 26)])) (fun j=>j≤k∧∀ t:Nat,t<j→(os[i]?.getD [])[t]?.getD 0=(xP (l[i]?.getD default).a (l[i]?.getD default).b k)[t]?.getD 0) (fun j=>k - j) (0) (⟨aP _,fun i h=>absurd h sU⟩) fun j=>fun hk=>?_;obtain ⟨hj9,hjj⟩:=hk;rcases aN j k with hjk | hjk
   · have hx:=hq4.at (m:=(j:Int)) sU;have hy:=hpB3.at (m:=(j:Int)) sU;have hxn:=lT hx (hE.2.at _);have hyn:=lT hy (hP.at _);have hcell:G3.cell (Go.Sl.ab oa2) (Go.Sl.ao oa2+(i:Int).toNat*A0.sz SV+0)=some (.slice (ol2[(i:Int).toNat]?.getD default).a q.length (ol2[(i:Int).toNat]?.getD default).c):=(jO sV sU 0 U U).trans (by rw [hq1]);refine bJ 14 [1] ?_;refine dL [] [] T.mixed [[0],[1]] ?_;refine kE (α:=SV) 2 T.sl182 ?_;refine fH 3 [] U (eE T.one191 U hcell) ?_;refine eO [[4]] ?_;refine fH 5 [] U (lY (α:=IV) T.sl191 U U hq3 sU) ?_;refine fH 6 [] U (jK T.agg190 U (nS hq3 sU) U) ?_;refine eO [[7],[8]] ?_;refine fH 9 [] U (lY (α:=IV) T.sl186 U U hpA3 sU) ?_;refine fH 10 [] U (jK T.agg190 U (nS hpA3 sU) U) ?_;refine dB 11 ?_;refine cZ U (tj _ _ _ _ _ hx hy sU sU) ?_;refine bW ?_;refine fH 12 [] U (eJ U) ?_;refine eU ?_;refine cH ?_;refine cF (fun hc2=>?_) fun hc2=>?_;refine bE 15 [] ?_;rotate_left;refine bE 8 [] ?_;rotate_left
     · refine cG ?_;have hne:¬((os[i]?.getD [])[j]?.getD 0=(xP (l[i]?.getD default).a (l[i]?.getD default).b k)[j]?.getD 0):=by assumption
       exact ⟨by rw [bN (fun h=>hne (by rw [hiff.1 h i hil]))],U⟩
     refine cO (j+1) ?_ ?_
     · refine ⟨by omega,fun t ht=>?_⟩;rcases aN t j with h | h
       · exact hjj t h
       have e:t=j:=sU;subst e;exact bR.1 sV
     show k - (j+1)<k - j;omega
   have hjk:j=k:=sU;subst hjk;refine bE 20 [0] ?_;refine cO ((i+1,G3)) ?_ ?_
   · refine ⟨by omega,bL hgx hle3,fun t ht=>?_⟩;rcases aN t i with h | h
     · exact hall t h
     have e:t=i:=sU;subst e;exact (XW hE.1 (Kg _ _ _)).2 hjj
   show l.length - (i+1)<l.length - i;omega
 refine bE 21 [0] ?_;refine cG ?_;exact ⟨by rw [cL (hiff.2 (fun t ht=>hall t sU))],U⟩
end
end Go.Proofs.YtfdcckcadfhpeaaGreatDoor
end
