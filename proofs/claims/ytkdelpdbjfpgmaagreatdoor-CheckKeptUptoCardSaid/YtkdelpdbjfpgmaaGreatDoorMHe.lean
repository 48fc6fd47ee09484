/- uP of the proof (part 5): what the rows' text needs of the texts that lead to it. -/
import Derived.Test.YtkdelpdbjfpgmaaGreatDoorMHd
set_option linter.unusedVariables false
set_option linter.unusedSimpArgs false
set_option linter.unusedSectionVars false
set_option maxHeartbeats 4000000
noncomputable section
set_option maxRecDepth 100000
namespace Go.Proofs.YtkdelpdbjfpgmaaGreatDoor
open Go Go.Sl
def D6 (G:A3) (p:PV) (h:PH):Prop:=h.ins=p.ins∧h.regs=p.regs∧h.cn=p.code.length∧h.on=p.outs.length∧Arr G h.ac p.code∧Arr G h.ao p.outs
theorem D6.up {G G':A3} {p:PV} {h:PH} (hh:D6 G p h) (hle:G.le G'):D6 G' p h:=⟨hh.1,hh.2.1,hh.2.2.1,hh.2.2.2.1,hh.2.2.2.2.1.le hle,hh.2.2.2.2.2.le hle⟩
def vM (k:Nat):List (List Int):=(List.range k).map (uH k)
theorem yD (k:Nat):(vM k).length=k:=by unfold vM;rw [aN,cC]
theorem At (k j:Nat):(uH k j).length=k:=by unfold uH;rw [aG,aJ]
theorem Zt (k:Nat):XV 4 k (vM k):=fun zs hz=>by
 unfold vM at hz;obtain ⟨j,hj,rfl⟩:=dL.1 hz;exact ⟨At k j,Pq k j 4 sN⟩
theorem JB {k j:Nat} (h:j<k):(vM k)[j]?.getD []=uH k j:=by
 unfold vM;rw [bM,eV h];rfl
def yK (p:PV):Prop:=∀ i∈p.code,¬(i.op=6∨i.op=8)
instance (p:PV):Decidable (yK p):=inferInstanceAs (Decidable (∀ i∈p.code,_))
theorem NW {i:Sl.Instr} (rs:List (List Int)) (h:¬(i.op=6∨i.op=8)):∃ x,xQ i rs=some x:=by
 unfold xQ;by_cases h1:i.op=2
 · exact ⟨_,aF h1⟩
 by_cases h2:i.op=3
 · exact ⟨_,by simp only [h1,lD];rw [aF h2]⟩
 by_cases h3:i.op=4
 · exact ⟨_,by simp only [h1,h2,lD];rw [aF h3]⟩
 by_cases h4:i.op=5∨i.op=7
 · exact ⟨_,by simp only [h1,h2,h3,lD];rw [aF h4]⟩
 exact ⟨_,by simp only [h1,h2,h3,h4,h,lD];rfl⟩
theorem Pr {p:PV} (h:yK p) (gs:List (List Int)):∀ k:Nat,k≤p.code.length→∃ rs,wQ p gs k=some rs
 | 0,_=>⟨_,U⟩
 | k+1,hk=>by
   obtain ⟨rs,h1⟩:=Pr h gs k sN;have hm:p.code[(k:Int).toNat]?.getD default∈p.code:=by
    rw [aE,aA sN];exact bT _
   obtain ⟨x,h2⟩:=NW rs (h _ hm);exact ⟨_,Dk (x:=rs) h1 h2⟩
theorem Wk {p:PV} (h:yK p) (gs:List (List Int)):∃ os,tE p gs=some os:=by
 obtain ⟨rs,h1⟩:=Pr h gs _ (aH _);exact ⟨_,by unfold tE;rw [h1];rfl⟩
def uV (p:PV) (k:Int) (l:List R2):Prop:=p.ins=k∧p.outs.length=l.length∧yK p∧tE p (vM k.toNat)=some (l.map fun q=>yC q.a q.b k.toNat)
instance (p:PV) (k:Int) (l:List R2):Decidable (uV p k l):=inferInstanceAs (Decidable (_∧_))
theorem NX {os:List (List Int)} {l:List R2} {k:Nat} (hl:os.length=l.length):(os=l.map fun q=>yC q.a q.b k)↔∀ t:Nat,t<l.length→os[t]?.getD []=yC (l[t]?.getD default).a (l[t]?.getD default).b k:=by
 constructor
 · intro h t ht;rw [h,bM,aA ht];rfl
 intro h;refine gW fun i=>?_;rcases aK i l.length with h1 | h1
 · have:=h i h1;rw [aA sN,dZ] at this;rw [aA sN,bM,this,aA h1];rfl
 rw [bZ sN,bZ Iv]
theorem TI {xs ys:List Int} {k:Nat} (h1:xs.length=k) (h2:ys.length=k):xs=ys↔∀ t:Nat,t<k→xs[t]?.getD 0=ys[t]?.getD 0:=by
 constructor
 · intro h t _;rw [h]
 intro h;refine gW fun i=>?_;rcases aK i k with h3 | h3
 · have:=h i h3;rw [aA sN,aA sN] at this ⊢;exact congrArg some this
 rw [bZ sN,bZ sN]
theorem Js (a b:Int) (k:Nat):(yC a b k).length=k:=by unfold yC;rw [aN,cC]
def uP (k:Int):Prop:=1≤k∧k≤8
instance (k:Int):Decidable (uP k):=inferInstanceAs (Decidable (_∧_))
def Ex (l:List R2):Prop:=∀ i:Nat,i<l.length→near (l[i]?.getD default).a (l[i]?.getD default).b
def Bi (l:List R2):Prop:=∃ i:Nat,i<l.length∧((l[i]?.getD default).a=0∧(l[i]?.getD default).b=0)
open Classical in
def tF (k1 k2:Int) (l:List R2):Int:=
 if ¬(uP k1∧uP k2) then 70 else if ¬Ex l then 70 else if ¬((l.length:Int)=k1+k2 - 1) then 71 else if Bi l∨Twin l then 71 else 0
theorem Jt {k1 k2:Int} {l:List R2} (h:¬(uP k1∧uP k2)):tF k1 k2 l=70:=by unfold tF;rw [aF h]
theorem Zu {k1 k2:Int} {l:List R2} (h:¬Ex l):tF k1 k2 l=70:=by
 unfold tF;by_cases h1:¬(uP k1∧uP k2)
 · rw [aF h1]
 rw [aD h1,aF h]
theorem Ty {k1 k2:Int} {l:List R2} (h1:uP k1∧uP k2) (h2:Ex l) (h:¬((l.length:Int)=k1+k2 - 1)):tF k1 k2 l=71:=by
 unfold tF;rw [aD (fun h=>h h1),aD (fun h=>h h2),aF h]
theorem Lj {k1 k2:Int} {l:List R2} (h1:uP k1∧uP k2) (h2:Ex l) (h:Bi l∨Twin l):tF k1 k2 l=71:=by
 unfold tF;rw [aD (fun h=>h h1),aD (fun h=>h h2)];by_cases h3:¬((l.length:Int)=k1+k2 - 1)
 · rw [aF h3]
 rw [aD h3,aF h]
theorem Zv {k1 k2:Int} {l:List R2} (h1:uP k1∧uP k2) (h2:Ex l) (h3:(l.length:Int)=k1+k2 - 1) (h:¬(Bi l∨Twin l)):tF k1 k2 l=0:=by
 unfold tF;rw [aD (fun h=>h h1),aD (fun h=>h h2),aD (fun h=>h h3),aD h]
theorem uS {k1 k2:Int} {l:List R2} (h:tF k1 k2 l=0):uP k1∧uP k2∧(l.length:Int)=k1+k2 - 1∧tW l:=by
 by_cases h1:uP k1∧uP k2
 · by_cases h2:Ex l
   · by_cases h3:(l.length:Int)=k1+k2 - 1
     · by_cases h4:Bi l∨Twin l
       · rw [Lj h1 h2 h4] at h;omega
       refine ⟨h1.1,h1.2,h3,?_,?_,fun i hi=>⟨h2 i hi,fun h5=>h4 (.inl ⟨i,hi,h5⟩)⟩,fun h5=>h4 (.inr h5)⟩
       · have:=h1.1.1;have:=h1.2.1;omega
       have:=h1.1.2;have:=h1.2.2;omega
     rw [Ty h1 h2 h3] at h;omega
   rw [Zu h2] at h;omega
 rw [Jt h1] at h;omega
open Classical in
def tS (k1 k2:Int) (l:List R2) (x y z:PV):Int×Int:=
 if ¬tF k1 k2 l=0 then (0,tF k1 k2 l)
 else if ¬sP x=true then (1,80) else if ¬uV x k1 l then (1,180)
 else if ¬sP y=true then (2,80) else if ¬uV y k2 l then (2,180)
 else if ¬sP z=true then (3,80) else if ¬uE z l then (3,180) else (0,0)
structure U8 where
 v:Int
 deriving DecidableEq
instance:Inhabited U8:=⟨⟨0⟩⟩
instance:A2 U8:=⟨1,fun n=>[.int .u8 n.v],fun _=>rfl,fun _=>rfl⟩
structure RS where
 k:Nat
 wr:Bool
def C6 (B:List U8):Prop:=∀ i:Nat,i<B.length→0≤(B[i]?.getD default).v∧(B[i]?.getD default).v≤255
def nx (B:List U8) (s:RS) (g:Int→Bool):Int×RS:=
 if s.wr=true∨s.k=B.length∨g (B[s.k]?.getD default).v=false then (0,⟨s.k,true⟩) else ((B[s.k]?.getD default).v,⟨s.k+1,false⟩)
theorem NY {B:List U8} {s:RS} {g:Int→Bool} (h:s.wr=true):nx B s g=(0,⟨s.k,true⟩):=by unfold nx;rw [aF (.inl h)]
theorem XY {B:List U8} {s:RS} {g:Int→Bool} (h:s.k=B.length):nx B s g=(0,⟨s.k,true⟩):=by unfold nx;rw [aF (.inr (.inl h))]
theorem XZ {B:List U8} {s:RS} {g:Int→Bool} (h:g (B[s.k]?.getD default).v=false):nx B s g=(0,⟨s.k,true⟩):=by unfold nx;rw [aF (.inr (.inr h))]
theorem WM {B:List U8} {s:RS} {g:Int→Bool} (h1:s.wr=false) (h2:s.k≠B.length) (h3:g (B[s.k]?.getD default).v=true):nx B s g=((B[s.k]?.getD default).v,⟨s.k+1,false⟩):=by
 unfold nx;rw [aD];rintro (h | h | h)
 · rw [h1] at h;cases h
 · exact h2 h
 rw [h3] at h;cases h
theorem Tz {B:List U8} {s:RS} {g:Int→Bool} (h:s.k≤B.length):(nx B s g).2.k≤B.length:=by
 unfold nx;by_cases hc:s.wr=true∨s.k=B.length∨g (B[s.k]?.getD default).v=false
 · rw [aF hc];exact h
 rw [aD hc];have:s.k≠B.length:=fun h=>hc (.inr (.inl h));show s.k+1≤_;omega
theorem Lk {B:List U8} {s:RS} {g:Int→Bool} (hB:C6 B) (h:s.k≤B.length):0≤(nx B s g).1∧(nx B s g).1≤255:=by
 unfold nx;by_cases hc:s.wr=true∨s.k=B.length∨g (B[s.k]?.getD default).v=false
 · rw [aF hc];show (0:Int)≤0∧(0:Int)≤255;omega
 rw [aD hc];have:s.k≠B.length:=fun h=>hc (.inr (.inl h));exact hB s.k sN
theorem FV {B:List U8} {s:RS} {g:Int→Bool} (h:(nx B s g).2.wr=false):s.wr=false∧s.k≠B.length∧g (B[s.k]?.getD default).v=true∧nx B s g=((B[s.k]?.getD default).v,⟨s.k+1,false⟩):=by
 unfold nx at h ⊢;by_cases hc:s.wr=true∨s.k=B.length∨g (B[s.k]?.getD default).v=false
 · rw [aF hc] at h;cases h
 refine ⟨nM.2 fun h=>hc (.inl h),fun h=>hc (.inr (.inl h)),?_,aD hc⟩;cases hg:g (B[s.k]?.getD default).v with
 | true=>rfl
 | false=>exact absurd (.inr (.inr hg)) hc
def wi (B:List U8) (s:RS) (lo hi:Int):Int×RS:=nx B s (fun x=>decide (lo≤x∧x≤hi))
def sg (B:List U8) (s:RS):Int×RS:=
 match nx B s (fun x=>decide (x≤16∨240≤x)) with
 | (x,t)=>(if 128≤x then x - 256 else x,t)
def Cv (op c:Int):Bool:=
 if op=5∨op=6 then decide ((c≠0∧-512≤c)∧c≤512) else if op=7∨op=8 then decide (1≤c∧c≤64) else decide (c=0)
def i16 (h l:Int):Int:=if 32768≤h*256+l then h*256+l - 65536 else h*256+l
def KR (op h:Int):Bool:=(List.range 256).any fun l=>Cv op (i16 h (l:Int))
def Zw (B:List U8) (s:RS) (op:Int):Int×RS:=
 match nx B s (KR op) with
 | (h,t)=>match nx B t (fun l=>Cv op (i16 h l)) with
   | (l,t')=>(i16 h l,t')
def Ps (B:List U8) (s:RS) (regs:Int):Sl.Instr×RS:=
 match wi B s 1 8 with
 | (op,t1)=>match wi B t1 0 (regs - 1) with
   | (to,t2)=>match wi B t2 0 (regs - 1) with
     | (a,t3)=>match (if op=3∨op=4 then wi B t3 0 (regs - 1) else ((0:Int),(wi B t3 0 0).2)) with
       | (b,t4)=>match Zw B t4 op with
         | (c,t5)=>(⟨op,to,a,b,c⟩,t5)
def yL (B:List U8) (regs:Int):Nat→RS→List Sl.Instr→List Sl.Instr×RS
 | 0,s,acc=>(acc,s)
 | n+1,s,acc=>match Ps B s regs with
   | (i,t)=>if t.wr=true then (acc,t) else yL B regs n t (acc++[i])
def Ai (B:List U8) (regs:Int):Nat→RS→List Int→List Int×RS
 | 0,s,acc=>(acc,s)
 | n+1,s,acc=>match wi B s 0 (regs - 1) with
   | (x,t)=>Ai B regs n t (acc++[x])
def vG (B:List U8) (s:RS):PV×RS:=
 match wi B s 1 128 with
 | (ins,t1)=>match wi B t1 ins 128 with
   | (regs,t2)=>match nx B t2 (fun x=>decide (x*256≤16384)) with
     | (h,t3)=>match nx B t3 (fun x=>decide (h*256+x≤16384)) with
       | (l,t4)=>match yL B regs (h*256+l).toNat t4 [] with
         | (code,t5)=>match wi B t5 1 128 with
           | (n,t6)=>match Ai B regs n.toNat t6 [] with
             | (outs,t7)=>(⟨ins,regs,code,outs⟩,t7)
def Gp (B:List U8):Nat→RS→List R2→List R2×RS
 | 0,s,acc=>(acc,s)
 | n+1,s,acc=>match sg B s with
   | (a,t)=>match sg B t with
     | (b,t')=>Gp B n t' (acc++[⟨a,b⟩])
def wU (B:List U8):Nat→Int
 | 0=>0
 | k+1=>(wU B k+((k:Int)+1)*(B[k]?.getD default).v) % 65521
structure UV where
 k1:Int
 k2:Int
 pl:List R2
 x:PV
 y:PV
 z:PV
def WN:Nat→Int
 | 0=>65
 | 1=>78
 | 2=>86
 | _=>49
def Ua (B:List U8):Nat→RS
 | 0=>⟨0,false⟩
 | i+1=>(wi B (Ua B i) (WN i) (WN i)).2
def Su (B:List U8) (s:RS):RS:=
 if s.wr=true then s else (wi B (wi B s (wU B s.k / 256) (wU B s.k / 256)).2 (wU B s.k % 256) (wU B s.k % 256)).2
def vQ (B:List U8):UV×RS:=
 match wi B (Ua B 4) 1 8 with
 | (k1,a5)=>match wi B a5 1 8 with
   | (k2,a6)=>match wi B a6 0 255 with
     | (n,a7)=>match Gp B n.toNat a7 [] with
       | (pl,a8)=>match vG B a8 with
         | (x,a9)=>match vG B a9 with
           | (y,a10)=>match vG B a10 with
             | (z,a11)=>(⟨k1,k2,pl,x,y,z⟩,Su B a11)
theorem ic {B:List U8} {s:RS} {lo hi:Int} (h:s.k≤B.length):(wi B s lo hi).2.k≤B.length:=Tz h
theorem br {B:List U8} {s:RS} {lo hi:Int} (h:s.wr=true):wi B s lo hi=(0,⟨s.k,true⟩):=NY h
theorem YA {B:List U8} {s:RS} {lo hi:Int} (hB:C6 B) (h:s.k≤B.length):0≤(wi B s lo hi).1∧(wi B s lo hi).1≤255:=Lk hB h
theorem bs {B:List U8} {s:RS} {lo hi:Int} (h:(wi B s lo hi).2.wr=false):lo≤(wi B s lo hi).1∧(wi B s lo hi).1≤hi∧s.wr=false:=by
 obtain ⟨h1,h2,h3,h4⟩:=FV h;have h3:=fM h3;unfold wi;rw [h4];exact ⟨h3.1,h3.2,h1⟩
end Go.Proofs.YtkdelpdbjfpgmaaGreatDoor
namespace Go.Proofs.YtkdelpdbjfpgmaaGreatDoor
open Go Go.Sl Go.ChangeShapes Go.WideShapes Go.RowKit Go.Joins
theorem NZ {H:Type} (d:DataW H):1≤Rows.uptoBulk d:=by
 cases d with
 | lit l=>cases l <;> simp [Rows.uptoBulk]
 | nil=>simp [Rows.uptoBulk]
 | ptr d=>simp [Rows.uptoBulk]
 | slice elems spare=>simp [Rows.uptoBulk]
 | agg parts=>simp [Rows.uptoBulk]
 | iface t d=>simp [Rows.uptoBulk]
 | map tQ=>simp [Rows.uptoBulk]
 | held h=>simp [Rows.uptoBulk]
theorem OA {H:Type} (l:List (DataW H)):l.length≤Rows.uptoBulkAll l:=by
 induction l with
 | nil=>simp [Rows.uptoBulkAll]
 | cons x r ih=>have:=NZ x;simp only [Rows.uptoBulkAll,bA];omega
theorem EA {H:Type} (l r:List (DataW H)):l.length≤Rows.uptoBulk (.slice l r):=by
 have:=OA l;simp only [Rows.uptoBulk];omega
theorem TJ:Tryz.prog.underlying 3=some (.int .i64):=sR
theorem YB:Tryz.prog.cellsOf 3=1:=sR
theorem FW:Tryz.prog.cellsOf 52=2:=sR
section
variable {H:Type} {enc:TypeId×Value→H}
theorem YC {P:Program} {W:World} {E Ti:TypeId} {f0 f1:Field} (hi:P.underlying Ti=some (.int .i64)) (hs:P.underlying E=some (.struct #[f0,f1]))
 (h0:f0.type=Ti∧f0.offset=0) (h1:f1.type=Ti∧f1.offset=1) (hc:P.cellsOf Ti=1) (hcE:P.cellsOf E=2) :
 Dec (α:=R2) enc P W E (fun _ _=>True):=fun n cs x h=>by
 obtain ⟨xs,m,_,_,hl,hxl,hf⟩:=DataW.trod_struct hs h;rw [hcE] at hl
 match cs,hl with
 | [v0,v1],_ =>
   have hxl':xs.length=2:=hxl
   match xs,hxl' with
   | [y0,y1],_ =>
     have k0:=hf 0 f0 U;have k1:=hf 1 f1 U;rw [h0.1,h0.2,hc] at k0;rw [h1.1,h1.2,hc] at k1;obtain ⟨a0,e0,_,_⟩:=DataW.trod_int hi k0;obtain ⟨a1,e1,_,_⟩:=DataW.trod_int hi k1;simp at e0 e1;exact ⟨⟨a0,a1⟩,by rw [e0,e1];rfl,F9⟩
theorem JC {W:World} {n:Nat} {v:Value} {d:DataW H×List MemPlace} (h:DataW.trod enc Tryz.prog W 0 (fun _=>true) true n 22 [v]=some d) :
 ∃ (a:Option Addr) (c:Nat) (l:List R2),v=.slice a l.length c∧Arr (Gz W) a l∧l.length≤c∧l.length≤Rows.uptoBulk d.1:=by
 obtain ⟨a,c,xs,e,hA,hl,hd⟩:=MI (α:=R2) Tryz.underlying22 FW sY (YC TJ Tryz.underlying52 ⟨U,U⟩ ⟨U,U⟩ YB FW) h;simp only [lF,and_true] at e;refine ⟨a,c,xs,e,hA,hl,?_⟩;rcases hd with ⟨_,rfl⟩ | ⟨l,r,e,hl,_⟩
 · exact aM _
 rw [e,←hl];exact EA l r
end
section
variable {H:Type} {enc:TypeId×Value→H}
theorem OB {W:World} {r:Reach} {b0:Nat} {v:Value} {d:DataW H} {ps:List MemPlace} (hv:Value.okWide Tryz.prog W r b0 22 v) (h:DataW.Trod enc Tryz.prog W 0 (fun _=>true) true 22 v d ps) :
 ∃ (a:Option Addr) (c:Nat) (l:List R2),v=.slice a l.length c∧Arr (Gz W) a l∧l.length≤c∧l.length≤Rows.uptoBulk d:=by
 obtain ⟨a0,n0,c0,rfl⟩:=okWide_slice Tryz.underlying22 hv;obtain ⟨n,h⟩:=h;exact JC (v:=.slice a0 n0 c0) h
end
end Go.Proofs.YtkdelpdbjfpgmaaGreatDoor
namespace Go.Proofs.YtkdelpdbjfpgmaaGreatDoor
open Go Go.Sl
theorem RI {x:Int} (h:-9223372036854775808≤x∧x≤9223372036854775807):IntKind.i64.wrap x=x:=by
 rw [IntKind.wrap_i64];omega
theorem OC {B:List U8} {s:RS} {lo hi x:Int} {t:RS} (h:wi B s lo hi=(x,t)) (hw:t.wr=false):lo≤x∧x≤hi∧s.wr=false:=by
 have:=bs (B:=B) (s:=s) (lo:=lo) (hi:=hi) (by rw [h];exact hw);rw [h] at this;exact this
def Af (i:Sl.Instr) (zs:List Int):Option Int:=
 let a:=zs[i.a.toNat]?.getD 0
 let b:=zs[i.b.toNat]?.getD 0
 if i.op=2 then some (-a)
 else if i.op=3 then some (a+b)
 else if i.op=4 then some (a - b)
 else if i.op=5∨i.op=7 then some (a*cst i)
 else if i.op=6∨i.op=8 then (if a % cst i=0 then some (a / cst i) else none)
 else some a
theorem OD (G:A3) (c:Int) (h:0≤c∧c≤64) :
 Does Tryz.prog 221 [.int .i64 c] G [] (fun v G' Ho=>∃ r:IV,v=.agg (A2.enc r).toArray∧C1 G' r (p2 c.toNat)∧Ho=[]):=by
 obtain ⟨n,rfl⟩:=pY h.1;rw [aE];exact gv G n sN
section
attribute [local irreducible] sQ pb uJ tT p2 cst
end
section
attribute [local irreducible] sQ pb uJ tT
theorem Ll {G:A3} {l:List IV} {zs:List Int} {r:IV} {z:Int} (h:B6 G l zs) (hr:C1 G r z):B6 G (l++[r]) (zs++[z]):=by
 have e1:=h.1;refine ⟨by rw [aB,aB,e1];rfl,fun i hi=>?_⟩;rw [aB,jQ] at hi;rcases aK i l.length with h3 | h3
 · rw [bF h3,bF sN];exact h.2 i h3
 have h4:i=l.length:=sN;subst h4;rw [cB (aH _),cB sN,e1,iH];exact hr
def FX (P:Nat→Int) (n:Nat):List Int:=(List.range n).map P
theorem Pt (P:Nat→Int) (n:Nat):FX P (n+1)=FX P n++[P n]:=by unfold FX;rw [oJ,jW];rfl
theorem WO (G:A3) (a:Option Addr) (c:Nat) (xs:List IV) (g:Nat) (fst:List Value) (P:Nat→Int) (hg:tO Tryz.prog g) (ha:Arr G a xs) (hl:xs.length≤1048576)
 (hf:∀ k:Nat,k<xs.length→∀ G',G.le G'→Does Tryz.prog g (fst++[.agg (A2.enc (xs[((k:Nat):Int).toNat]?.getD default)).toArray]++[]) G' [] (fun v G'' Ho=>∃ r:IV,v=.agg (A2.enc r).toArray∧C1 G'' r (P k)∧Ho=[])) :
 Does Tryz.prog 265 [.slice a xs.length c,.func (.func g) fst.toArray #[]] G [] (fun v G' Ho=>∃ (s:Option Addr) (r:List IV) (d:Nat),v=.slice s r.length d∧Arr G' s r∧r.length≤d∧B6 G' r (FX P xs.length)∧Ho=[]):=by
 refine D0 Tryz.func265 Tryz.ntmps265 fun w=>?_;refine eJ 9 (Row 125 ([]:List IV) []) ?_;refine bI 19 [] ?_;refine jZ (ι:=Nat×A3×List IV×(Option Addr×Nat×List Value)) (fun (k,Gx,r,(o,d,j))=>([(10,.int .i64 (k:Int)),(5,.slice o r.length d),(9,.int .i64 (xs.length:Int)),(8,.slice a (List.length xs) c),(4,.slice none 0 0),(1,.func (Go.Fn.func g) (List.toArray fst) #[])],[(9,o.map (·.block),Row 125 r j)])) (fun (k,Gx,r,(o,d,j))=>Gx) (fun (k,Gx,r,(o,d,j))=>k≤xs.length∧G.le Gx∧r.length=k∧B6 Gx r (FX P k)∧A4 o d r j) (fun (k,Gx,r,(o,d,j))=>xs.length - k) ((0,G,[],(none,0,[]))) (⟨aM _,bN _,U,⟨U,fun i h=>absurd h tU⟩,eG⟩) U ⟨U,U,U,U,U,U,F9⟩ ⟨U,F9⟩ fun ⟨k,Gx,r,(o,d,j)⟩=>fun hk=>?_;obtain ⟨hk1,hk2,hk3,hk4,hk5⟩:=hk;replace ha:=ha.up hk2;rcases aK k xs.length with hkl | hkl
 · refine aI 13 [1] ?_;refine fR (α:=IV) T.sl68 ?_;refine lL T.agg125 ?_;refine aO 10 U T.zero125 fun b1=>?_;refine aL 7 [10,10] ?_;refine fE (fst:=fst) (cap:=[]) 20 U hg U U (hf k hkl _ hk2) (sS F9) fun v1 G1 Ho1 hle1 hp=>?_;obtain ⟨r1,rfl,hr1,rfl⟩:=hp;refine cZ (α:=IV) 11 [(r1)] U T.sl68 T.el125 U U U U U fun b2=>?_;refine kH (α:=IV) 9 T.sl68 T.el125 (dT 11 U) fun a1 c1 junk1 ho1=>?_;refine aS 8 [] ?_;refine cJ 10 U (show _=Value.int .i64 ((k+1:Nat):Int) from U) ?_;refine cK ((k+1,G1,r++[r1],(a1,c1,junk1))) ?_ ?_
   · refine ⟨hkl,aP hk2 hle1,by rw [aB,hk3];rfl,?_,ho1⟩;rw [Pt];exact Ll (hk4.up hle1) hr1
   show xs.length - (k+1)<xs.length - k;omega
 have hkl:k=xs.length:=sN;subst hkl;refine bE 19 [0] ?_;refine cX 9 U hk5 fun G8 hle8 hA8=>?_;refine cV ?_;exact ⟨o,r,d,U,hA8,hk5.le,hk4.up hle8,U⟩
theorem bv (G:A3) (a:Option Addr) (c:Nat) (xs:List IV) (g bk:Nat) (cap:List Value) (P:Nat→Int) (hg:tO Tryz.prog g) (ha:Arr G a xs) (hl:xs.length≤1048576)
 (hf:∀ k:Nat,k<xs.length→∀ G',G.le G'→Does Tryz.prog g ([]++[.agg (A2.enc (xs[((k:Nat):Int).toNat]?.getD default)).toArray]++cap) G' [(0,some bk,.cells #[.int .i64 ((k:Int) - 1)] 3)] (fun v G'' Ho=>∃ r:IV,v=.agg (A2.enc r).toArray∧C1 G'' r (P k)∧Ho=[(0,some bk,.cells #[.int .i64 (((k+1:Nat):Int) - 1)] 3)])) :
 Does Tryz.prog 265 [.slice a xs.length c,.func (.func g) #[] cap.toArray] G [(0,some bk,.cells #[.int .i64 (-1)] 3)] (fun v G' Ho=>∃ (s:Option Addr) (r:List IV) (d:Nat),v=.slice s r.length d∧Arr G' s r∧r.length≤d∧B6 G' r (FX P xs.length)∧Ho=[(0,some bk,.cells #[.int .i64 ((xs.length:Int) - 1)] 3)]):=by
 refine D0 Tryz.func265 Tryz.ntmps265 fun w=>?_;refine eJ 9 (Row 125 ([]:List IV) []) ?_;refine bI 19 [] ?_;refine qU 0 (.cells #[.int .i64 (((0:Nat):Int) - 1)] 3) U U ?_;refine jZ (ι:=Nat×A3×List IV×(Option Addr×Nat×List Value)) (fun (k,Gx,r,(o,d,j))=>([(10,.int .i64 (k:Int)),(5,.slice o r.length d),(9,.int .i64 (xs.length:Int)),(8,.slice a (List.length xs) c),(4,.slice none 0 0),(1,.func (Go.Fn.func g) #[] (List.toArray cap))],[(0,some bk,.cells #[.int .i64 ((k:Int) - 1)] 3),(9,o.map (·.block),Row 125 r j)])) (fun (k,Gx,r,(o,d,j))=>Gx) (fun (k,Gx,r,(o,d,j))=>k≤xs.length∧G.le Gx∧r.length=k∧B6 Gx r (FX P k)∧A4 o d r j) (fun (k,Gx,r,(o,d,j))=>xs.length - k) ((0,G,[],(none,0,[]))) (⟨aM _,bN _,U,⟨U,fun i h=>absurd h tU⟩,eG⟩) U ⟨U,U,U,U,U,U,F9⟩ ⟨U,U,F9⟩ fun ⟨k,Gx,r,(o,d,j)⟩=>fun hk=>?_;obtain ⟨hk1,hk2,hk3,hk4,hk5⟩:=hk;replace ha:=ha.up hk2;rcases aK k xs.length with hkl | hkl
 · refine aI 13 [1] ?_;refine fR (α:=IV) T.sl68 ?_;refine lL T.agg125 ?_;refine aO 10 U T.zero125 fun b1=>?_;refine aL 7 [10,10] ?_;refine fE (fst:=[]) (cap:=cap) 0 U hg U U (hf k hkl _ hk2) (sS ⟨U,F9⟩) fun v1 G1 Ho1 hle1 hp=>?_;obtain ⟨r1,rfl,hr1,rfl⟩:=hp;refine cZ (α:=IV) 11 [(r1)] U T.sl68 T.el125 U U U U U fun b2=>?_;refine kH (α:=IV) 9 T.sl68 T.el125 (dT 11 U) fun a1 c1 junk1 ho1=>?_;refine aS 8 [] ?_;refine cJ 10 U (show _=Value.int .i64 ((k+1:Nat):Int) from U) ?_;refine cK ((k+1,G1,r++[r1],(a1,c1,junk1))) ?_ ?_
   · refine ⟨hkl,aP hk2 hle1,by rw [aB,hk3];rfl,?_,ho1⟩;rw [Pt];exact Ll (hk4.up hle1) hr1
   show xs.length - (k+1)<xs.length - k;omega
 have hkl:k=xs.length:=sN;subst hkl;refine bE 19 [0] ?_;refine cX 9 U hk5 fun G8 hle8 hA8=>?_;refine cH (.inr U) (Ho:=[(0,some bk,.cells #[.int .i64 ((xs.length:Int) - 1)] 3)]) U (.tmp U) ⟨U,F9⟩ ?_;exact ⟨o,r,d,U,hA8,hk5.le,hk4.up hle8,U⟩
end
section
attribute [local irreducible] sQ pb uJ tT
theorem Ub {G:A3} {b:Nat} {cs:List Value} {T:TypeId} {fz:Nat×Nat} (h:G b=some (.cells cs.toArray T fz)) (k:Nat) {v:Value} (hv:cs[k]?=some v):G.cell b k=some v:=by
 simp only [A3.cell,h];simpa using hv
theorem Wm (xs:List Int) (f:Int→Int):FX (fun k=>f (xs[k]?.getD 0)) xs.length=xs.map f:=by
 unfold FX;apply fL
 · rw [aN,aN,cC]
 intro i h1 h2;rw [aN] at h2;rw [fA,kW,fA,aA h2];rfl
theorem FY (xs ys:List Int) (f:Int→Int→Int) (h:xs.length=ys.length):FX (fun k=>f (xs[k]?.getD 0) (ys[k]?.getD 0)) xs.length=List.zipWith f xs ys:=by
 unfold FX;apply fL
 · rw [aN,cC,iU,h,qE]
 intro i h1 h2;rw [iU] at h2;rw [fA,kW,List.getElem_zipWith,aA (show i<xs.length by omega),aA (show i<ys.length by omega)];rfl
def Ju (G':A3) (v:Value) (zs:List Int):Prop:=∃ (s:Option Addr) (r:List IV) (d:Nat),v=.slice s r.length d∧Arr G' s r∧r.length≤d∧B6 G' r zs
theorem Hw {G:A3} {l:List IV} {xs:List Int} {m:Nat} (h:B6 G l xs) (hm:Below m xs) {k:Nat} (hk:k<l.length):(l[k]?.getD default).n≤m:=jI (h.2 k hk) (hm.at k)
theorem ie (G:A3) (a:Option Addr) (c:Nat) (l:List IV) (xs:List Int) (m:Nat) (ha:Arr G a l) (hb:B6 G l xs) (hm:Below m xs) (hmm:m≤268435456) (hl:l.length≤1048576) :
 Does Tryz.prog 236 [.slice a l.length c] G [] (fun v G' Ho=>Ju G' v (xs.map fun x=>-x)∧Ho=[]):=by
 have hf:∀ k:Nat,k<l.length→∀ G',G.le G'→Does Tryz.prog 176 ([]++[.agg (A2.enc (l[(k:Int).toNat]?.getD default)).toArray]++[]) G' [] (fun v G'' Ho=>∃ r:IV,v=.agg (A2.enc r).toArray∧C1 G'' r (-(xs[k]?.getD 0))∧Ho=[]):=fun k hk G' hG=>by
  have h1:=Hw hb hm hk;exact (an G' _ _ ((hb.2 k hk).up hG) sN).mono fun v G'' Ho _ ⟨r,e1,e2,e3,e4⟩=>⟨r,e1,e2,e4⟩
 have h180:=WO G a c l 176 [] (fun k=>-(xs[k]?.getD 0)) T.fn176 ha hl hf;rw [hb.1,Wm xs (fun x=>-x),←hb.1] at h180;refine D0 Tryz.func236 Tryz.ntmps236 fun w=>?_;refine aI 8 [] ?_;refine bV 0 U (h180) fun v1 G1 Ho1 hle1 hp=>?_;obtain ⟨s1,r1,d1,rfl,hA1,hl81,hB1,rfl⟩:=hp;replace ha:=ha.up hle1;replace hb:=hb.up hle1;refine aS 4 [] ?_;refine cV ?_;exact ⟨⟨_,_,_,U,hA1,hl81,hB1⟩,U⟩
theorem ig (G:A3) (bk bf bb h:Nat) (x:IV) (k:Nat) (a':Option Addr) (c':Nat) (ys:List IV) (R:Int) (hgh:tO Tryz.prog h) (hy:Arr G a' ys) (hk:k<ys.length) (hkl:k≤1048576) (hf:G bf=some (.cells [.func (.func h) #[] #[]].toArray 203)) (hb:G bb=some (.cells [.slice a' ys.length c'].toArray 68))
 (hh:Does Tryz.prog h ([]++[.agg (A2.enc x).toArray,.agg (A2.enc (ys[((k:Nat):Int).toNat]?.getD default)).toArray]++[]) G [] (fun v G'' Ho=>∃ r:IV,v=.agg (A2.enc r).toArray∧C1 G'' r R∧Ho=[])) :
 Does Tryz.prog 276 [.agg (A2.enc x).toArray,.pointer (some ⟨bk,0,none⟩),.pointer (some ⟨bf,0,none⟩),.pointer (some ⟨bb,0,none⟩)] G [(0,some bk,.cells #[.int .i64 ((k:Int) - 1)] 3)]
  (fun v G' Ho=>∃ r:IV,v=.agg (A2.enc r).toArray∧C1 G' r R∧Ho=[(0,some bk,.cells #[.int .i64 (((k+1:Nat):Int) - 1)] 3)]):=by
 have hfc:=Ub hf 0 U;have hbc:=Ub hb 0 U;have e:(k:Int).toNat=(((k:Int) - 1)+1).toNat:=sN;rw [e] at hh;refine D0 Tryz.func276 Tryz.ntmps276 fun w=>?_;refine aI 2 [] ?_;refine dV 1 fun b1=>?_;refine aO 2 U T.zero125 fun b2=>?_;refine bB 10 [0,0] ?_;refine gM [1,2,0] [(2,7),(0,6),(2,6),(1,6)] T.mixed U ?_;refine dW 0 [] U (bW T.one203 U sO) ?_;refine dK [[1,1]] ?_;refine dW 2 [] U (bW T.one68 U sO) ?_;refine bQ 3 ?_;refine aC 1 [0] ?_;refine bC ?_;refine mL (α:=IV) 4 T.sl68 ?_;refine rL 5 T.agg125 ?_;refine bQ 6 ?_;refine fE (fst:=[]) (cap:=[]) 20 U hgh U U hh (sS F9) fun v1 G1 Ho1 hle1 hp=>?_;obtain ⟨r1,rfl,hr1,rfl⟩:=hp;refine cS 7 ?_;refine aC 1 [2] ?_;refine fD ?_;refine eE 2 [] ?_;refine gC 0 (.cells #[.int .i64 (((k+1:Nat):Int) - 1)] 3) U (by rw [show (((k+1:Nat):Int) - 1)=(k:Int) - 1+1 by omega];rfl) ?_;refine cH (.inr U) (Ho:=[(0,some bk,.cells #[.int .i64 (((k+1:Nat):Int) - 1)] 3)]) U (.agg 2 U U T.agg125) ⟨U,F9⟩ ?_;exact ⟨r1,U,hr1,U⟩
theorem bw (G:A3) (h:Nat) (a a':Option Addr) (c c':Nat) (l l':List IV) (F:Nat→Int) (hgh:tO Tryz.prog h) (ha:Arr G a l) (ha':Arr G a' l') (hlen:l.length=l'.length) (hl:l.length≤1048576)
 (hh:∀ k:Nat,k<l.length→∀ G',G.le G'→Does Tryz.prog h ([]++[.agg (A2.enc (l[((k:Nat):Int).toNat]?.getD default)).toArray,.agg (A2.enc (l'[((k:Nat):Int).toNat]?.getD default)).toArray]++[]) G' [] (fun v G'' Ho=>∃ r:IV,v=.agg (A2.enc r).toArray∧C1 G'' r (F k)∧Ho=[])) :
 Does Tryz.prog 266 [.slice a l.length c,.slice a' l'.length c',.func (.func h) #[] #[]] G [] (fun v G' Ho=>∃ (s:Option Addr) (r:List IV) (d:Nat),v=.tuple #[.slice s r.length d,.int .i64 0]∧Arr G' s r∧r.length≤d∧B6 G' r (FX F l.length)∧Ho=[]):=by
 refine D0 Tryz.func266 Tryz.ntmps266 fun w=>?_;refine aI 2 [] ?_;refine dV 0 fun b1=>?_;refine dV 1 fun b2=>?_;refine aL 19 [0,0] ?_;refine aO 2 U T.zero3 fun b3=>?_;refine aL 6 [2] ?_;refine aQ (gR U U) ?_;refine lI 1 U fun G1 hg1 hb1=>?_;refine lI 0 U fun G2 hg2 hb2=>?_;replace hb1:=hg2 _ _ hb1;have hG:=aP hg1 hg2;replace ha:=ha.up hG;replace ha':=ha'.up hG;refine oW 2 (.cells #[.int .i64 (-1)] 3) U U ?_;refine eL 2 U T.fn265 U (bv _ a c l 276 b3 [.pointer (some ⟨b3,0,none⟩),.pointer (some ⟨b2,0,none⟩),.pointer (some ⟨b1,0,none⟩)] F T.fn276 ha hl
  (fun k hk G' hG'=>ig G' b3 b2 b1 h _ k a' c' l' (F k) hgh (ha'.up hG') sN sN (hG' _ _ hb1) (hG' _ _ hb2) (hh k hk G' (aP hG hG')))) (sS ⟨U,F9⟩) (fun v1 G3 Ho1 hle1 hp=>?_)
 obtain ⟨s,r,d,rfl,hA,hd,hB,rfl⟩:=hp;refine aS 5 [] ?_;refine gY ?_;exact ⟨s,r,d,U,hA,hd,hB,U⟩
theorem ii (G:A3) (a a':Option Addr) (c c':Nat) (l l':List IV) (xs ys:List Int) (m:Nat) (ha:Arr G a l) (ha':Arr G a' l') (hb:B6 G l xs) (hb':B6 G l' ys) (hm:Below m xs) (hm':Below m ys) (hmm:m≤268435456) (hlen:l.length=l'.length) (hl:l.length≤1048576) :
 Does Tryz.prog 238 [.slice a l.length c,.slice a' l'.length c'] G [] (fun v G' Ho=>∃ (s:Option Addr) (r:List IV) (d:Nat),v=.tuple #[.slice s r.length d,.int .i64 0]∧Arr G' s r∧r.length≤d∧B6 G' r (List.zipWith (·+·) xs ys)∧Ho=[]):=by
 have h181:=bw G 138 a a' c c' l l' (fun k=>xs[k]?.getD 0+ys[k]?.getD 0) T.fn138 ha ha' hlen hl (fun k hk G' hG=>by
  have h1:=Hw hb hm hk;have h2:=Hw hb' hm' (show k<l'.length by omega);exact XT G' _ _ _ _ ((hb.2 k hk).up hG) ((hb'.2 k sN).up hG) Tc Tc)
 rw [hb.1,FY xs ys (·+·) (by rw [←hb.1,←hb'.1,hlen]),←hb.1] at h181;refine D0 Tryz.func238 Tryz.ntmps238 fun w=>?_;refine aI 10 [] ?_;refine bV 0 U (h181) fun v1 G1 Ho1 hle1 hp=>?_;obtain ⟨s1,r1,d1,rfl,hA1,hl81,hB1,rfl⟩:=hp;replace ha:=ha.up hle1;replace ha':=ha'.up hle1;replace hb:=hb.up hle1;replace hb':=hb'.up hle1;refine aS 7 [] ?_;refine gY ?_;exact ⟨_,_,_,U,hA1,hl81,hB1,U⟩
theorem ij (G:A3) (a a':Option Addr) (c c':Nat) (l l':List IV) (xs ys:List Int) (m:Nat) (ha:Arr G a l) (ha':Arr G a' l') (hb:B6 G l xs) (hb':B6 G l' ys) (hm:Below m xs) (hm':Below m ys) (hmm:m≤268435456) (hlen:l.length=l'.length) (hl:l.length≤1048576) :
 Does Tryz.prog 240 [.slice a l.length c,.slice a' l'.length c'] G [] (fun v G' Ho=>∃ (s:Option Addr) (r:List IV) (d:Nat),v=.tuple #[.slice s r.length d,.int .i64 0]∧Arr G' s r∧r.length≤d∧B6 G' r (List.zipWith (· - ·) xs ys)∧Ho=[]):=by
 have h181:=bw G 177 a a' c c' l l' (fun k=>xs[k]?.getD 0 - ys[k]?.getD 0) T.fn177 ha ha' hlen hl (fun k hk G' hG=>by
  have h1:=Hw hb hm hk;have h2:=Hw hb' hm' (show k<l'.length by omega);exact ar G' _ _ _ _ ((hb.2 k hk).up hG) ((hb'.2 k sN).up hG) Tc Tc)
 rw [hb.1,FY xs ys (· - ·) (by rw [←hb.1,←hb'.1,hlen]),←hb.1] at h181;refine D0 Tryz.func240 Tryz.ntmps240 fun w=>?_;refine aI 10 [] ?_;refine bV 0 U (h181) fun v1 G1 Ho1 hle1 hp=>?_;obtain ⟨s1,r1,d1,rfl,hA1,hl81,hB1,rfl⟩:=hp;replace ha:=ha.up hle1;replace ha':=ha'.up hle1;replace hb:=hb.up hle1;replace hb':=hb'.up hle1;refine aS 7 [] ?_;refine gY ?_;exact ⟨_,_,_,U,hA1,hl81,hB1,U⟩
theorem ik (G:A3) (a:Option Addr) (c:Nat) (l:List IV) (xs:List Int) (y:IV) (z:Int) (m:Nat) (ha:Arr G a l) (hb:B6 G l xs) (hm:Below m xs) (hmm:m≤268435456) (hl:l.length≤1048576) (hy:C1 G y z) (hyn:y.n≤268435456) :
 Does Tryz.prog 241 [.slice a l.length c,.agg (A2.enc y).toArray] G [] (fun v G' Ho=>Ju G' v (xs.map fun x=>z*x)∧Ho=[]):=by
 have hf:∀ k:Nat,k<l.length→∀ G',G.le G'→Does Tryz.prog 75 ([.agg (A2.enc y).toArray]++[.agg (A2.enc (l[(k:Int).toNat]?.getD default)).toArray]++[]) G' [] (fun v G'' Ho=>∃ r:IV,v=.agg (A2.enc r).toArray∧C1 G'' r (z*xs[k]?.getD 0)∧Ho=[]):=fun k hk G' hG=>by
  have h1:=Hw hb hm hk;exact gk G' _ _ _ _ (hy.up hG) ((hb.2 k hk).up hG) sN Tc
 have h180:=WO G a c l 75 [.agg (A2.enc y).toArray] (fun k=>z*xs[k]?.getD 0) T.fn75 ha hl hf;rw [hb.1,Wm xs (fun x=>z*x),←hb.1] at h180;refine D0 Tryz.func241 Tryz.ntmps241 fun w=>?_;refine aI 2 [] ?_;refine dV 0 fun b1=>?_;refine aL 7 [0] ?_;refine aQ (gR U U) ?_;refine bV 1 U (h180) fun v1 G1 Ho1 hle1 hp=>?_;obtain ⟨s1,r1,d1,rfl,hA1,hl81,hB1,rfl⟩:=hp;replace ha:=ha.up hle1;replace hb:=hb.up hle1;replace hy:=hy.up hle1;refine aS 4 [] ?_;refine cV ?_;exact ⟨⟨_,_,_,U,hA1,hl81,hB1⟩,U⟩
theorem TK (xs:List Int) (z:Int):FX (fun k=>xs[k]?.getD 0 / z) xs.length=xs.map (· / z):=Wm xs (· / z)
theorem il (G:A3) (a:Option Addr) (c:Nat) (l:List IV) (xs:List Int) (y:IV) (z:Int) (m:Nat) (ha:Arr G a l) (hb:B6 G l xs) (hm:Below m xs) (hmm:m≤268435456) (hl:l.length≤1048576) (hy:C1 G y z) (hyn:y.n≤268435456) (hy0:z≠0) :
 Does Tryz.prog 243 [.slice a l.length c,.agg (A2.enc y).toArray] G [] (fun v G' Ho=>((∀ i:Nat,i<xs.length→xs[i]?.getD 0 % z=0)→∃ (s:Option Addr) (r:List IV) (d:Nat),v=.tuple #[.slice s r.length d,.int .i64 0]∧Arr G' s r∧r.length≤d∧B6 G' r (xs.map (· / z)))∧
  (¬(∀ i:Nat,i<xs.length→xs[i]?.getD 0 % z=0)→v=.tuple #[.slice none 0 0,.int .i64 20])∧Ho=[]):=by
 have hxl:=hb.1;refine D0 Tryz.func243 Tryz.ntmps243 fun w=>?_;refine eJ 9 (Row 125 ([]:List IV) []) ?_;have hz0:¬Zk z=0:=fun h=>hy0 (Po.1 h);refine aI 2 [] ?_;refine dV 10 fun b1=>?_;refine aL 8 [10] ?_;refine cI U (Zl _ y z hy (bO hyn sY)) ?_;refine bB 20 [0] ?_;refine jZ (ι:=Nat×A3×List IV×(Option Addr×Nat×List Value)) (fun (k,Gx,r,(o,d,j))=>([(17,.int .i64 (k:Int)),(6,.slice o r.length d),(16,.int .i64 (l.length:Int)),(15,.slice a (List.length l) c),(3,.pointer (some ⟨b1,0,none⟩))],[(9,o.map (·.block),Row 125 r j),(10,some b1,.cells (List.toArray (A2.enc y)) 125)])) (fun (k,Gx,r,(o,d,j))=>Gx) (fun (k,Gx,r,(o,d,j))=>k≤l.length∧G.le Gx∧r.length=k∧B6 Gx r (FX (fun k=>xs[k]?.getD 0 / z) k)∧A4 o d r j∧(∀ i:Nat,i<k→xs[i]?.getD 0 % z=0)) (fun (k,Gx,r,(o,d,j))=>l.length - k) ((0,G,[],(none,0,[]))) (⟨aM _,bN _,U,⟨U,fun i h=>absurd h tU⟩,eG,fun i h=>absurd h sN⟩) U ⟨U,U,U,U,U,F9⟩ ⟨U,U,F9⟩ fun ⟨k,Gx,r,(o,d,j)⟩=>fun hk=>?_;obtain ⟨hk1,hk2,hk3,hk4,hk5,hk6⟩:=hk;replace ha:=ha.up hk2;replace hb:=hb.up hk2;replace hy:=hy.up hk2;rcases aK k l.length with hkl | hkl
 · have hx:=hb.2 k hkl;have hxn:(l[(k:Int).toNat]?.getD default).n≤268435456:=by rw [aE];exact bO (Hw hb hm hkl) hmm
   have hx:C1 Gx (l[(k:Int).toNat]?.getD default) (xs[k]?.getD 0):=by rw [aE];exact hx
   have hlt:((xs[k]?.getD 0 % z).natAbs:Int)<pb y.n:=by
    have e2:=DY (x:=xs[k]?.getD 0) hy0;have e3:=C1.lt hy;omega
   refine aI 13 [1] ?_;refine fR (α:=IV) T.sl68 ?_;refine lL T.agg125 ?_;refine aO 11 U T.zero125 fun b2=>?_;refine aL 7 [11,11,10] ?_;refine bV 12 U (gp _ _ _ _ _ hx hy hxn hyn hy0) fun v1 G1 Ho1 hle1 hp=>?_;obtain ⟨q1,r1,rfl,hq1,hr1,rfl⟩:=hp;replace hk4:=hk4.up hle1;replace ha:=ha.up hle1;replace hb:=hb.up hle1;replace hy:=hy.up hle1;replace hx:=hx.up hle1;refine aC 4 [] ?_;refine aO 12 U T.zero125 fun b3=>?_;refine aO 13 U T.zero125 fun b4=>?_;refine aL 9 [12,13,13] ?_;refine cI U (Zl _ r1 (xs[k]?.getD 0 % z) hr1 (bO (jI hr1 hlt) (bO hyn sY))) ?_;refine bB 3 [] ?_;refine cW (fun hc1=>?_) fun hc1=>?_;refine bE 13 [] ?_;rotate_left;refine aI 5 [12] ?_;refine cZ (α:=IV) 14 [(q1)] U T.sl68 T.el125 U U U U U fun b5=>?_;refine kH (α:=IV) 9 T.sl68 T.el125 (dT 14 U) fun a1 c1 junk1 ho1=>?_;refine aS 8 [] ?_;rotate_left
   · refine gY ?_;have hno:¬(∀ i:Nat,i<xs.length→xs[i]?.getD 0 % z=0):=fun h=>hc1 (Po.2 (h k sN));exact ⟨fun h=>absurd h hno,fun _=>rfl,U⟩
   have hdz:xs[k]?.getD 0 % z=0:=Po.1 (dY fun h=>hc1 h);refine cJ 17 U (show _=Value.int .i64 ((k+1:Nat):Int) from U) ?_;refine cK ((k+1,_,r++[q1],(a1,c1,junk1))) ?_ ?_
   · refine ⟨hkl,aP hk2 hle1,by rw [aB,hk3];rfl,?_,ho1,fun i hi=>?_⟩
     · rw [Pt];exact Ll hk4 hq1
     rcases aK i k with h | h
     · exact hk6 i h
     have e:i=k:=sN;rw [e];exact hdz
   show l.length - (k+1)<l.length - k;omega
 have hkl:k=l.length:=sN;subst hkl;refine bE 20 [0] ?_;refine cX 9 U hk5 fun G8 hle8 hA8=>?_;refine gY ?_;rw [hxl] at hk6;refine ⟨fun _=>⟨o,r,d,U,hA8,hk5.le,?_⟩,fun h=>absurd hk6 h,U⟩;rw [←TK,←hxl];exact hk4.up hle8
theorem im (G:A3) (a a':Option Addr) (c c':Nat) (l l':List IV) (xs ys:List Int) (m:Nat) (ha:Arr G a l) (ha':Arr G a' l') (hb:B6 G l xs) (hb':B6 G l' ys) (hm:Below m xs) (hm':Below m ys) (hmm:m≤268435456) (hlen:l.length=l'.length) (hl:l.length≤1048576) :
 Does Tryz.prog 237 [.slice a l.length c,.slice a' l'.length c'] G [] (fun v G' Ho=>Ju G' v (List.zipWith (·+·) xs ys)∧Ho=[]):=by
 refine D0 Tryz.func237 Tryz.ntmps237 fun w=>?_;refine aI 9 [] ?_;refine bV 0 U (ii _ a a' c c' l l' xs ys m ha ha' hb hb' hm hm' hmm hlen hl) fun v1 G1 Ho1 hle1 hp=>?_;obtain ⟨s1,r1,d1,rfl,hA1,hl81,hB1,rfl⟩:=hp;replace ha:=ha.up hle1;replace ha':=ha'.up hle1;replace hb:=hb.up hle1;replace hb':=hb'.up hle1;refine aS 14 [] ?_;refine cV ?_;exact ⟨⟨_,_,_,U,hA1,hl81,hB1⟩,U⟩
theorem io (G:A3) (a a':Option Addr) (c c':Nat) (l l':List IV) (xs ys:List Int) (m:Nat) (ha:Arr G a l) (ha':Arr G a' l') (hb:B6 G l xs) (hb':B6 G l' ys) (hm:Below m xs) (hm':Below m ys) (hmm:m≤268435456) (hlen:l.length=l'.length) (hl:l.length≤1048576) :
 Does Tryz.prog 239 [.slice a l.length c,.slice a' l'.length c'] G [] (fun v G' Ho=>Ju G' v (List.zipWith (· - ·) xs ys)∧Ho=[]):=by
 refine D0 Tryz.func239 Tryz.ntmps239 fun w=>?_;refine aI 9 [] ?_;refine bV 0 U (ij _ a a' c c' l l' xs ys m ha ha' hb hb' hm hm' hmm hlen hl) fun v1 G1 Ho1 hle1 hp=>?_;obtain ⟨s1,r1,d1,rfl,hA1,hl81,hB1,rfl⟩:=hp;replace ha:=ha.up hle1;replace ha':=ha'.up hle1;replace hb:=hb.up hle1;replace hb':=hb'.up hle1;refine aS 14 [] ?_;refine cV ?_;exact ⟨⟨_,_,_,U,hA1,hl81,hB1⟩,U⟩
theorem ir (G:A3) (a:Option Addr) (c:Nat) (l:List IV) (xs:List Int) (y:IV) (z:Int) (m:Nat) (ha:Arr G a l) (hb:B6 G l xs) (hm:Below m xs) (hmm:m≤268435456) (hl:l.length≤1048576) (hy:C1 G y z) (hyn:y.n≤268435456) (hy0:z≠0) :
 Does Tryz.prog 242 [.slice a l.length c,.agg (A2.enc y).toArray] G [] (fun v G' Ho=>((∀ i:Nat,i<xs.length→xs[i]?.getD 0 % z=0)→∃ (s:Option Addr) (r:List IV) (d:Nat),v=.tuple #[.slice s r.length d,.bool true]∧Arr G' s r∧r.length≤d∧B6 G' r (xs.map (· / z)))∧
  (¬(∀ i:Nat,i<xs.length→xs[i]?.getD 0 % z=0)→v=.tuple #[.slice none 0 0,.bool false])∧Ho=[]):=by
 have h:=il G a c l xs y z m ha hb hm hmm hl hy hyn hy0;by_cases hd:∀ i:Nat,i<xs.length→xs[i]?.getD 0 % z=0
 · have h1:=h.mono fun v G' Ho _ ⟨p1,p2,p3⟩=>(⟨p1 hd,p3⟩:(∃ (s:Option Addr) (r:List IV) (d:Nat),v=Value.tuple #[.slice s r.length d,.int .i64 0]∧Arr G' s r∧r.length≤d∧B6 G' r (xs.map (· / z)))∧Ho=[])
   refine D0 Tryz.func242 Tryz.ntmps242 fun w=>?_;refine aI 2 [] ?_;refine dV 0 fun b1=>?_;refine aL 8 [0] ?_;refine bV 1 U (h1) fun v1 G1 Ho1 hle1 hp=>?_;obtain ⟨⟨s1,r1,d1,rfl,hA1,hl81,hB1⟩,rfl⟩:=hp;replace ha:=ha.up hle1;replace hb:=hb.up hle1;replace hy:=hy.up hle1;refine aS 17 [] ?_;refine gY ?_;exact ⟨fun _=>⟨_,_,_,U,hA1,hl81,hB1⟩,fun h=>absurd hd h,U⟩
 have h1:=h.mono fun v G' Ho _ ⟨p1,p2,p3⟩=>(⟨p2 hd,p3⟩:v=Value.tuple #[.slice none 0 0,.int .i64 20]∧Ho=[])
 refine D0 Tryz.func242 Tryz.ntmps242 fun w=>?_;refine aI 2 [] ?_;refine dV 0 fun b1=>?_;refine aL 8 [0] ?_;refine bV 1 U (h1) fun v1 G1 Ho1 hle1 hp=>?_;obtain ⟨rfl,rfl⟩:=hp;replace ha:=ha.up hle1;replace hb:=hb.up hle1;replace hy:=hy.up hle1;refine aS 17 [] ?_;refine gY ?_;exact ⟨fun h=>absurd h hd,fun _=>rfl,U⟩
def OE:Value:=.agg #[.func (.func 236) #[] #[],.func (.func 237) #[] #[],.func (.func 239) #[] #[],.func (.func 241) #[] #[],.func (.func 242) #[] #[]]
theorem iu (G:A3):Does Tryz.prog 204 [] G [] (fun v G' Ho=>v=OE∧G'=G∧Ho=[]):=by
 refine D0 Tryz.func204 Tryz.ntmps204 fun w=>?_;refine aI 2 [] ?_;refine aO 0 U T.zero281 fun b1=>?_;refine aL 4 [] ?_;refine aQ (bP (cs:=[_,_,_,_,_]) T.st281 U U U) ?_;refine aS 4 [0] ?_;refine cH (.inr U) (Ho:=[]) U (.agg 0 U U T.agg281) F9 ?_;exact ⟨U,U,U⟩
end
section
attribute [local irreducible] sQ pb uJ tT p2 cst
def C5 (m N:Nat) (rs:List (List Int)):Prop:=∀ zs∈rs,zs.length=N∧Below m zs
theorem C5.at {m N:Nat} {rs:List (List Int)} (h:C5 m N rs) {k:Nat} (hk:k<rs.length):(rs[k]?.getD []).length=N∧Below m (rs[k]?.getD []):=by
 rw [aA hk];exact h _ (bT hk)
def Wn (i:Sl.Instr) (rs:List (List Int)) (H0:Hp) (v:Value) (G':A3) (Ho:Hp):Prop:=
 ∃ s:SV,v=.tuple #[.slice s.a s.n s.c,.bool (decide (xQ i rs≠none))]∧(∀ z,xQ i rs=some z→D4 G' s z)∧Ho=H0
theorem zT {i:Sl.Instr} {rs:List (List Int)} {H0:Hp} {s:SV} {G':A3} {z:List Int} (h:xQ i rs=some z) (hx:D4 G' s z):Wn i rs H0 (.tuple #[.slice s.a s.n s.c,.bool true]) G' H0:=
 ⟨s,by rw [bL (show xQ i rs≠none from fun e=>by rw [e] at h;cases h)],fun z' h'=>by rw [h] at h';cases h';exact hx,U⟩
theorem Zx {i:Sl.Instr} {rs:List (List Int)} {H0:Hp} {G':A3} (h:xQ i rs=none):Wn i rs H0 (.tuple #[.slice none 0 0,.bool false]) G' H0:=
 ⟨⟨none,0,0⟩,by rw [cA (show ¬xQ i rs≠none from fun e=>e h)],(fun z hz=>by rw [h] at hz;cases hz),U⟩
theorem zI {G:A3} {s:Option Addr} {r:List IV} {d:Nat} {zs:List Int} (hA:Arr G s r) (hd:r.length≤d) (hB:B6 G r zs):D4 G ⟨s,r.length,d⟩ zs:=⟨r,U,hd,hA,hB⟩
theorem OF (xs:List Int):(xs.map fun x=>-1*x)=xs.map fun x=>-x:=by
 congr 1;funext x;rw [gN,dP]
theorem OG (xs ys:List Int):List.zipWith (fun x y=>x+1*y) xs ys=List.zipWith (·+·) xs ys:=by
 congr 1;funext x y;rw [dP]
theorem OH (xs ys:List Int):List.zipWith (fun x y=>x+(-1)*y) xs ys=List.zipWith (· - ·) xs ys:=by
 congr 1;funext x y;rw [gN,dP];rfl
theorem iv (G:A3) (i:Sl.Instr) (o:Option Addr) (d:Nat) (r:List SV) (j:List Value) (rs:List (List Int)) (m N:Nat) (hob:A4 o d r j) (hg:C0 G r rs) (hm:C5 m N rs) (hN:N≤1048576) (hm2:m≤268435456)
 (hop:1≤i.op∧i.op≤8) (ha:0≤i.a∧i.a<r.length) (hb:0≤i.b∧i.b<r.length)
 (hcst:i.op≠1→i.op≠2→i.op≠3→i.op≠4→cst i≠0∧((cst i).natAbs:Int)<pb 3)
 (hc1:i.op=5∨i.op=6→-9223372036854775808≤i.c∧i.c≤9223372036854775807) (hc2:¬(i.op=5∨i.op=6)→0≤i.c∧i.c≤64) :
 Does Tryz.prog 235 [OE,.slice o r.length d,.agg (A2.enc i).toArray] G [(0,o.map (·.block),Row 68 r j)] (fun v G' Ho=>Wn i rs [(0,o.map (·.block),Row 68 r j)] v G' Ho):=by
 have hca:=hob.le;obtain ⟨la,a1,a2,a3,a4⟩:=hg.2 i.a.toNat sN;obtain ⟨lb,b1,b2,b3,b4⟩:=hg.2 i.b.toNat sN;have hrl:=hg.1;obtain ⟨na,ma⟩:=hm.at (k:=i.a.toNat) sN;obtain ⟨nb,mb⟩:=hm.at (k:=i.b.toNat) sN;have hla:la.length≤1048576:=by rw [a4.1,na];exact hN
 have hlab:la.length=lb.length:=by rw [a4.1,b4.1,na,nb]
 refine D0 Tryz.func235 Tryz.ntmps235 fun w=>?_;have h118:=ie G _ (r[i.a.toNat]?.getD default).c la _ m a3 a4 ma hm2 hla;have h119:=im G _ _ (r[i.a.toNat]?.getD default).c (r[i.b.toNat]?.getD default).c la lb _ _ m a3 b3 a4 b4 ma mb hm2 hlab hla;have h121:=io G _ _ (r[i.a.toNat]?.getD default).c (r[i.b.toNat]?.getD default).c la lb _ _ m a3 b3 a4 b4 ma mb hm2 hlab hla;rw [a1] at h118;rw [a1,b1] at h119 h121;have h123:∀ G1 y z,G.le G1→C1 G1 y z→y.n≤268435456→Does Tryz.prog 241 [.slice (r[i.a.toNat]?.getD default).a (r[i.a.toNat]?.getD default).n (r[i.a.toNat]?.getD default).c,.agg (A2.enc y).toArray] G1 [] (fun v G' Ho=>Ju G' v ((rs[i.a.toNat]?.getD []).map fun x=>z*x)∧Ho=[]):=fun G1 y z hG hy hyn=>by
  have h:=ik G1 _ (r[i.a.toNat]?.getD default).c la _ y z m (a3.up hG) (a4.up hG) ma hm2 hla hy hyn;rw [a1] at h;exact h
 have h124:∀ G1 y z,G.le G1→C1 G1 y z→y.n≤268435456→z≠0→Does Tryz.prog 242 [.slice (r[i.a.toNat]?.getD default).a (r[i.a.toNat]?.getD default).n (r[i.a.toNat]?.getD default).c,.agg (A2.enc y).toArray] G1 [] (fun v G' Ho=>(zG z (rs[i.a.toNat]?.getD [])→∃ (s:Option Addr) (r':List IV) (d:Nat),v=.tuple #[.slice s r'.length d,.bool true]∧Arr G' s r'∧r'.length≤d∧B6 G' r' ((rs[i.a.toNat]?.getD []).map (· / z)))∧
  (¬zG z (rs[i.a.toNat]?.getD [])→v=.tuple #[.slice none 0 0,.bool false])∧Ho=[]):=fun G1 y z hG hy hyn hz=>by
  have h:=ir G1 _ (r[i.a.toNat]?.getD default).c la _ y z m (a3.up hG) (a4.up hG) ma hm2 hla hy hyn hz;rw [a1] at h;exact h
 by_cases h2:i.op=2
 · refine aI 2 [] ?_;refine dV 1 fun b5=>?_;refine dV 2 fun b6=>?_;refine bB 5 [] ?_;refine dE [0,1,2] [] T.mixed [[0],[1],[2,2]] ?_;refine fJ (α:=SV) 3 T.sl237 ?_;refine nL 4 0 0 T.one68 ?_;refine dK [[5],[6],[7,2]] ?_;refine fJ (α:=SV) 8 T.sl237 ?_;refine nL 9 0 0 T.one68 ?_;refine dK [[10],[11]] ?_;refine dG ?_;refine lQ 21 [2,1,1] ?_;refine fE (fst:=[]) (cap:=[]) 3 U T.fn236 U U (h118) (sS F9) fun v1 G1 Ho1 hle1 hp=>?_;obtain ⟨⟨s1,r1,d1,rfl,hA1,hl81,hB1⟩,rfl⟩:=hp;replace a3:=a3.up hle1;replace a4:=a4.up hle1;replace b3:=b3.up hle1;replace b4:=b4.up hle1;refine aS 7 [] ?_;refine pL [0] ?_;exact zT (by unfold xQ;simp only [h2,jY];rw [OF]) (zI hA1 hl81 hB1)
 by_cases h3:i.op=3
 · refine aI 2 [] ?_;refine dV 1 fun b5=>?_;refine dV 2 fun b6=>?_;refine bB 5 [] ?_;refine dE [0,1,2] [] T.mixed [[0],[1],[2,2]] ?_;refine fJ (α:=SV) 3 T.sl237 ?_;refine nL 4 0 0 T.one68 ?_;refine dK [[5],[6],[7,2]] ?_;refine fJ (α:=SV) 8 T.sl237 ?_;refine nL 9 0 0 T.one68 ?_;refine dK [[10],[11]] ?_;refine dG ?_;refine lQ 29 [2,0,1,1] ?_;refine fE (fst:=[]) (cap:=[]) 3 U T.fn237 U U (h119) (sS F9) fun v1 G1 Ho1 hle1 hp=>?_;obtain ⟨⟨s1,r1,d1,rfl,hA1,hl81,hB1⟩,rfl⟩:=hp;replace a3:=a3.up hle1;replace a4:=a4.up hle1;replace b3:=b3.up hle1;replace b4:=b4.up hle1;refine aS 7 [] ?_;refine pL [0] ?_;exact zT (by unfold xQ;simp only [h3,jY];rw [aD (by decide),OG]) (zI hA1 hl81 hB1)
 by_cases h4:i.op=4
 · refine aI 2 [] ?_;refine dV 1 fun b5=>?_;refine dV 2 fun b6=>?_;refine bB 5 [] ?_;refine dE [0,1,2] [] T.mixed [[0],[1],[2,2]] ?_;refine fJ (α:=SV) 3 T.sl237 ?_;refine nL 4 0 0 T.one68 ?_;refine dK [[5],[6],[7,2]] ?_;refine fJ (α:=SV) 8 T.sl237 ?_;refine nL 9 0 0 T.one68 ?_;refine dK [[10],[11]] ?_;refine dG ?_;refine lQ 36 [2,0,0,1,1] ?_;refine fE (fst:=[]) (cap:=[]) 3 U T.fn239 U U (h121) (sS F9) fun v1 G1 Ho1 hle1 hp=>?_;obtain ⟨⟨s1,r1,d1,rfl,hA1,hl81,hB1⟩,rfl⟩:=hp;replace a3:=a3.up hle1;replace a4:=a4.up hle1;replace b3:=b3.up hle1;replace b4:=b4.up hle1;refine aS 7 [] ?_;refine pL [0] ?_;exact zT (by unfold xQ;simp only [h4,jY];rw [aD (by decide),aD (by decide),OH]) (zI hA1 hl81 hB1)
 by_cases h1:i.op=1
 · refine aI 2 [] ?_;refine dV 1 fun b5=>?_;refine dV 2 fun b6=>?_;refine bB 5 [] ?_;refine dE [0,1,2] [] T.mixed [[0],[1],[2,2]] ?_;refine fJ (α:=SV) 3 T.sl237 ?_;refine nL 4 0 0 T.one68 ?_;refine dK [[5],[6],[7,2]] ?_;refine fJ (α:=SV) 8 T.sl237 ?_;refine nL 9 0 0 T.one68 ?_;refine dK [[10],[11]] ?_;refine dG ?_;refine eE 69 [2,0,0,0,0,0,0,0] ?_;refine pL [0] ?_;exact zT (by unfold xQ;simp only [h1];rfl) ⟨la,a1,a2,a3,a4⟩
 obtain ⟨hk0,hk3⟩:=hcst h1 h2 h3 h4;by_cases h5:i.op=5
 · have hc9:=hc1 (.inl h5);have e5:cst i=i.c:=Zp (.inl h5);rw [e5] at hk3;refine aI 2 [] ?_;refine dV 1 fun b5=>?_;refine dV 2 fun b6=>?_;refine bB 5 [] ?_;refine dE [0,1,2] [] T.mixed [[0],[1],[2,2]] ?_;refine fJ (α:=SV) 3 T.sl237 ?_;refine nL 4 0 0 T.one68 ?_;refine dK [[5],[6],[7,2]] ?_;refine fJ (α:=SV) 8 T.sl237 ?_;refine nL 9 0 0 T.one68 ?_;refine dK [[10],[11]] ?_;refine dG ?_;refine lS 38 [2,0,0,0,1] ?_;refine dE [0,1,2] [(2,6),(1,6),(0,6)] T.mixed [[0],[1,1],[2],[3]] ?_;refine bQ 4 ?_;refine aC 1 [2] ?_;refine cS 5 ?_;refine bV 3 U (RH _ i.c hc9) fun v1 G1 Ho1 hle1 hp=>?_;obtain ⟨rk,rfl,hrk,rfl⟩:=hp;replace a3:=a3.up hle1;replace a4:=a4.up hle1;replace b3:=b3.up hle1;replace b4:=b4.up hle1;refine cS 6 ?_;refine fE (fst:=[]) (cap:=[]) 3 U T.fn241 U U (h123 _ rk _ sO hrk (bO (jI hrk hk3) sY)) (sS F9) fun v2 G2 Ho2 hle2 hp=>?_;obtain ⟨⟨s2,r2,d2,rfl,hA2,hl82,hB2⟩,rfl⟩:=hp;replace hrk:=hrk.up hle2;replace a3:=a3.up hle2;replace a4:=a4.up hle2;replace b3:=b3.up hle2;replace b4:=b4.up hle2;refine bC ?_;refine dK [[7],[8]] ?_;refine dG ?_;refine eE 4 [] ?_;refine pL [0] ?_;all_goals exact zT (by unfold xQ;simp only [h5,true_or,jY];rw [aD (by decide),aD (by decide),aD (by decide),e5]) (zI sO sO sO)
 by_cases h6:i.op=6
 · have hc9:=hc1 (.inr h6);have e5:cst i=i.c:=Zp (.inr h6);rw [e5] at hk3 hk0;have h124Y:zG (i.c) (rs[i.a.toNat]?.getD [])→∀ G1 y,G.le G1→C1 G1 y (i.c)→y.n≤268435456→Does Tryz.prog 242 [.slice (r[i.a.toNat]?.getD default).a (r[i.a.toNat]?.getD default).n (r[i.a.toNat]?.getD default).c,.agg (A2.enc y).toArray] G1 [] (fun v G' Ho=>(∃ (s:Option Addr) (r':List IV) (d:Nat),v=.tuple #[.slice s r'.length d,.bool true]∧Arr G' s r'∧r'.length≤d∧B6 G' r' ((rs[i.a.toNat]?.getD []).map (· / (i.c))))∧Ho=[]):=
    fun hd G1 y hG hy hyn=>(h124 G1 y _ hG hy hyn hk0).mono fun v G' Ho _ ⟨p1,p2,p3⟩=>⟨p1 hd,p3⟩
   have h124N:¬zG (i.c) (rs[i.a.toNat]?.getD [])→∀ G1 y,G.le G1→C1 G1 y (i.c)→y.n≤268435456→Does Tryz.prog 242 [.slice (r[i.a.toNat]?.getD default).a (r[i.a.toNat]?.getD default).n (r[i.a.toNat]?.getD default).c,.agg (A2.enc y).toArray] G1 [] (fun v G' Ho=>v=.tuple #[.slice none 0 0,.bool false]∧Ho=[]):=
    fun hd G1 y hG hy hyn=>(h124 G1 y _ hG hy hyn hk0).mono fun v G' Ho _ ⟨p1,p2,p3⟩=>⟨p2 hd,p3⟩
   by_cases hd:zG (i.c) (rs[i.a.toNat]?.getD [])
   · skip;refine aI 2 [] ?_;refine dV 1 fun b5=>?_;refine dV 2 fun b6=>?_;refine bB 5 [] ?_;refine dE [0,1,2] [] T.mixed [[0],[1],[2,2]] ?_;refine fJ (α:=SV) 3 T.sl237 ?_;refine nL 4 0 0 T.one68 ?_;refine dK [[5],[6],[7,2]] ?_;refine fJ (α:=SV) 8 T.sl237 ?_;refine nL 9 0 0 T.one68 ?_;refine dK [[10],[11]] ?_;refine dG ?_;refine lS 52 [2,0,0,0,0,0,1] ?_;refine dE [0,1,2] [(2,6),(1,6),(0,6)] T.mixed [[0],[1,1],[2],[3]] ?_;refine bQ 4 ?_;refine aC 1 [2] ?_;refine cS 5 ?_;refine bV 3 U (RH _ i.c hc9) fun v1 G1 Ho1 hle1 hp=>?_;obtain ⟨rk,rfl,hrk,rfl⟩:=hp;replace a3:=a3.up hle1;replace a4:=a4.up hle1;replace b3:=b3.up hle1;replace b4:=b4.up hle1;refine cS 6 ?_;refine fE (fst:=[]) (cap:=[]) 3 U T.fn242 U U (h124Y hd _ rk sO hrk (bO (jI hrk hk3) sY)) (sS F9) fun v2 G2 Ho2 hle2 hp=>?_;obtain ⟨⟨s2,r2,d2,rfl,hA2,hl82,hB2⟩,rfl⟩:=hp;replace hrk:=hrk.up hle2;replace a3:=a3.up hle2;replace a4:=a4.up hle2;replace b3:=b3.up hle2;replace b4:=b4.up hle2;refine bC ?_;refine dK [[7],[8],[9],[10]] ?_;refine dG ?_;refine eE 4 [] ?_;refine pL [0] ?_;all_goals exact zT (by unfold xQ;simp only [h6,true_or,jY];first | (rw [aD (by decide),aD (by decide),aD (by decide),aD (by decide),e5,aF hd]) | (rw [aD (by decide),aD (by decide),aD (by decide),aD (by decide)];exact (by rw [e5];exact aF hd))) (zI sO sO sO)
   skip;refine aI 2 [] ?_;refine dV 1 fun b5=>?_;refine dV 2 fun b6=>?_;refine bB 5 [] ?_;refine dE [0,1,2] [] T.mixed [[0],[1],[2,2]] ?_;refine fJ (α:=SV) 3 T.sl237 ?_;refine nL 4 0 0 T.one68 ?_;refine dK [[5],[6],[7,2]] ?_;refine fJ (α:=SV) 8 T.sl237 ?_;refine nL 9 0 0 T.one68 ?_;refine dK [[10],[11]] ?_;refine dG ?_;refine lS 52 [2,0,0,0,0,0,1] ?_;refine dE [0,1,2] [(2,6),(1,6),(0,6)] T.mixed [[0],[1,1],[2],[3]] ?_;refine bQ 4 ?_;refine aC 1 [2] ?_;refine cS 5 ?_;refine bV 3 U (RH _ i.c hc9) fun v1 G1 Ho1 hle1 hp=>?_;obtain ⟨rk,rfl,hrk,rfl⟩:=hp;replace a3:=a3.up hle1;replace a4:=a4.up hle1;replace b3:=b3.up hle1;replace b4:=b4.up hle1;refine cS 6 ?_;refine fE (fst:=[]) (cap:=[]) 3 U T.fn242 U U (h124N hd _ rk sO hrk (bO (jI hrk hk3) sY)) (sS F9) fun v2 G2 Ho2 hle2 hp=>?_;obtain ⟨rfl,rfl⟩:=hp;replace hrk:=hrk.up hle2;replace a3:=a3.up hle2;replace a4:=a4.up hle2;replace b3:=b3.up hle2;replace b4:=b4.up hle2;refine bC ?_;refine dK [[7],[8],[9],[10]] ?_;refine dG ?_;refine eE 4 [] ?_;refine pL [0] ?_;all_goals exact Zx (by unfold xQ;simp only [h6,true_or,jY];rw [aD (by decide),aD (by decide),aD (by decide),aD (by decide),e5,aD hd])
 have hc64:=hc2 (fun h=>h.elim h5 h6);have e5:cst i=p2 i.c.toNat:=WK (fun h=>h.elim h5 h6);rw [e5] at hk3 hk0;by_cases h7:i.op=7
 · refine aI 2 [] ?_;refine dV 1 fun b5=>?_;refine dV 2 fun b6=>?_;refine bB 5 [] ?_;refine dE [0,1,2] [] T.mixed [[0],[1],[2,2]] ?_;refine fJ (α:=SV) 3 T.sl237 ?_;refine nL 4 0 0 T.one68 ?_;refine dK [[5],[6],[7,2]] ?_;refine fJ (α:=SV) 8 T.sl237 ?_;refine nL 9 0 0 T.one68 ?_;refine dK [[10],[11]] ?_;refine dG ?_;refine lS 45 [2,0,0,0,0,1] ?_;refine dE [0,1,2] [(2,6),(1,6),(0,6)] T.mixed [[0],[1,1],[2],[3]] ?_;refine bQ 4 ?_;refine aC 1 [2] ?_;refine cS 5 ?_;refine bV 3 U (OD _ i.c hc64) fun v1 G1 Ho1 hle1 hp=>?_;obtain ⟨rk,rfl,hrk,rfl⟩:=hp;replace a3:=a3.up hle1;replace a4:=a4.up hle1;replace b3:=b3.up hle1;replace b4:=b4.up hle1;refine cS 6 ?_;refine fE (fst:=[]) (cap:=[]) 3 U T.fn241 U U (h123 _ rk _ sO hrk (bO (jI hrk hk3) sY)) (sS F9) fun v2 G2 Ho2 hle2 hp=>?_;obtain ⟨⟨s2,r2,d2,rfl,hA2,hl82,hB2⟩,rfl⟩:=hp;replace hrk:=hrk.up hle2;replace a3:=a3.up hle2;replace a4:=a4.up hle2;replace b3:=b3.up hle2;replace b4:=b4.up hle2;refine bC ?_;refine dK [[7],[8]] ?_;refine dG ?_;refine eE 4 [] ?_;refine pL [0] ?_;all_goals exact zT (by unfold xQ;simp only [h7,or_true,jY];rw [aD (by decide),aD (by decide),aD (by decide),e5]) (zI sO sO sO)
 have h8:i.op=8:=sN;have h124Y:zG (p2 i.c.toNat) (rs[i.a.toNat]?.getD [])→∀ G1 y,G.le G1→C1 G1 y (p2 i.c.toNat)→y.n≤268435456→Does Tryz.prog 242 [.slice (r[i.a.toNat]?.getD default).a (r[i.a.toNat]?.getD default).n (r[i.a.toNat]?.getD default).c,.agg (A2.enc y).toArray] G1 [] (fun v G' Ho=>(∃ (s:Option Addr) (r':List IV) (d:Nat),v=.tuple #[.slice s r'.length d,.bool true]∧Arr G' s r'∧r'.length≤d∧B6 G' r' ((rs[i.a.toNat]?.getD []).map (· / (p2 i.c.toNat))))∧Ho=[]):=
  fun hd G1 y hG hy hyn=>(h124 G1 y _ hG hy hyn hk0).mono fun v G' Ho _ ⟨p1,p2,p3⟩=>⟨p1 hd,p3⟩
 have h124N:¬zG (p2 i.c.toNat) (rs[i.a.toNat]?.getD [])→∀ G1 y,G.le G1→C1 G1 y (p2 i.c.toNat)→y.n≤268435456→Does Tryz.prog 242 [.slice (r[i.a.toNat]?.getD default).a (r[i.a.toNat]?.getD default).n (r[i.a.toNat]?.getD default).c,.agg (A2.enc y).toArray] G1 [] (fun v G' Ho=>v=.tuple #[.slice none 0 0,.bool false]∧Ho=[]):=
  fun hd G1 y hG hy hyn=>(h124 G1 y _ hG hy hyn hk0).mono fun v G' Ho _ ⟨p1,p2,p3⟩=>⟨p2 hd,p3⟩
 by_cases hd:zG (p2 i.c.toNat) (rs[i.a.toNat]?.getD [])
 · skip;refine aI 2 [] ?_;refine dV 1 fun b5=>?_;refine dV 2 fun b6=>?_;refine bB 5 [] ?_;refine dE [0,1,2] [] T.mixed [[0],[1],[2,2]] ?_;refine fJ (α:=SV) 3 T.sl237 ?_;refine nL 4 0 0 T.one68 ?_;refine dK [[5],[6],[7,2]] ?_;refine fJ (α:=SV) 8 T.sl237 ?_;refine nL 9 0 0 T.one68 ?_;refine dK [[10],[11]] ?_;refine dG ?_;refine lS 59 [2,0,0,0,0,0,0,1] ?_;refine dE [0,1,2] [(2,6),(1,6),(0,6)] T.mixed [[0],[1,1],[2],[3]] ?_;refine bQ 4 ?_;refine aC 1 [2] ?_;refine cS 5 ?_;refine bV 3 U (OD _ i.c hc64) fun v1 G1 Ho1 hle1 hp=>?_;obtain ⟨rk,rfl,hrk,rfl⟩:=hp;replace a3:=a3.up hle1;replace a4:=a4.up hle1;replace b3:=b3.up hle1;replace b4:=b4.up hle1;refine cS 6 ?_;refine fE (fst:=[]) (cap:=[]) 3 U T.fn242 U U (h124Y hd _ rk sO hrk (bO (jI hrk hk3) sY)) (sS F9) fun v2 G2 Ho2 hle2 hp=>?_;obtain ⟨⟨s2,r2,d2,rfl,hA2,hl82,hB2⟩,rfl⟩:=hp;replace hrk:=hrk.up hle2;replace a3:=a3.up hle2;replace a4:=a4.up hle2;replace b3:=b3.up hle2;replace b4:=b4.up hle2;refine bC ?_;refine dK [[7],[8],[9],[10]] ?_;refine dG ?_;refine eE 4 [] ?_;refine pL [0] ?_;all_goals exact zT (by unfold xQ;simp only [h8,or_true,jY];first | (rw [aD (by decide),aD (by decide),aD (by decide),aD (by decide),e5,aF hd]) | (rw [aD (by decide),aD (by decide),aD (by decide),aD (by decide)];exact (by rw [e5];exact aF hd))) (zI sO sO sO)
 skip;refine aI 2 [] ?_;refine dV 1 fun b5=>?_;refine dV 2 fun b6=>?_;refine bB 5 [] ?_;refine dE [0,1,2] [] T.mixed [[0],[1],[2,2]] ?_;refine fJ (α:=SV) 3 T.sl237 ?_;refine nL 4 0 0 T.one68 ?_;refine dK [[5],[6],[7,2]] ?_;refine fJ (α:=SV) 8 T.sl237 ?_;refine nL 9 0 0 T.one68 ?_;refine dK [[10],[11]] ?_;refine dG ?_;refine lS 59 [2,0,0,0,0,0,0,1] ?_;refine dE [0,1,2] [(2,6),(1,6),(0,6)] T.mixed [[0],[1,1],[2],[3]] ?_;refine bQ 4 ?_;refine aC 1 [2] ?_;refine cS 5 ?_;refine bV 3 U (OD _ i.c hc64) fun v1 G1 Ho1 hle1 hp=>?_;obtain ⟨rk,rfl,hrk,rfl⟩:=hp;replace a3:=a3.up hle1;replace a4:=a4.up hle1;replace b3:=b3.up hle1;replace b4:=b4.up hle1;refine cS 6 ?_;refine fE (fst:=[]) (cap:=[]) 3 U T.fn242 U U (h124N hd _ rk sO hrk (bO (jI hrk hk3) sY)) (sS F9) fun v2 G2 Ho2 hle2 hp=>?_;obtain ⟨rfl,rfl⟩:=hp;replace hrk:=hrk.up hle2;replace a3:=a3.up hle2;replace a4:=a4.up hle2;replace b3:=b3.up hle2;replace b4:=b4.up hle2;refine bC ?_;refine dK [[7],[8],[9],[10]] ?_;refine dG ?_;refine eE 4 [] ?_;refine pL [0] ?_;all_goals exact Zx (by unfold xQ;simp only [h8,or_true,jY];rw [aD (by decide),aD (by decide),aD (by decide),aD (by decide),e5,aD hd])
end
theorem TL:pw 5≤pb 3:=by unfold pw pb;decide
theorem JD {m k:Nat} {x y:Int} (hx:(x.natAbs:Int)<pb m) (hy:(y.natAbs:Int)<pb k):((x*y).natAbs:Int)<pb (m+k):=by
 rw [fZ,jX,DM];have h1:=bU (dQ hy) (show (0:Int)≤x.natAbs by omega);have h2:=Int.mul_lt_mul_of_pos_right hx (yQ k);omega
def Wo (p:PV) (zs:List Int):Nat→Option (List Int)
 | 0=>some zs
 | k+1=>(Wo p zs k).bind fun rs=>(Af (p.code[((k:Nat):Int).toNat]?.getD default) rs).map fun x=>rs.set (p.code[((k:Nat):Int).toNat]?.getD default).to.toNat x
theorem Below.mono {m k:Nat} {zs:List Int} (h:Below m zs) (hk:m≤k):Below k zs:=fun z hz=>pA (h z hz) (Tr hk)
section
attribute [local irreducible] sQ pb uJ tT p2 cst Af
end
theorem Hx {m k:Nat} {xs:List Int} {f:Int→Int} (h:∀ x:Int,(x.natAbs:Int)<pb m→((f x).natAbs:Int)<pb k) (hx:Below m xs):Below k (xs.map f):=fun z hz=>by
 obtain ⟨x,h1,rfl⟩:=dL.1 hz;exact h x (hx x h1)
theorem Pu {m k:Nat} {xs ys:List Int} {f:Int→Int→Int} (h:∀ x y:Int,(x.natAbs:Int)<pb m→(y.natAbs:Int)<pb m→((f x y).natAbs:Int)<pb k) (hx:Below m xs) (hy:Below m ys):Below k (List.zipWith f xs ys):=fun z hz=>by
 rw [fY] at hz;obtain ⟨n,hn,rfl⟩:=hz;rw [List.getElem_zipWith];exact h _ _ (hx _ (bT _)) (hy _ (bT _))
theorem JE {i:Sl.Instr} {rs:List (List Int)} {m N:Nat} {x:List Int} (he:C5 m N rs) (ha:0≤i.a∧i.a<rs.length) (hb:i.op=3∨i.op=4→0≤i.b∧i.b<rs.length)
 (hz:i.op=5∨i.op=7→((cst i).natAbs:Int)<pb 3) (h:xQ i rs=some x):x.length=N∧Below (m+3) x:=by
 obtain ⟨haL,haB⟩:=he.at (k:=i.a.toNat) sN;have hp:=yQ m;have h4:4294967296*pb m≤pb (m+3):=by rw [←xY];exact Tr sN
 unfold xQ at h;simp only at h;split at h
 · cases h;exact ⟨by rw [aN];exact haL,Hx (fun x hx=>by omega) haB⟩
 split at h
 · rename_i h3;obtain ⟨hbL,hbB⟩:=he.at (k:=i.b.toNat) (by have:=hb (.inl h3);omega);cases h;exact ⟨by rw [iU,haL,hbL,qE],Pu (fun x y hx hy=>by omega) haB hbB⟩
 split at h
 · rename_i h4;obtain ⟨hbL,hbB⟩:=he.at (k:=i.b.toNat) (by have:=hb (.inr h4);omega);cases h;exact ⟨by rw [iU,haL,hbL,qE],Pu (fun x y hx hy=>by omega) haB hbB⟩
 split at h
 · rename_i h57;cases h;exact ⟨by rw [aN];exact haL,Hx (fun x hx=>by rw [Nat.add_comm];exact JD (hz h57) hx) haB⟩
 split at h
 · split at h
   · cases h;refine ⟨by rw [aN];exact haL,Hx (fun x hx=>?_) haB⟩;have h1:(x / cst i).natAbs≤x.natAbs:=Int.natAbs_ediv_le_natAbs _ _;omega
   cases h
 cases h;exact ⟨haL,haB.mono sN⟩
theorem C5.mono {m k N:Nat} {rs:List (List Int)} (h:C5 m N rs) (hk:m≤k):C5 k N rs:=fun zs hz=>⟨(h zs hz).1,(h zs hz).2.mono hk⟩
theorem JF {m N:Nat} {rs:List (List Int)} {x:List Int} (h:C5 m N rs) (hx:x.length=N∧Below m x) (k:Nat):C5 m N (rs.set k x):=fun zs hz=>by
 rcases fC hz with h1 | h1
 · exact h zs h1
 rw [h1];exact hx
theorem C0.set {G:A3} {r:List SV} {rs:List (List Int)} (h:C0 G r rs) {s:SV} {x:List Int} (hs:D4 G s x) (k:Nat):C0 G (r.set k s) (rs.set k x):=by
 refine ⟨by rw [aG,aG];exact h.1,fun i hi=>?_⟩;rw [aG] at hi;have hrl:=h.1;rw [cF,cF];by_cases e:k=i
 · subst e;rw [aF rfl,aF rfl,aF hi,aF (by omega)];exact hs
 rw [aD e,aD e];exact h.2 i hi
section
attribute [local irreducible] sQ pb uJ tT p2 cst xQ
theorem iw (G:A3) (k:Int) (s:SV):Does Tryz.prog 205 [.int .i64 k,.slice s.a s.n s.c] G [] (fun v G' Ho=>v=.bool true∧G'=G∧Ho=[]):=by
 refine D0 Tryz.func205 Tryz.ntmps205 fun w=>?_;refine bE 11 [] ?_;refine cV ?_;exact ⟨U,U,U⟩
def OI (p:PV) (gs:List (List Int)) (m N:Nat) (o:Option Addr) (d:Nat) (r:List SV) (j:List Value) (v:Value) (G':A3) (Ho:Hp):Prop:=
 ∃ (r':List SV) (k:Int),v=.int .i64 k∧Ho=[(0,o.map (·.block),Row 68 r' j)]∧r'.length=r.length∧A4 o d r' j∧
  ((∃ rs',wQ p gs p.code.length=some rs'∧k=-1∧C0 G' r' rs'∧C5 (m+3*p.code.length) N rs')∨(tE p gs=none∧0≤k))
theorem ix (G:A3) (p:PV) (gs:List (List Int)) (ac ao:Option Addr) (cc co:Nat) (o:Option Addr) (d:Nat) (r:List SV) (j:List Value) (m N:Nat) (hc:Arr G ac p.code) (hob:A4 o d r j) (hg:C0 G r (vE p gs)) (hm:C5 m N (vE p gs)) (hN:N≤1048576)
 (hmm:m+3*p.code.length≤268435456) (hlen:p.code.length≤16384) (hr:(r.length:Int)=p.regs) (hrr:r.length≤128) (hmay:∀ i∈p.code,tB i p.regs=true) :
 Does Tryz.prog 203 [OE,.agg (H8 p ac cc ao co),.slice o r.length d,.func (.func 205) #[] #[]] G [(0,o.map (·.block),Row 68 r j)] (OI p gs m N o d r j):=by
 refine D0 Tryz.func203 Tryz.ntmps203 fun w=>?_;refine aI 2 [] ?_;refine dV 1 fun b1=>?_;refine dV 2 fun b2=>?_;refine bB 3 [] ?_;refine mP ?_;refine bI 13 [2] ?_;refine Wc.lg (ι:=Nat×A3×List SV×List (List Int)) (fun (i,Gx,r2,rs)=>([(16,.int .i64 (i:Int)),(2,.slice o r2.length d),(15,.int .i64 (↑p.code.length:Int)),(14,.slice ac p.code.length cc),(4,.pointer (some ⟨b1,0,none⟩)),(3,.func (Go.Fn.func 205) #[] #[])],[(0,o.map (·.block),Row 68 r2 j),(2,some b2,.cells (H8 p ac cc ao co) 26),(1,some b1,.cells #[.func (Go.Fn.func 236) #[] #[],.func (Go.Fn.func 237) #[] #[],.func (Go.Fn.func 239) #[] #[],.func (Go.Fn.func 241) #[] #[],.func (Go.Fn.func 242) #[] #[]] 281)])) (fun (i,Gx,r2,rs)=>Gx) (fun (i,Gx,r2,rs)=>i≤p.code.length∧G.le Gx∧r2.length=r.length∧A4 o d r2 j∧C0 Gx r2 rs∧C5 (m+3*i) N rs∧wQ p gs i=some rs) (fun (i,Gx,r2,rs)=>p.code.length - i) ((0,G,r,vE p gs)) (⟨aM _,bN _,U,hob,hg,hm,U⟩) fun ⟨i,Gx,r2,rs⟩=>fun hk=>?_;obtain ⟨hi0,hgx,hr2,ho2,hg2,hb2,hrun⟩:=hk;replace hc:=hc.up hgx;have hrl:=hg2.1;rcases aK i p.code.length with hic | hic
 · have hmem:(p.code[(i:Int).toNat]?.getD default)∈p.code:=by
    rw [aE,aA hic];exact bT hic
   have hmi:=hmay _ hmem;obtain ⟨m1,m2,m3,m4,m5,m6,m7,m8⟩:=tK hmi;have m9:(p.code[(i:Int).toNat]?.getD default).a<rs.length:=sN;have hbz:(p.code[(i:Int).toNat]?.getD default).op=3∨(p.code[(i:Int).toNat]?.getD default).op=4∨(p.code[(i:Int).toNat]?.getD default).b=0:=by
    unfold tB at hmi;rw [aU,aU,aT] at hmi;exact hmi.1.1.2.2.2.2
   have mb:0≤(p.code[(i:Int).toNat]?.getD default).b∧(p.code[(i:Int).toNat]?.getD default).b<r2.length:=by
    rcases hbz with h | h | h
    · have:=m4 (.inl h);omega
    · have:=m4 (.inr h);omega
    omega
   have mt:0≤(p.code[(i:Int).toNat]?.getD default).to∧(p.code[(i:Int).toNat]?.getD default).to<r2.length:=sN;have ma:0≤(p.code[(i:Int).toNat]?.getD default).a∧(p.code[(i:Int).toNat]?.getD default).a<r2.length:=sN;have hmi9:m+3*i≤268435456:=sN;have hk3:(p.code[(i:Int).toNat]?.getD default).op≠1→(p.code[(i:Int).toNat]?.getD default).op≠2→(p.code[(i:Int).toNat]?.getD default).op≠3→(p.code[(i:Int).toNat]?.getD default).op≠4→cst (p.code[(i:Int).toNat]?.getD default)≠0∧((cst (p.code[(i:Int).toNat]?.getD default)).natAbs:Int)<pb 3:=fun a b c d=>⟨(m6 a b c d).1,pA (m6 a b c d).2 TL⟩
   refine aI 14 [1] ?_;refine fR (α:=Sl.Instr) T.sl23 ?_;refine lL T.agg91 ?_;refine aO 3 U T.zero91 fun b3=>?_;refine aL 9 [3,1,3] ?_;refine bV 0 U (iv _ (p.code[(i:Int).toNat]?.getD default) o d r2 j rs (m+3*i) N ho2 hg2 hb2 hN hmi9 m1 ma mb hk3 m7 m8) fun v1 G1 Ho1 hle1 hp=>?_;obtain ⟨x,rfl,hx,rfl⟩:=hp;replace hc:=hc.up hle1;replace hg2:=hg2.up hle1;by_cases hd:xQ (p.code[((i:Nat):Int).toNat]?.getD default) rs=none
   · have hd2:¬xQ (p.code[(i:Int).toNat]?.getD default) rs≠none:=fun h=>h hd;refine aL 11 [] ?_;refine aQ (fP U) ?_;refine aS 16 [1] ?_;refine jK ?_;refine nP [0] ?_;exact ⟨r2,(i:Int),U,U,hr2,ho2,.inr ⟨DU hrun hd hic,by omega⟩⟩
   obtain ⟨z,hz⟩:=Option.ne_none_iff_exists'.1 hd;have hxz:=hx z hz;have hok:xQ (p.code[(i:Int).toNat]?.getD default) rs≠none:=hd;refine aL 11 [] ?_;refine aQ (fP U) ?_;refine bB 2 [] ?_;refine cW (fun hc1=>?_) fun hc1=>?_;refine bE 13 [] ?_;refine jK ?_;refine nP [0] ?_;rotate_left;refine aI 8 [3] ?_;refine iE (α:=SV) T.sl237 ?_;refine dC (z:=_) 0 T.size68 U U U sO sN U fun ho1=>?_;refine aL 7 [] ?_;refine fE (fst:=[]) (cap:=[]) 4 U T.fn205 U U (iw _ _ _) (sS F9) fun v2 G2 Ho2 hle2 hp=>?_;obtain ⟨rfl,rfl,rfl⟩:=hp;refine aS 11 [0] ?_;rotate_left
   · exact absurd hok hc1
   refine cJ 2 U (show _=Value.slice o (r2.set (p.code[(i:Int).toNat]?.getD default).to.toNat x).length d by rw [aG]) ?_;refine cK ((i+1,_,r2.set (p.code[(i:Int).toNat]?.getD default).to.toNat x,rs.set (p.code[(i:Int).toNat]?.getD default).to.toNat z)) ?_ ?_
   · refine ⟨by omega,aP hgx hle1,by rw [aG];exact hr2,by assumption,hg2.set hxz _,?_,Dk (x:=rs) hrun hz⟩;have hs:=JE (i:=p.code[(i:Int).toNat]?.getD default) hb2 (by rw [←hrl];exact ma) (fun _=>by rw [←hrl];exact mb) (fun h=>(hk3 (fun e=>by rw [e] at h;omega) (fun e=>by rw [e] at h;omega) (fun e=>by rw [e] at h;omega) (fun e=>by rw [e] at h;omega)).2) hz;rw [show m+3*(i+1)=m+3*i+3 by omega];exact JF (hb2.mono sN) hs _
   show p.code.length - (i+1)<p.code.length - i;omega
 have hii:i=p.code.length:=sN;subst hii;refine bE 18 [0] ?_;refine jK ?_;refine nP [0] ?_;exact ⟨r2,-1,U,U,hr2,ho2,.inl ⟨rs,hrun,U,hg2,hb2⟩⟩
end
theorem Nq (G:A3) (p:PV) (ac ao:Option Addr) (cc co:Nat) (hc:Arr G ac p.code) (ho:Arr G ao p.outs) (h1:p.code.length≤1099511627776) (h2:p.outs.length≤1099511627776) (hR:sP p=true) :
 Does Tryz.prog 56 [.agg (H8 p ac cc ao co)] G [] (fun v G' Ho=>v=.tuple #[.int .i64 (uK p).1,.int .i64 0]∧G'=G∧Ho=[]):=by
 have hf:(uK p).2=false:=by unfold sP at hR;simpa using hR
 have h:=ZM G p ac ao cc co hc ho h1 h2;rw [hf] at h;exact h
theorem JG {x y:Int} (h:uJ x y=0):x=y:=by
 unfold uJ at h;split at h
 · omega
 split at h <;> omega
theorem JH {za zb:List Int} {i:Nat} (h:za.take i=zb.take i) (h1:i<za.length) (h2:i<zb.length) (he:za[i]?.getD 0=zb[i]?.getD 0):za.take (i+1)=zb.take (i+1):=by
 rw [aA h1,aA h2] at he;rw [cL,cL,h,aA h1,aA h2];have e:za[i]=zb[i]:=he;rw [e]
def vR (p:PV) (zs:List Int):List Int:=zs++List.replicate (p.regs.toNat - zs.length) 0
def yT (p:PV) (rs:List Int):List Int:=p.outs.map fun r=>rs[r.toNat]?.getD 0
def Dz (p:PV) (zs:List Int):Option (List Int):=(Wo p (vR p zs) p.code.length).map (yT p)
theorem Zy (m n:Nat):Below m (List.replicate n 0):=fun z hz=>by rw [jB hz];exact yQ m
section
attribute [local irreducible] sQ pb uJ tT p2 cst Af uK
theorem iy (G:A3) (p:PV) (ac ao:Option Addr) (cc co:Nat) (hc:Arr G ac p.code) (ho:Arr G ao p.outs) (h1:p.code.length≤1099511627776) (h2:p.outs.length≤1099511627776) (hR:sP p=true) (n:Int) (hn:n=p.ins) :
 Does Tryz.prog 129 [.agg (H8 p ac cc ao co),.int .i64 n] G [] (fun v G' Ho=>v=.int .i64 0∧G'=G∧Ho=[]):=by
 refine D0 Tryz.func129 Tryz.ntmps129 fun w=>?_;refine aI 2 [] ?_;refine dV 0 fun b1=>?_;refine aL 6 [0] ?_;refine cI U (Nq _ p _ _ _ _ hc ho h1 h2 hR) ?_;refine aS 36 [0,0,0] ?_;refine cV ?_;exact ⟨U,U,U⟩
theorem iz (G:A3) (a b:Option Addr) (ca cb:Nat) (la lb:List IV) (za zb:List Int) (ha:Arr G a la) (hb:Arr G b lb) (hA:B6 G la za) (hB:B6 G lb zb) (h1:la.length≤1048576) (h2:lb.length≤1048576) (m:Nat) (hm:m≤268435456) (ba:Below m za) (bb:Below m zb) :
 Does Tryz.prog 209 [.slice a la.length ca,.slice b lb.length cb] G [] (fun v G' Ho=>∃ k:Int,v=.int .i64 k∧(k=0↔za=zb)∧G'=G∧Ho=[]):=by
 have e1:=hA.1;have e2:=hB.1;refine D0 Tryz.func209 Tryz.ntmps209 fun w=>?_;by_cases hn:la.length=lb.length
 · refine bI 41 [0,0] ?_;refine gX (ι:=Nat) (fun i=>([(22,.int .i64 (i:Int)),(21,.int .i64 (la.length:Int)),(20,.slice a (List.length la) ca),(1,.slice b (List.length lb) cb)],[])) (fun i=>i≤la.length∧za.take i=zb.take i) (fun i=>la.length - i) (0) (⟨aM _,U⟩) fun i=>fun hk=>?_;obtain ⟨hi,hz⟩:=hk;rcases aK i la.length with hia | hia
   · have hx9:=hA.at (k:=(i:Int)) sN;have hy9:=hB.at (k:=(i:Int)) sN;have hx5:=bO (jI hx9 (ba.at _)) (bO hm (show 268435456≤1073741824 by decide));have hy5:=bO (jI hy9 (bb.at _)) (bO hm (show 268435456≤1073741824 by decide));refine aI 14 [1] ?_;refine fR (α:=IV) T.sl68 ?_;refine lL T.agg125 ?_;refine aO 0 U T.zero125 fun b1=>?_;refine bB 5 [0] ?_;refine dE [0] [] T.mixed [[0,0],[1],[2]] ?_;refine mL (α:=IV) 3 T.sl68 ?_;refine rL 4 T.agg125 ?_;refine bQ 5 ?_;refine cI U (aq _ _ _ _ _ hx9 hy9 hx5 hy5) ?_;refine bC ?_;refine dK [[6]] ?_;refine dG ?_;refine lS 7 [] ?_;refine cW (fun hc1=>?_) fun hc1=>?_;refine bE 12 [] ?_;refine cV ?_;rotate_left;refine bE 7 [] ?_;rotate_left
     · exact ⟨_,U,⟨fun h=>absurd h hc1,fun h=>absurd (Wf (by rw [h])) hc1⟩,U,U⟩
     refine cK (i+1) ?_ ?_
     · exact ⟨by omega,JH hz sN sN (JG (fN.1 hc1))⟩
     omega
   have hii:i=la.length:=sN;subst hii;refine bE 18 [0] ?_;refine cV ?_;refine ⟨0,U,⟨fun _=>?_,fun _=>rfl⟩,U,U⟩;rw [fH sN,fH sN] at hz;exact hz
 have hne:za≠zb:=fun h=>hn (by rw [e1,e2,h]);by_cases hlt:la.length<lb.length
 · refine bE 26 [1] ?_;refine cV ?_;exact ⟨-1,U,⟨fun h=>absurd h sY,fun h=>absurd h hne⟩,U,U⟩
 refine bE 37 [0,1] ?_;refine cV ?_;exact ⟨1,U,⟨fun h=>absurd h sY,fun h=>absurd h hne⟩,U,U⟩
theorem ja (G:A3) (a b:Option Addr) (ca cb:Nat) (la lb:List IV) (za zb:List Int) (ha:Arr G a la) (hb:Arr G b lb) (hA:B6 G la za) (hB:B6 G lb zb) (h1:la.length≤1048576) (h2:lb.length≤1048576) (m:Nat) (hm:m≤268435456) (ba:Below m za) (bb:Below m zb) :
 Does Tryz.prog 160 [.slice a la.length ca,.slice b lb.length cb] G [] (fun v G' Ho=>v=.bool (decide (za=zb))∧G'=G∧Ho=[]):=by
 refine D0 Tryz.func160 Tryz.ntmps160 fun w=>?_;refine aI 9 [] ?_;refine bV 0 U (iz G _ _ _ _ _ _ za zb ha hb hA hB h1 h2 m hm ba bb) fun v1 G1 Ho1 hle1 hp=>?_;obtain ⟨k1,rfl,hk1,rfl,rfl⟩:=hp;refine aS 5 [] ?_;refine cV ?_;exact ⟨by rw [sC.2 hk1],U,U⟩
end
theorem Uc {G:A3} {r:List SV} {rs:List (List Int)} {k:Nat} {s:SV} (h:∀ q:Nat,q<k→D4 G (r[q]?.getD default) (rs[q]?.getD [])) (hk:k<r.length) (hs:D4 G s (rs[k]?.getD [])):∀ q:Nat,q<k+1→D4 G ((r.set k s)[q]?.getD default) (rs[q]?.getD []):=fun q hq=>by
 rw [cF];by_cases he:k=q
 · subst he;rw [aF rfl,aF hk];exact hs
 rw [aD he];exact h q sN
theorem Zz {G G':A3} {r:List SV} {rs:List (List Int)} {k:Nat} (h:∀ q:Nat,q<k→D4 G (r[q]?.getD default) (rs[q]?.getD [])) (hl:G.le G'):∀ q:Nat,q<k→D4 G' (r[q]?.getD default) (rs[q]?.getD []):=fun q hq=>(h q hq).up hl
section
attribute [local irreducible] sQ pb uJ tT p2 cst xQ
theorem jb (G:A3) (p:PV) (ac ao ga:Option Addr) (cc co gc:Nat) (gl:List SV) (gs:List (List Int)) (m N:Nat) (hc:Arr G ac p.code) (ho:Arr G ao p.outs) (hga:Arr G ga gl) (hgg:C0 G gl gs) (hev:C5 m N gs) (hN:N≤4096) (hR:sP p=true) (hgi:(gl.length:Int)=p.ins) :
 Does Tryz.prog 202 [.agg (H8 p ac cc ao co),.slice ga gl.length gc] G [] (fun v G' Ho=>∃ b r,v=.tuple #[.slice (some ⟨b,0,none⟩) r.length p.regs.toNat,.int .i64 0]∧C0 G' r (vE p gs)∧r.length=p.regs.toNat∧Ho=[(1,some b,Row 68 r [])]):=by
 obtain ⟨f1,f2,f3,f4,f5,f6,f7,f8⟩:=sT hR;have h1:p.code.length≤1099511627776:=sN;have h2:p.outs.length≤1099511627776:=sN;have hgl:=hgg.1;obtain ⟨R,hRR⟩:∃ R:Nat,p.regs=(R:Int):=⟨p.regs.toNat,by omega⟩
 refine D0 Tryz.func202 Tryz.ntmps202 fun w=>?_;have hM:p.regs.toNat=R:=sN;have hrl0:=vN p gs;rw [hM] at hrl0;have hgl0:0<gl.length:=sN;obtain ⟨h0L,h0B⟩:=hev.at (k:=0) sN;obtain ⟨l0,e1,e2,e3,e4⟩:=hgg.2 0 sN;have h0n:(gl[(0:Int).toNat]?.getD default).n=N:=by
  show (gl[0]?.getD default).n=N;rw [←e1,e4.1,h0L]
 refine aI 2 [] ?_;refine dV 0 fun b1=>?_;refine aL 10 [0] ?_;refine cI U (iy _ p _ _ _ _ sO sO h1 h2 hR _ hgi) ?_;refine aL 15 [0] ?_;refine fR (α:=SV) T.sl237 ?_;refine cD U (bW T.one68 U (gB sO sN 0 U U)) ?_;refine aL 8 [0] ?_;refine gG (α:=SV) 1 U T.sl237 T.el68 U U sN sN fun b2=>?_;refine bB 12 [] ?_;rw [hM];have hown:∀ r:List SV,r.length=R→A4 (some ⟨b2,0,none⟩) R r []:=fun r hr=>.inr ⟨b2,U,by rw [hr];rfl,by omega,by simp only [maxLen];omega⟩;refine iV 8 U (show _=Value.slice (some ⟨b2,0,none⟩) (List.replicate R (default:SV)).length R by rw [aJ]) ?_;refine iV 7 U (show _=Value.int .i64 (N:Int) by rw [h0n]) ?_;refine iV 25 U (show _=Value.int .i64 (R:Int) by rw [aJ]) ?_;refine Wc.lg (ι:=Nat×A3×List SV) (fun (k,Gx,r)=>([(26,.int .i64 (k:Int)),(8,.slice (some ⟨b2,0,none⟩) r.length R),(25,.int .i64 (↑R:Int)),(7,.int .i64 (↑N:Int)),(1,.slice ga (List.length gl) gc)],[(1,some b2,Row 68 r []),(0,some b1,.cells (H8 p ac cc ao co) 26)])) (fun (k,Gx,r)=>Gx) (fun (k,Gx,r)=>k≤R∧G.le Gx∧r.length=R∧∀ q:Nat,q<k→D4 Gx (r[q]?.getD default) ((vE p gs)[q]?.getD [])) (fun (k,Gx,r)=>R - k) ((0,G,List.replicate R (default:SV))) (⟨aM _,bN _,aJ,fun q hq=>by omega⟩) fun ⟨k,Gx,r⟩=>fun hk=>?_;obtain ⟨hk0,hgx,hrR,hrow⟩:=hk;replace hga:=hga.up hgx;replace hgg:=hgg.up hgx;have hor:=hown r hrR;rcases aK k R with hkR | hkR
 · by_cases hkg:k<gl.length
   · have hkn:(gl[(k:Int).toNat]?.getD default).n=N:=by
      obtain ⟨l1,a1,a2,a3,a4⟩:=hgg.2 k hkg;rw [aE,←a1,a4.1];exact (hev.at (k:=k) sN).1
     refine aI 22 [1] ?_;refine gG (α:=IV) 2 U T.sl68 T.el125 U U sN sN fun b3=>?_;refine iE (α:=SV) T.sl237 ?_;refine fO 32 U (show _=Value.slice (some ⟨b3,0,none⟩) N N by rw [aJ];rfl) ?_;refine oW 2 (Row 125 (List.replicate N (default:IV)) []) U U ?_;refine dC (z:=(⟨some ⟨b3,0,none⟩,N,N⟩:SV)) (m:=(k:Int)) 1 T.size68 U U U hor sN U fun ho1=>?_;have hrk:((r.set k (⟨some ⟨b3,0,none⟩,N,N⟩:SV))[k]?.getD default)=⟨some ⟨b3,0,none⟩,N,N⟩:=by rw [cF,aF rfl,aF (by omega)];rfl
     have ho3:A4 (some ⟨b3,0,none⟩) N (List.replicate N (default:IV)) []:=.inr ⟨b3,U,by rw [aJ];rfl,by rw [aJ];exact aH _,by simp only [maxLen];omega⟩;rw [aE] at ho1 ⊢;obtain ⟨r9,hr9⟩:∃ r9,r9=r.set k (⟨some ⟨b3,0,none⟩,N,N⟩:SV):=⟨_,U⟩
     have hr9l:r9.length=R:=by rw [hr9,aG];exact hrR
     rw [←hr9] at ho1 hrk ⊢;refine aL 16 [1] ?_;refine fR (α:=SV) T.sl237 ?_;refine jC 0 T.one68 ?_;refine aC 4 [] ?_;refine mZ 45 ?_;refine bB 10 [0] ?_;refine dE [0,2,1] [(1,8),(2,8)] T.mixed [[0],[1]] ?_;refine fJ (α:=SV) 2 T.sl237 ?_;refine dW 3 [0,1] U (fF 1 0 T.one68 U U sO sN U U) ?_;refine dK [[4],[5]] ?_;refine mL (α:=SV) 6 T.sl237 ?_;refine rC 7 [0] 0 T.one68 ?_;refine bQ 8 ?_;obtain ⟨l1,a1,a2,a3,a4⟩:=hgg.2 k hkg;have hl1:l1.length=N:=by rw [a1];exact hkn
     refine fO 52 U (show _=Value.slice (some ⟨b3,0,none⟩) (List.replicate N (default:IV)).length N by rw [aE,hrk,aJ]) ?_;refine fO 56 U (show _=Value.slice (gl[k]?.getD default).a l1.length (gl[k]?.getD default).c by rw [a1];rfl) ?_;refine Pj (α:=IV) 2 U T.sl68 U U U (lM a3) (by rw [hl1,aJ];exact aH _) ?_;refine oW 2 (Row 125 l1 []) U (by rw [hl1,List.drop_replicate,iH,List.replicate_zero,aY]) ?_;have ho4:A4 (some ⟨b3,0,none⟩) N l1 []:=.inr ⟨b3,U,by rw [hl1];rfl,by rw [hl1];exact aH _,by simp only [maxLen];omega⟩;refine fD ?_;refine eE 6 [] ?_;refine cX 2 U ho4 fun G1 hle1 hA1=>?_;refine cJ 8 U (show _=Value.slice (some ⟨b2,0,none⟩) r9.length R by rw [hr9l,hrR]) ?_;refine cK ((k+1,G1,r9)) ?_ ?_
     · have hs9:D4 G1 ⟨some ⟨b3,0,none⟩,N,N⟩ ((vE p gs)[k]?.getD []):=by
        rw [Ew sN,aF (by omega)];exact ⟨l1,hl1,aH _,hA1,a4.up hle1⟩
       refine ⟨by omega,aP hgx hle1,hr9l,fun q hq=>?_⟩;rw [hr9];exact Uc (Zz hrow hle1) sN hs9 q hq
     show R - (k+1)<R - k;omega
   refine aI 22 [1] ?_;refine gG (α:=IV) 2 U T.sl68 T.el125 U U sN sN fun b3=>?_;refine iE (α:=SV) T.sl237 ?_;refine fO 32 U (show _=Value.slice (some ⟨b3,0,none⟩) N N by rw [aJ];rfl) ?_;refine oW 2 (Row 125 (List.replicate N (default:IV)) []) U U ?_;refine dC (z:=(⟨some ⟨b3,0,none⟩,N,N⟩:SV)) (m:=(k:Int)) 1 T.size68 U U U hor sN U fun ho1=>?_;have hrk:((r.set k (⟨some ⟨b3,0,none⟩,N,N⟩:SV))[k]?.getD default)=⟨some ⟨b3,0,none⟩,N,N⟩:=by rw [cF,aF rfl,aF (by omega)];rfl
   have ho3:A4 (some ⟨b3,0,none⟩) N (List.replicate N (default:IV)) []:=.inr ⟨b3,U,by rw [aJ];rfl,by rw [aJ];exact aH _,by simp only [maxLen];omega⟩;rw [aE] at ho1 ⊢;obtain ⟨r9,hr9⟩:∃ r9,r9=r.set k (⟨some ⟨b3,0,none⟩,N,N⟩:SV):=⟨_,U⟩
   have hr9l:r9.length=R:=by rw [hr9,aG];exact hrR
   rw [←hr9] at ho1 hrk ⊢;refine aS 18 [0] ?_;refine cX 2 U ho3 fun G1 hle1 hA1=>?_;refine cJ 8 U (show _=Value.slice (some ⟨b2,0,none⟩) r9.length R by rw [hr9l,hrR]) ?_;refine cK ((k+1,G1,r9)) ?_ ?_
   · have hs9:D4 G1 ⟨some ⟨b3,0,none⟩,N,N⟩ ((vE p gs)[k]?.getD []):=by
      rw [Ew sN,aD (by omega),h0L];exact ⟨_,aJ,aH _,hA1,rO _ _⟩
     refine ⟨by omega,aP hgx hle1,hr9l,fun q hq=>?_⟩;rw [hr9];exact Uc (Zz hrow hle1) sN hs9 q hq
   show R - (k+1)<R - k;omega
 refine bE 20 [0] ?_;refine gZ (.inr U) (Ho:=[(1,some b2,Row 68 r [])]) U (.tmp U) (.tmp U) ⟨U,F9⟩ ?_;exact ⟨b2,r,U,⟨by omega,fun i hi=>hrow i sN⟩,hrR,U⟩
end
theorem JI {G:A3} {q:List SV} {os:List (List Int)} {i:Nat} {s:SV} (h:∀ t:Nat,t<i→D4 G (q[t]?.getD default) (os[t]?.getD [])) (hq:q.length=i) (hs:D4 G s (os[i]?.getD [])):∀ t:Nat,t<i+1→D4 G ((q++[s])[t]?.getD default) (os[t]?.getD []):=fun t ht=>by
 rcases aK t i with h1 | h1
 · rw [bF sN];exact h t h1
 have e:t=i:=sN;subst e;rw [cB sN,hq,iH];exact hs
theorem TM {p:PV} {rs:List (List Int)} {i:Nat} (hi:i<p.outs.length):(xD p rs)[i]?.getD []=rs[(p.outs[((i:Nat):Int).toNat]?.getD default).toNat]?.getD []:=by
 unfold xD;rw [bM,aE,aA hi];rfl
section
attribute [local irreducible] sQ pb uJ tT p2 cst xQ
theorem jc (G:A3) (a:Option Addr) (c:Nat) (l:List IV) (ha:Arr G a l) (hl:l.length≤1048576) :
 Does Tryz.prog 206 [.slice a l.length c] G [] (fun v G' Ho=>∃ s d,v=.slice s l.length d∧Arr G' s l∧l.length≤d∧Ho=[]):=by
 by_cases hne:a=none
 · have h0:l=[]:=by
    rcases ha.2 with h | ⟨b,o,h,_⟩
    · exact dO h
    rw [hne] at h;cases h
   subst hne;subst h0;have hyes:(none:Option Addr)=none:=rfl;refine D0 Tryz.func206 Tryz.ntmps206 fun w=>?_;refine aI 9 [] ?_;refine aQ (jL T.sl68 U U) ?_;refine aS 10 [1] ?_;refine cV ?_;exact ⟨none,0,U,kC _,aH _,U⟩
 refine D0 Tryz.func206 Tryz.ntmps206 fun w=>?_;refine aI 9 [] ?_;refine aQ (jL T.sl68 U U) ?_;refine aL 7 [0] ?_;refine rG 0 U T.sl68 fun b1=>?_;refine aC 1 [] ?_;refine oW 0 (Row 125 ([]:List IV) []) U U ?_;refine eH (α:=IV) (xs:=[]) (ys:=l) (junk:=[]) 0 U T.sl68 T.el125 U U U (.inr ⟨b1,U,U,aH _,aM _⟩) (lM ha) (by rw [cE];omega) KU fun a1 c1 junk1 ho1=>?_;rw [fV] at ho1 ⊢;have hc1:=ho1.le;refine aS 4 [] ?_;refine cX 0 U ho1 fun G1 hle1 hA1=>?_;refine cV ?_;exact ⟨a1,c1,U,hA1,hc1,U⟩
def OJ (p:PV) (gs:List (List Int)) (m N:Nat) (v:Value) (G':A3) (Ho:Hp):Prop:=
 Ho=[]∧((∃ os b r c',tE p gs=some os∧v=.tuple #[.slice b (List.length r) c',.int .i64 0,.int .i64 0]∧Arr G' b r∧List.length r≤c'∧C0 G' r os∧C5 (m+3*p.code.length) N os)∨(tE p gs=none∧∃ k,v=.tuple #[.slice none 0 0,.int .i64 k,.int .i64 20]))
theorem bx (G:A3) (p:PV) (ac ao ga:Option Addr) (cc co gc:Nat) (gl:List SV) (gs:List (List Int)) (m N:Nat) (hc:Arr G ac p.code) (ho:Arr G ao p.outs) (hga:Arr G ga gl) (hgg:C0 G gl gs) (hev:C5 m N gs) (hmm:m≤1048576) (hN:N≤4096) (hR:sP p=true) (hgi:(gl.length:Int)=p.ins) :
 Does Tryz.prog 155 [.agg (H8 p ac cc ao co),.slice ga gl.length gc] G [] (OJ p gs m N):=by
 obtain ⟨f1,f2,f3,f4,f5,f6,f7,f8⟩:=sT hR;obtain ⟨R,hRR⟩:∃ R:Nat,p.regs=(R:Int):=⟨p.regs.toNat,by omega⟩
 refine D0 Tryz.func155 Tryz.ntmps155 fun w=>?_;refine eJ 0 (Row 68 ([]:List SV) []) ?_;refine aI 2 [] ?_;refine dV 1 fun b1=>?_;refine aL 9 [1] ?_;refine bV 2 U (jb _ p ac ao ga cc co gc gl gs m N hc ho hga hgg hev hN hR hgi) fun v1 G1 Ho1 hle1 hp=>?_;obtain ⟨b9,r0,rfl,hg0,hr0,rfl⟩:=hp;replace hc:=hc.up hle1;replace ho:=ho.up hle1;have hrl0:=vN p gs;have hm0:C5 m N (vE p gs):=fun zs hz=>by
  unfold vE at hz;obtain ⟨k,hk,rfl⟩:=dL.1 hz;have hN9:=(hev.at (k:=0) (by have:=hgg.1;omega)).1;split
  · exact hev.at (k:=k) sN
  rw [hN9];exact ⟨aJ,Zy m _⟩
 refine bB 19 [0] ?_;refine dE [0,1,3] [(3,3),(1,3),(0,3)] T.mixed [[1,1],[2]] ?_;refine bQ 0 ?_;refine cI U (iu _) ?_;refine cS 3 ?_;refine bV 3 U (ix _ p gs ac ao cc co (some ⟨b9,0,none⟩) p.regs.toNat r0 [] m N hc (.inr ⟨b9,U,by rw [hr0];rfl,by omega,by simp only [maxLen];omega⟩) hg0 hm0 sN sN f4 sN sN f8) fun v9 G9 Ho9 hle9 hp=>?_;obtain ⟨r9,k9,rfl,rfl,hr9,ho9,hcase⟩:=hp;replace ho:=ho.up hle9;rcases hcase with ⟨rs,hrs,rfl,hg9,he9⟩ | ⟨hno,hk9⟩
 · have hrs1:=hg9.1;have lr9:r9.length=R:=sN;have hfol:tE p gs=some (xD p rs):=by unfold tE;rw [hrs];rfl
   refine bC ?_;refine dK [[4]] ?_;refine dG ?_;refine lS 25 [0,1] ?_;refine iV 7 U (show _=Value.slice (some ⟨b9,0,none⟩) r9.length p.regs.toNat by rw [hr9]) ?_;refine jZ (ι:=Nat×A3×List SV×(Option Addr×Nat×List Value)) (fun (i,Gx,q,(o,d,j))=>([(32,.int .i64 (i:Int)),(10,.slice o q.length d),(7,.slice (some (Addr.mk b9 0 none)) (List.length r9) (Int.toNat p.regs)),(31,.int .i64 (↑p.outs.length:Int)),(30,.slice ao p.outs.length co),(6,.int .i64 0),(5,.int .i64 0),(4,.slice none 0 0)],[(0,o.map (·.block),Row 68 q j),(3,some b9,Row 68 r9 []),(1,some b1,.cells (H8 p ac cc ao co) 26)])) (fun (i,Gx,q,(o,d,j))=>Gx) (fun (i,Gx,q,(o,d,j))=>i≤p.outs.length∧G9.le Gx∧q.length=i∧(∀ t:Nat,t<i→D4 Gx (q[t]?.getD default) ((xD p rs)[t]?.getD []))∧A4 o d q j) (fun (i,Gx,q,(o,d,j))=>p.outs.length - i) ((0,G9,[],(none,0,[]))) (⟨aM _,bN _,U,fun t ht=>by omega,eG⟩) U ⟨U,U,U,U,U,U,U,U,F9⟩ ⟨U,U,U,F9⟩ fun ⟨i,Gx,q,(o,d,j)⟩=>fun hk=>?_;obtain ⟨hi0,hgx,hqi,hbq,hoq⟩:=hk;replace ho:=ho.up hgx;rcases aK i p.outs.length with hio | hio
   · have hmem:p.outs[(i:Int).toNat]?.getD default∈p.outs:=by
      rw [aE,aA hio];exact bT hio
     have hrg:=f7 _ hmem;obtain ⟨l1,a1,a2,a3,a4⟩:=hg9.2 (p.outs[(i:Int).toNat]?.getD default).toNat sN;have hN1:=(he9.at (k:=(p.outs[(i:Int).toNat]?.getD default).toNat) sN).1;have hl1:l1.length=N:=by rw [a4.1,hN1]
     refine aI 13 [1] ?_;refine fR (α:=Int) T.sl24 ?_;refine jC 0 T.one3 ?_;refine aL 7 [] ?_;refine iE (α:=SV) T.sl237 ?_;refine nA 3 0 T.one68 ?_;refine fO 40 U (show _=Value.slice (r9[(p.outs[(i:Int).toNat]?.getD default).toNat]?.getD default).a l1.length (r9[(p.outs[(i:Int).toNat]?.getD default).toNat]?.getD default).c by rw [a1]) ?_;refine bV 20 U (jc _ _ _ l1 (a3.up hgx) sN) fun v1 G2 Ho1 hle2 hp=>?_;obtain ⟨s2,d2,rfl,hA2,hd2,rfl⟩:=hp;refine cZ (α:=SV) 4 [⟨_,_,_⟩] U T.sl237 T.el68 U U U U U fun b2=>?_;refine kH (α:=SV) 0 T.sl237 T.el68 (dT 4 U) fun a1 c1 junk1 ho1=>?_;refine aS 8 [] ?_;refine cK ((i+1,G2,q++[⟨s2,l1.length,d2⟩],(a1,c1,junk1))) ?_ ?_
     · refine ⟨by omega,aP hgx hle2,by rw [aB,hqi];rfl,JI (fun t ht=>(hbq t ht).up hle2) hqi ?_,ho1⟩;rw [TM hio];exact ⟨l1,U,hd2,hA2,a4.up (aP hgx hle2)⟩
     show p.outs.length - (i+1)<p.outs.length - i;omega
   have hii:i=p.outs.length:=sN;subst hii;have hqd:=hoq.le;refine bE 21 [0] ?_;refine cX 0 U hoq fun G8 hle8 hA=>?_;refine Iy (.inr U) (Ho:=[]) U (.tmp U) (.tmp U) (.tmp U) F9 ?_;have hol:(xD p rs).length=p.outs.length:=by unfold xD;rw [aN]
   refine ⟨U,.inl ⟨xD p rs,o,q,d,hfol,U,hA,hqd,⟨by omega,fun t ht=>(hbq t sN).up hle8⟩,fun zs hz=>?_⟩⟩;unfold xD at hz;obtain ⟨x,hx,rfl⟩:=dL.1 hz;have hx7:=f7 x hx;exact he9.at (k:=x.toNat) sN
 refine bC ?_;refine dK [[4]] ?_;refine dG ?_;refine eE 18 [1] ?_;refine Iy (.inr U) (Ho:=[]) U (.tmp U) (.tmp U) (.tmp U) F9 ?_;exact ⟨U,.inr ⟨hno,k9,U⟩⟩
end
section
attribute [local irreducible] sQ pb uJ tT p2 cst xQ
theorem jd (G:A3) (n:Nat) (hn:n≤4096) :
 Does Tryz.prog 208 [.int .i64 (n:Int)] G [] (fun v G' Ho=>∃ b,v=.tuple #[.slice (some ⟨b,0,none⟩) (List.replicate n (default:IV)).length n,.int .i64 0]∧G'=G∧Ho=[(0,some b,Row 125 (List.replicate n (default:IV)) [])]):=by
 refine D0 Tryz.func208 Tryz.ntmps208 fun w=>?_;refine aI 12 [] ?_;refine mZ 6 ?_;refine aL 13 [0] ?_;refine gG (α:=IV) 0 U T.sl68 T.el125 U U sN sN fun b1=>?_;refine aS 5 [] ?_;refine gZ (.inr U) (Ho:=[(0,some b1,Row 125 (List.replicate n (default:IV)) [])]) U (.tmp U) (.tmp U) ⟨U,F9⟩ ?_;exact ⟨b1,by simp,rfl,rfl⟩
theorem je (G:A3) (n j:Nat) (hn:n≤4096) (hj:j<n) :
 Does Tryz.prog 159 [.int .i64 (n:Int),.int .i64 (j:Int)] G [] (fun v G' Ho=>∃ s l d,v=.tuple #[.slice s (List.length l) d,.int .i64 0]∧Arr G' s l∧List.length l=n∧n≤d∧B6 G' l (uH n j)∧Ho=[]):=by
 refine D0 Tryz.func159 Tryz.ntmps159 fun w=>?_;refine aI 9 [] ?_;refine bV 0 U (jd _ n hn) fun v1 G1 Ho1 hle1 hp=>?_;obtain ⟨b1,rfl,rfl,rfl⟩:=hp;have ho3:A4 (some ⟨b1,0,none⟩) n (List.replicate n (default:IV)) []:=.inr ⟨b1,U,by rw [aJ];rfl,by rw [aJ];exact aH _,by simp only [maxLen];omega⟩;obtain ⟨r0,hr0⟩:∃ r0,r0=List.replicate n (default:IV):=⟨_,U⟩
 have lr0:r0.length=n:=by rw [hr0,aJ]
 rw [←hr0] at ho3 ⊢;refine aL 22 [0] ?_;refine mZ 20 ?_;refine aL 18 [0] ?_;refine bV 1 U (RH _ _ sY) fun v2 G2 Ho2 hle2 hp=>?_;obtain ⟨ri2,rfl,hri2,rfl⟩:=hp;refine iE (α:=IV) T.sl68 ?_;refine dC (z:=ri2) (m:=(j:Int)) 0 T.size125 U U U ho3 sN U fun ho1=>?_;have hB:B6 G2 (r0.set j ri2) (uH n j):=by
  rw [hr0];unfold uH;exact (rO G2 n).set j hri2
 have hl9:(r0.set j ri2).length=n:=by rw [aG];exact lr0
 rw [aE] at ho1 ⊢;obtain ⟨r9,hr9⟩:∃ r9,r9=r0.set j ri2:=⟨_,U⟩
 rw [←hr9] at ho1 hB hl9 ⊢;refine aS 10 [] ?_;refine cX 0 U ho1 fun G3 hle3 hA3=>?_;refine cJ 4 U (show _=Value.slice (some ⟨b1,0,none⟩) r9.length n by rw [hl9,lr0]) ?_;refine gY ?_;exact ⟨_,r9,n,U,hA3,hl9,aH _,hB.up hle3,U⟩
end
theorem Wp:pb 2=pw 4:=by unfold pb pw;decide
theorem Pv {N:Nat} {gs:List (List Int)} (h:XV 4 N gs):C5 2 N gs:=fun zs hz=>⟨(h zs hz).1,fun z hz'=>by rw [Wp];exact (h zs hz).2 z hz'⟩
theorem AA (n j:Nat):Below 2 (uH n j):=fun z hz=>by
 rw [Wp];exact Pq n j 4 sN z hz
theorem OK {os:List (List Int)} {n:Nat} (hl:os.length=n):(os=(List.range n).map (uH n))↔∀ t:Nat,t<n→os[t]?.getD []=uH n t:=by
 constructor
 · intro h t ht;rw [h,bM,eV ht];rfl
 intro h;refine gW fun i=>?_;rcases aK i n with h1 | h1
 · have:=h i h1;rw [aA sN] at this ⊢;rw [bM,eV h1];show some os[i]=some (uH n i);rw [←this];rfl
 rw [bZ sN,bZ (by rw [aN,cC];omega)]
section
attribute [local irreducible] sQ pb pw uJ tT p2 cst xQ tE xF sP uH
theorem YD (G:A3) (p:PV) (ac ao:Option Addr) (cc co:Nat) (hc:Arr G ac p.code) (ho:Arr G ao p.outs) (h1:p.code.length≤1099511627776) (h2:p.outs.length≤1099511627776) (hP:¬sP p=true) :
 Does Tryz.prog 56 [.agg (H8 p ac cc ao co)] G [] (fun v G' Ho=>v=.tuple #[.int .i64 (uK p).1,.int .i64 80]∧G'=G∧Ho=[]):=by
 have hf:(uK p).2=true:=by unfold sP at hP;simpa using hP
 have h:=ZM G p ac ao cc co hc ho h1 h2;rw [hf] at h;exact h
theorem bz (G:A3) (p:PV) (ac ao:Option Addr) (cc co:Nat) (a:Option Addr) (c:Nat) (l:List R2) (hc:Arr G ac p.code) (ho:Arr G ao p.outs) (hcl:p.code.length≤1099511627776) (hol:p.outs.length≤1099511627776) (ha:Arr G a l) (hac:l.length≤c) (hl:l.length≤1048576) (hR:tW l) (hP:sP p=true) :
 Does Tryz.prog 111 [.agg (H8 p ac cc ao co),.slice a l.length c] G [] (fun v G' Ho=>v=.tuple #[.bool (decide (uE p l)),.int .i64 0]∧Ho=[]):=by
 have hl1:=hR.1;have hl15:=hR.2.1;have hev:=Pv (DZ hl15 (fun i hi=>(hR.2.2.1 i hi).1));have hgl:=Dl l;obtain ⟨f1,f2,f3,f4,f5,f6,f7,f8⟩:=sT hP;refine D0 Tryz.func111 Tryz.ntmps111 fun w=>?_;by_cases hI:p.ins=l.length
 · by_cases hO:p.outs.length=l.length
   · refine aI 2 [] ?_;refine dV 0 fun b1=>?_;refine aL 7 [] ?_;refine bV 1 U (NV _ a c l sO sN hac hR hl15 hR.2.2.1) fun v1 G1 Ho1 hle1 hp=>?_;obtain ⟨gs1,gr1,gc1,rfl,hga1,hgb1,hgc1,rfl⟩:=hp;replace hc:=hc.up hle1;replace ho:=ho.up hle1;replace ha:=ha.up hle1;refine aL 21 [0,0] ?_;refine cI U (Nq _ p _ _ _ _ sO sO hcl hol hP) ?_;refine aL 24 [0,0] ?_;refine mZ 35 ?_;refine aL 22 [0,0,0] ?_;refine bV 20 U (bx _ p ac ao gs1 cc co gc1 gr1 (xF l) 2 l.length sO sO sO sO hev sN sN hP (by rw [hgb1.1,hgl,hI])) fun v9 G9 Ho9 hle9 hp=>?_;obtain ⟨rfl,⟨os,ob,orr,oc,hfo,rfl,hoA,hol9,hoB,hoE⟩ | ⟨hno,k9,rfl⟩⟩:=hp
     · have hos:=Pp hfo;have hoL:=hoB.1;replace ha:=ha.up hle9;have hiff:uE p l↔∀ t:Nat,t<l.length→os[t]?.getD []=uH l.length t:=by
        rw [←OK sN];unfold uE;rw [hfo];exact ⟨fun h=>iW h.2.2.2,fun h=>⟨hP,hI,hO,by rw [h]⟩⟩
       refine bB 28 [0] ?_;refine Wc.lg (ι:=Nat×A3) (fun (i,Gx)=>([(54,.int .i64 (i:Int)),(53,.int .i64 (orr.length:Int)),(52,.slice ob (List.length orr) oc),(1,.slice a (List.length l) c)],[(0,some b1,.cells (H8 p ac cc ao co) 26)])) (fun (i,Gx)=>Gx) (fun (i,Gx)=>i≤l.length∧G9.le Gx∧∀ t:Nat,t<i→os[t]?.getD []=uH l.length t) (fun (i,Gx)=>l.length - i) ((0,G9)) (⟨aM _,bN _,fun t ht=>by omega⟩) fun ⟨i,Gx⟩=>fun hk=>?_;obtain ⟨hi0,hgx,hall⟩:=hk;replace hoA:=hoA.up hgx;rcases aK i l.length with hil | hil
       · obtain ⟨l1,a1,a2,a3,a4⟩:=(hoB.up hgx).2 i sN;have hE1:=hoE.at (k:=i) sN;refine aI 14 [1] ?_;refine fR (α:=SV) T.sl237 ?_;refine jC 0 T.one68 ?_;refine aL 9 [] ?_;refine bV 20 U (je _ l.length i sN hil) fun v1 G2 Ho1 hle2 hp=>?_;obtain ⟨s2,l2,d2,rfl,hA2,hl2,hd2,hB2,rfl⟩:=hp;refine aL 11 [] ?_;refine fO 66 U (show _=Value.slice (orr[i]?.getD default).a l1.length (orr[i]?.getD default).c by rw [a1];rfl) ?_;refine bV 20 U (ja _ _ _ _ _ l1 l2 (os[i]?.getD []) (uH l.length i) (a3.up hle2) hA2 (a4.up hle2) hB2 (by rw [a4.1,hE1.1];omega) sN (2+3*p.code.length) sN hE1.2 ((AA _ _).mono sN)) fun v1 G3 Ho1 hle3 hp=>?_;obtain ⟨rfl,rfl,rfl⟩:=hp;by_cases he:os[i]?.getD []=uH l.length i
         · have he2:¬¬(os[i]?.getD []=uH l.length i):=fun h=>h he;refine aQ (fP U) ?_;refine aS 10 [0] ?_;refine cK ((i+1,G3)) ?_ ?_
           · refine ⟨by omega,aP hgx hle2,fun t ht=>?_⟩;rcases aK t i with h1 | h1
             · exact hall t h1
             have e:t=i:=sN;rw [e];exact he
           show l.length - (i+1)<l.length - i;omega
         have hnI:¬uE p l:=fun h=>he (hiff.1 h i hil);refine aQ (fP U) ?_;refine aS 15 [1] ?_;refine gY ?_;exact ⟨by rw [cA hnI],U⟩
       have hyI:uE p l:=hiff.2 (fun t ht=>hall t sN);refine bE 19 [0] ?_;refine gY ?_;exact ⟨by rw [bL hyI],U⟩
     have hnI:¬uE p l:=fun h=>by have:=h.2.2.2;rw [hno] at this;cases this
     refine aS 25 [1] ?_;refine gY ?_;exact ⟨by rw [cA hnI],U⟩
   have hnI:¬uE p l:=fun h=>hO h.2.2.1;refine aI 2 [] ?_;refine dV 0 fun b1=>?_;refine aL 7 [] ?_;refine bV 1 U (NV _ a c l sO sN hac hR hl15 hR.2.2.1) fun v1 G1 Ho1 hle1 hp=>?_;obtain ⟨gs1,gr1,gc1,rfl,hga1,hgb1,hgc1,rfl⟩:=hp;replace hc:=hc.up hle1;replace ho:=ho.up hle1;replace ha:=ha.up hle1;refine aL 21 [0,0] ?_;refine cI U (Nq _ p _ _ _ _ sO sO hcl hol hP) ?_;refine aL 24 [0,0] ?_;refine mZ 35 ?_;refine aS 24 [0,1] ?_;refine gY ?_;all_goals exact ⟨by rw [cA hnI],U⟩
 have hnI:¬uE p l:=fun h=>hI h.2.1;refine aI 2 [] ?_;refine dV 0 fun b1=>?_;refine aL 7 [] ?_;refine bV 1 U (NV _ a c l sO sN hac hR hl15 hR.2.2.1) fun v1 G1 Ho1 hle1 hp=>?_;obtain ⟨gs1,gr1,gc1,rfl,hga1,hgb1,hgc1,rfl⟩:=hp;replace hc:=hc.up hle1;replace ho:=ho.up hle1;replace ha:=ha.up hle1;refine aL 21 [0,0] ?_;refine cI U (Nq _ p _ _ _ _ sO sO hcl hol hP) ?_;refine aL 24 [0,0] ?_;refine WH 35 ?_;refine aS 18 [1] ?_;refine gY ?_;all_goals exact ⟨by rw [cA hnI],U⟩
end
theorem JJ {G:A3} {n j:Nat} {x:IV} (hx:C1 G x 1) (hj:j<n):B6 G ((List.replicate n (default:IV)).set j x) (uH n j):=by
 unfold uH;exact (rO G n).set j hx
section
attribute [local irreducible] sQ No pb pw uJ tT p2 yC xF tE sP uH cst xQ
theorem jf (G:A3) (k:Nat) (hk15:k≤15):Does Tryz.prog 156 [.int .i64 (k:Int)] G [] (fun v G' Ho=>∃ (s:Option Addr) (r:List SV) (c':Nat),v=.slice s r.length c'∧Arr G' s r∧C0 G' r (vM k)∧r.length≤c'∧Ho=[]):=by
 refine D0 Tryz.func156 Tryz.ntmps156 fun w=>?_;refine eJ 9 (Row 68 ([]:List SV) []) ?_;refine bI 18 [] ?_;refine jZ (ι:=Nat×A3×List SV×(Option Addr×Nat×List Value)) (fun (i,Gx,r,(o,d,j))=>([(7,.int .i64 (i:Int)),(3,.slice o r.length d),(6,.int .i64 (↑k:Int)),(2,.slice none 0 0),(0,.int .i64 (↑k:Int))],[(9,o.map (·.block),Row 68 r j)])) (fun (i,Gx,r,(o,d,j))=>Gx) (fun (i,Gx,r,(o,d,j))=>i≤k∧G.le Gx∧r.length=i∧C0 Gx r ((vM k).take i)∧A4 o d r j) (fun (i,Gx,r,(o,d,j))=>k - i) ((0,G,[],(none,0,[]))) (⟨aM _,bN _,U,by rw [bR];exact C0.nil _,eG⟩) U ⟨U,U,U,U,U,F9⟩ ⟨U,F9⟩ fun ⟨i,Gx,r,(o,d,j)⟩=>fun hk=>?_;obtain ⟨hi1,hi2,hi3,hi4,hi5⟩:=hk;rcases aK i k with hil | hil
 · refine aI 20 [1] ?_;refine gG (α:=IV) 10 U T.sl68 T.el125 U U sN sN fun b1=>?_;refine aL 7 [] ?_;refine bV 11 U (RH _ 1 sY) fun v1 G1 Ho1 hle1 hp=>?_;obtain ⟨ro1,rfl,hro1,rfl⟩:=hp;have ho2:A4 (some ⟨b1,0,none⟩) (List.replicate ((k:Int)).toNat (default:IV)).length (List.replicate ((k:Int)).toNat (default:IV)) []:=fK (by rw [aJ];simp only [maxLen];omega);refine aQ (dX (α:=IV) T.sl68 U U ho2 FB) ?_;refine dC (α:=IV) (z:=ro1) (m:=(i:Int)) 10 T.size125 U U U ho2 FB U fun ho3=>?_;refine fG 10 U ho3 fun G3 hle3 hA3=>?_;refine aL 5 [] ?_;refine cZ (α:=SV) 11 [⟨_,_,_⟩] U T.sl237 T.el68 U U U U U fun b2=>?_;refine kH (α:=SV) 9 T.sl237 T.el68 (dT 11 U) fun a1 c1 junk1 ho1=>?_;refine aS 8 [] ?_;refine cJ 7 U (show _=Value.int .i64 ((i+1:Nat):Int) from U) ?_;refine cK ((i+1,_,r++[⟨some ⟨b1,0,none⟩,(List.replicate ((k:Int)).toNat (default:IV)).length,(List.replicate ((k:Int)).toNat (default:IV)).length⟩],(a1,c1,junk1))) ?_ ?_
   · refine ⟨by omega,aP hi2 (aP hle1 hle3),by rw [aB,hi3];rfl,?_,ho1⟩;have e:(vM k).take (i+1)=(vM k).take i++[uH k i]:=by
      rw [cL];congr 1;unfold vM;rw [bM,eV hil];rfl
     rw [e];exact C0.snoc (hi4.up (aP hle1 hle3)) ⟨_,by rw [aG],aH _,hA3,(JJ hro1 hil).up hle3⟩
   show k - (i+1)<k - i;omega
 have hie:i=k:=sN;subst hie;have e:(vM i).take i=vM i:=fH (by rw [yD];exact aH _);rw [e] at hi4;refine bE 19 [0] ?_;refine cX 9 U hi5 fun G8 hle8 hA8=>?_;refine cV ?_;exact ⟨_,_,_,U,hA8,hi4.up hle8,hi5.le,U⟩
end
theorem jg (G:A3) (a:Option Addr) (c:Nat) (l:List R2) (ha:Arr G a l) (hl:l.length≤1048576) :
 Does Tryz.prog 33 [.slice a l.length c] G [] (fun v G' Ho=>∃ s d,v=.slice s l.length d∧Arr G' s l∧l.length≤d∧Ho=[]):=by
 refine D0 Tryz.func33 Tryz.ntmps33 fun w=>?_;by_cases hne:a=none
 · subst hne;have hl0:l=[]:=by
    rcases ha.2 with h0 | ⟨_,_,h,_⟩
    · exact List.length_eq_zero_iff.mp h0
    cases h
   subst hl0;refine eJ 0 (Row 52 ([]:List R2) []) ?_;refine aI 9 [] ?_;refine aQ (jL T.sl22 U U) ?_;refine bB 2 [] ?_;refine cW (fun hc1=>?_) fun hc1=>?_;refine bE 7 [] ?_;rotate_left;refine aI 4 [] ?_;refine rG 1 U T.sl22 fun b1=>?_;refine aC 1 [] ?_;rotate_left;refine cV ?_
   · exact ⟨none,0,U,⟨U,.inl U⟩,aH _,U⟩
   exact absurd U hc1
 refine aI 9 [] ?_;refine aQ (jL T.sl22 U U) ?_;refine aL 7 [0] ?_;refine rG 0 U T.sl22 fun b1=>?_;refine aC 1 [] ?_;refine oW 0 (Row 52 ([]:List R2) []) U U ?_;refine eH (α:=R2) (xs:=[]) (ys:=l) (junk:=[]) 0 U T.sl22 T.el52 U U U (.inr ⟨b1,U,U,aH _,aM _⟩) (lM ha) (by rw [cE];omega) KU fun a1 c1 junk1 ho1=>?_;rw [fV] at ho1 ⊢;refine aS 4 [] ?_;refine cX 0 U ho1 fun G1 hle1 harr1=>?_;refine cV ?_;exact ⟨a1,c1,U,harr1,ho1.le,U⟩
instance (l:List R2):Decidable (Bi l):=Classical.propDecidable _
theorem cj (G:A3) (a:Option Addr) (c:Nat) (l:List R2) (ha:Arr G a l) (h1:l.length≤1048576):Does Tryz.prog 104 [.slice a l.length c,.func (.func 105) #[] #[]] G [] (fun v G' Ho=>v=.bool (decide (Bi l))∧G'=G∧Ho=[]):=by
 refine (ib G a c l ha h1).mono fun v G' Ho _ ⟨b,e,h1,h2,h3⟩=>?_;subst e;refine ⟨?_,h2,h3⟩;congr 1;by_cases h:Bi l
 · rw [bL h];exact h1.2 h
 rw [cA h];exact nM.2 (fun h2=>h (h1.1 h2))
theorem fg (G:A3) (k1 k2:Int) (a:Option Addr) (c:Nat) (l:List R2) (ha:Arr G a l) (hl:l.length≤1048576) (hlc:l.length≤c) :
 Does Tryz.prog 54 [.int .i64 k1,.int .i64 k2,.slice a l.length c] G [] (fun v G' Ho=>∃ pv:Value,v=.tuple #[pv,.int .i64 (tF k1 k2 l)]∧Ho=[]):=by
 refine D0 Tryz.func54 Tryz.ntmps54 fun w=>?_;refine aI 10 [] ?_;refine cI U (by apply bq <;> first | assumption | omega | rfl) ?_;refine aQ (fP U) ?_;refine aC 1 [] ?_;apply dS 4 16 20 U;intro hg1;refine aC 3 [] ?_;refine cI U (by apply bq <;> first | assumption | omega | rfl) ?_;refine aC 1 [] ?_;refine aQ (fP U) ?_;refine aC 1 [] ?_;exact dB 4 0;intro hg1;refine aC 4 [] ?_;exact dB 4 0;refine bB 2 [] ?_;refine cW (fun hc1=>?_) fun hc1=>?_;refine bE 8 [] ?_;rotate_left;refine bI 11 [] ?_;rotate_left
 · refine gY ?_;exact ⟨_,by rw [Jt (by unfold uP;omega)],U⟩
 have hP:uP k1∧uP k2:=by unfold uP;omega
 refine gX (ι:=Nat) (fun j=>([(23,.int .i64 (j:Int)),(0,.int .i64 k1),(1,.int .i64 k2),(2,.slice a l.length c),(22,.int .i64 (l.length:Int)),(21,.slice a (List.length l) c)],[])) (fun j=>j≤l.length∧∀ i:Nat,i<j→near (l[i]?.getD default).a (l[i]?.getD default).b) (fun j=>l.length - j) (0) (⟨aM _,fun i h=>absurd h sN⟩) fun j=>fun hk=>?_;obtain ⟨hj,hno⟩:=hk;refine bI 6 [] ?_;refine cW (fun hc2=>?_) fun hc2=>?_;refine aI 6 [] ?_;refine fR (α:=R2) T.sl22 ?_;refine lL T.agg52 ?_;refine aO 0 U T.zero52 fun b1=>?_;refine aL 6 [0,0] ?_;refine cI U Iu ?_;refine aQ (fP U) ?_;refine bB 2 [] ?_;refine cW (fun hc3=>?_) fun hc3=>?_;refine bE 12 [] ?_;rotate_left;refine bE 7 [] ?_;rotate_left;refine aI 16 [] ?_;apply dS 3 38 41 U;intro hg1;refine aC 3 [] ?_;refine cI U (cj _ _ _ _ sO sN) ?_;refine aC 1 [] ?_;exact dB 3 0;intro hg1;refine aC 3 [] ?_;exact dB 3 0;refine bB 2 [] ?_;refine cW (fun hc3=>?_) fun hc3=>?_;refine bE 8 [] ?_;rotate_left;refine aI 5 [] ?_;refine bV 0 U (bg _ _ _ _ sO sN tY) fun v1 G1 Ho1 hle1 hp=>?_;obtain ⟨ti1,tj1,tb1,rfl,htb1,rfl,rfl⟩:=hp;refine bB 15 [] ?_;refine lJ U (fun hc4=>?_) fun hc4=>?_;refine bE 8 [] ?_;rotate_left;refine aI 7 [] ?_;refine bV 0 U (jg _ _ _ _ sO sN) fun v2 G2 Ho2 hle2 hp=>?_;obtain ⟨s2,d2,rfl,hs2,hsd2,rfl⟩:=hp;refine aQ (bP (cs:=[_,_,_]) T.st176 U U U) ?_;refine dV 0 fun b1=>?_;refine aS 5 [] ?_;rotate_left
 · refine gY ?_;exact ⟨_,by rw [Zu (fun h=>absurd (h j sN) sO)],U⟩
 · refine cJ 23 U (show _=Value.int .i64 ((j+1:Nat):Int) from U) ?_;refine cK (j+1) ?_ ?_
   · refine ⟨by omega,fun i hi=>?_⟩;rcases aK i j with h | h
     · exact hno i h
     have e:i=j:=sN;subst e;exact fN.1 sO
   omega
 · have hA:Ex l:=fun i hi=>hno i sN;have e:tF k1 k2 l=71:=hc3.elim (fun h=>Ty hP hA h) (fun h=>Lj hP hA (.inl h));refine gY ?_;exact ⟨_,by rw [e],U⟩
 · have hA:Ex l:=fun i hi=>hno i sN;have e:tF k1 k2 l=71:=Lj hP hA (.inr (htb1.1 sO));refine gY ?_;exact ⟨_,by rw [e],U⟩
 have hA:Ex l:=fun i hi=>hno i sN;have e:tF k1 k2 l=0:=Zv hP hA (dY fun h=>hc3 (.inl h)) (fun h=>h.elim (fun h=>hc3 (.inr h)) (fun h=>absurd (htb1.2 h) (by rw [hc4];decide)));refine gY ?_;exact ⟨_,by rw [e],U⟩
theorem c87 (G:A3) (a:Option Addr) (c:Nat) (l:List R2) (ha:Arr G a l) (hl:l.length≤1048576) (hR:tW l) :
 Does Tryz.prog 87 [.slice a l.length c] G [] (fun v G' Ho=>v=.bool (decide (1=1))∧G'=G∧Ho=[]):=by
 refine D0 Tryz.func87 Tryz.ntmps87 fun w=>?_;refine bI 14 [] ?_;refine gX (ι:=Nat) (fun j=>([(7,.int .i64 (j:Int)),(6,.int .i64 (l.length:Int)),(5,.slice a (List.length l) c),(0,.slice a (List.length l) c)],[])) (fun j=>j≤l.length) (fun j=>l.length - j) (0) (aM _) fun j=>fun (hk:j≤l.length)=>?_;refine bI 6 [] ?_;refine cW (fun hc1=>?_) fun hc1=>?_;refine aI 6 [] ?_;refine fR (α:=R2) T.sl22 ?_;refine lL T.agg52 ?_;refine aO 0 U T.zero52 fun b1=>?_;refine aL 6 [0,0] ?_;refine cI U Iu ?_;refine aQ (fP U) ?_;refine bB 2 [] ?_;refine cW (fun hc2=>?_) fun hc2=>?_;refine bE 11 [] ?_;rotate_left;refine bE 7 [] ?_;rotate_left;refine aI 11 [] ?_;apply bX 4 18 22 U;intro hg1;refine aC 7 [] ?_;exact dB 4 0;intro hg1;refine aC 4 [] ?_;exact dB 4 0;refine aS 4 [] ?_;rotate_left
 · exfalso;have h:=(hR.2.2.1 j sN).1;exact absurd h sO
 · refine cJ 7 U (show _=Value.int .i64 ((j+1:Nat):Int) from U) ?_;refine cK (j+1) ?_ ?_
   · omega
   omega
 refine cV ?_;have h1:=hR.1;have h2:=hR.2.1;exact ⟨by rw [bL sN,bL rfl],U,U⟩
theorem AB {x y:Int}:uJ x y=0↔x=y:=by
 unfold uJ;split
 · omega
 split <;> omega
theorem EB {a b:Int} {n:Nat} (h:near a b) (hn:n≤15):Below 2 (yC a b n):=fun z hz=>by
 rw [Wp];exact (Tx h hn).2 z hz
theorem ck (G:A3) (p:PV) (ac ao ga:Option Addr) (cc co gc:Nat) (gl:List SV) (gs:List (List Int)) (m N:Nat) (hc:Arr G ac p.code) (ho:Arr G ao p.outs) (hga:Arr G ga gl) (hgg:C0 G gl gs) (hev:C5 m N gs) (hmm:m≤1048576) (hN:N≤4096) (hR:sP p=true) (hgi:(gl.length:Int)=p.ins) (os:List (List Int)) (hf:tE p gs=some os) :
 Does Tryz.prog 155 [.agg (H8 p ac cc ao co),.slice ga gl.length gc] G [] (fun v G' Ho=>∃ b r c',v=.tuple #[.slice b (List.length r) c',.int .i64 0,.int .i64 0]∧Arr G' b r∧C0 G' r os∧C5 (m+3*p.code.length) N os∧Ho=[]):=by
 refine (bx G p ac ao ga cc co gc gl gs m N hc ho hga hgg hev hmm hN hR hgi).mono fun v G' Ho _ h=>?_;obtain ⟨h0,⟨os2,b,r,c',h1,h2,h3,h4,h5,h6⟩ | ⟨h1,_⟩⟩:=h
 · rw [hf] at h1;obtain rfl:=iW h1;exact ⟨b,r,c',h2,h3,h5,h6,h0⟩
 rw [hf] at h1;cases h1
section
attribute [local irreducible] sQ No pb pw uJ tT p2 yC xF tE sP uH cst xQ
theorem cl (G:A3) (p:PV) (ac ao a:Option Addr) (cc co c k:Nat) (l:List R2) (hc:Arr G ac p.code) (ho:Arr G ao p.outs) (ha:Arr G a l) (hcl:p.code.length≤16384) (hol:p.outs.length≤1099511627776) (hRL:tW l) (hR:sP p=true) (hk1:1≤k) (hk8:k≤8) :
 Does Tryz.prog 108 [.agg (H8 p ac cc ao co),.int .i64 (k:Int),.slice a l.length c] G [] (fun v G' Ho=>v=.tuple #[.bool (decide (uV p (k:Int) l)),.int .i64 0]∧Ho=[]):=by
 have hl15:l.length≤15:=hRL.2.1;have hnr:∀ i:Nat,i<l.length→near (l[i]?.getD default).a (l[i]?.getD default).b:=fun i hi=>(hRL.2.2.1 i hi).1;refine D0 Tryz.func108 Tryz.ntmps108 fun w=>?_;refine aI 2 [] ?_;refine dV 0 fun b1=>?_;refine aL 10 [] ?_;refine mZ 22 ?_;refine aC 6 [] ?_;refine mZ 26 ?_;refine aC 3 [] ?_;refine cI U (c87 _ _ _ _ sO sN hRL) ?_;refine aC 1 [] ?_;refine aQ (fP U) ?_;refine aL 9 [0,0] ?_;refine cI U (Nq _ p _ _ _ _ sO sO sN hol hR) ?_;refine aL 25 [0,0] ?_;apply dS 7 43 50 U;intro hg1;refine aC 13 [0] ?_;exact dB 7 0;intro hg1;refine aC 7 [] ?_;exact dB 7 0;refine bB 2 [] ?_;refine cW (fun hc1=>?_) fun hc1=>?_;refine bE 8 [] ?_;rotate_left;refine bI 12 [0] ?_;rotate_left
 · refine gY ?_;exact ⟨by rw [cA (fun h=>hc1.elim (fun h2=>h2 h.1) (fun h2=>h2 (by have:=h.2.1;omega)))],U⟩
 have hI:p.ins=(k:Int):=dY fun h=>hc1 (.inl h);have hO:p.outs.length=l.length:=dY fun h=>hc1 (.inr sN);refine gX (ι:=Nat) (fun j=>([(54,.int .i64 (j:Int)),(1,.int .i64 (k:Int)),(2,.slice a l.length c),(53,.int .i64 (↑p.code.length:Int)),(52,.slice ac p.code.length cc),(9,.int .i64 0),(3,.pointer (some ⟨b1,0,none⟩))],[(0,some b1,.cells (H8 p ac cc ao co) 26)])) (fun j=>j≤p.code.length∧∀ i:Nat,i<j→¬((p.code[i]?.getD default).op=6∨(p.code[i]?.getD default).op=8)) (fun j=>p.code.length - j) (0) (⟨aM _,fun i h=>absurd h sN⟩) fun j=>fun hk=>?_;obtain ⟨hj,hno⟩:=hk;rcases aK j p.code.length with hjl | hjl
 · refine aI 13 [1] ?_;refine fR (α:=Sl.Instr) T.sl23 ?_;refine lL T.agg91 ?_;refine aO 1 U T.zero91 fun b2=>?_;refine aL 9 [1,1] ?_;apply dS 4 61 65 U;intro hg1;refine aC 7 [1] ?_;exact dB 4 0;intro hg1;refine aC 4 [] ?_;exact dB 4 0;refine bB 2 [] ?_;refine cW (fun hc2=>?_) fun hc2=>?_;refine bE 12 [] ?_;rotate_left;refine bE 7 [] ?_;rotate_left
   · refine gY ?_;refine ⟨by rw [cA (fun h=>h.2.2.1 (p.code[j]?.getD default) (by rw [aA hjl];exact bT _) sO)],U⟩
   refine cJ 54 U (show _=Value.int .i64 ((j+1:Nat):Int) from U) ?_;refine cK (j+1) ?_ ?_
   · refine ⟨by omega,fun i hi=>?_⟩;rcases aK i j with h | h
     · exact hno i h
     have e:i=j:=sN;subst e;assumption
   show p.code.length - (j+1)<p.code.length - j;omega
 have hND:yK p:=fun i hi=>by
  obtain ⟨t,ht,rfl⟩:=fY.1 hi;have:=hno t sN;rw [aA ht] at this;exact this
 obtain ⟨os,hf⟩:=Wk hND (vM k);have hosl:os.length=l.length:=by rw [Pp hf,hO]
 have hiff:uV p (k:Int) l↔∀ t:Nat,t<l.length→os[t]?.getD []=yC (l[t]?.getD default).a (l[t]?.getD default).b k:=by
  rw [←NX hosl];unfold uV;rw [aE,hf];exact ⟨fun h=>iW h.2.2.2,fun h=>⟨hI,hO,hND,by rw [h]⟩⟩
 refine bI 13 [0] ?_;refine dE [0] [] T.mixed [[0,0],[1]] ?_;refine bQ 2 ?_;refine bV 1 U (jf _ k sN) fun v1 G1 Ho1 hle1 hp=>?_;obtain ⟨us1,ur1,uc1,rfl,huA1,huB1,huL1,rfl⟩:=hp;replace hc:=hc.up hle1;replace ho:=ho.up hle1;replace ha:=ha.up hle1;refine cS 3 ?_;refine bV 1 U (ck _ p _ _ _ _ _ _ _ (vM k) 2 k sO sO sO sO (Pv (Zt k)) sN sN hR (by rw [huB1.1,yD];omega) os hf) fun v2 G2 Ho2 hle2 hp=>?_;obtain ⟨ob2,or2,oc2,rfl,hoA2,hoB2,hoE2,rfl⟩:=hp;replace huA1:=huA1.up hle2;replace hc:=hc.up hle2;replace ho:=ho.up hle2;replace ha:=ha.up hle2;refine bC ?_;refine dK [[4],[5],[6],[7],[8],[9],[10]] ?_;refine dG ?_;refine lS 20 [0] ?_;have hol2:or2.length=l.length:=by rw [hoB2.1];exact hosl
 refine Wc.lg (ι:=Nat×A3) (fun (i,Gx)=>([(79,.int .i64 (i:Int)),(1,.int .i64 (k:Int)),(2,.slice a l.length c),(78,.int .i64 (l.length:Int)),(77,.slice a (List.length l) c),(12,.slice ob2 (List.length or2) oc2)],[(0,some b1,.cells (H8 p ac cc ao co) 26)])) (fun (i,Gx)=>Gx) (fun (i,Gx)=>i≤l.length∧G2.le Gx∧∀ t:Nat,t<i→os[t]?.getD []=yC (l[t]?.getD default).a (l[t]?.getD default).b k) (fun (i,Gx)=>l.length - i) ((0,G2)) (⟨aM _,bN _,fun t ht=>absurd ht sN⟩) fun ⟨i,Gx⟩=>fun hk=>?_;obtain ⟨hi0,hgx,hall⟩:=hk;replace ha:=ha.up hgx;replace hoA2:=hoA2.up hgx;rcases aK i l.length with hil | hil
 · have hnear:near (l[(i:Int).toNat]?.getD default).a (l[(i:Int).toNat]?.getD default).b:=hnr i hil;refine aI 14 [1] ?_;refine fR (α:=R2) T.sl22 ?_;refine lL T.agg52 ?_;refine aO 1 U T.zero52 fun b2=>?_;refine aL 8 [1,1] ?_;refine bV 2 U (bn _ _ _ k hnear sN) fun v3 G3 Ho3 hle3 hp=>?_;obtain ⟨ps3,pr3,pc3,rfl,hpA3,hpB3,hpL3,rfl⟩:=hp;replace ha:=ha.up hle3;replace hoA2:=hoA2.up hle3;refine aL 11 [] ?_;refine fR (α:=SV) T.sl237 ?_;refine jC 0 T.one68 ?_;refine bB 5 [] ?_;obtain ⟨q,hq1,hq2,hq3,hq4⟩:=(hoB2.up (aP hgx hle3)).2 i sN;have hE:=hoE2.at (k:=i) sN;have hql:q.length=k:=hq4.1.trans hE.1;have hP:Below 2 (yC (l[i]?.getD default).a (l[i]?.getD default).b k):=EB (hnr i hil) sN;have hpl:pr3.length=k:=hpB3.1.trans (Js _ _ _);refine iV 93 U (show _=Value.slice (or2[(i:Int).toNat]?.getD default).a q.length (or2[(i:Int).toNat]?.getD default).c by rw [hq1];rfl) ?_;refine iV 94 U (show _=Value.int .i64 (q.length:Int) by rw [hq1];rfl) ?_;refine gX (ι:=Nat) (fun j=>([(95,.int .i64 (j:Int)),(93,.slice (or2[(i:Int).toNat]?.getD default).a q.length (or2[(i:Int).toNat]?.getD default).c),(94,.int .i64 (q.length:Int)),(16,.slice ps3 pr3.length pc3),(12,.slice ob2 or2.length oc2),(1,.int .i64 (k:Int)),(2,.slice a l.length c),(77,.slice a l.length c),(78,.int .i64 (l.length:Int)),(79,.int .i64 (i:Int))],[(1,some b2,.cells (List.toArray (A2.enc (Option.getD l[Int.toNat (↑i:Int)]? default))) 52),(0,some b1,.cells (H8 p ac cc ao co) 26)])) (fun j=>j≤k∧∀ t:Nat,t<j→(os[i]?.getD [])[t]?.getD 0=(yC (l[i]?.getD default).a (l[i]?.getD default).b k)[t]?.getD 0) (fun j=>k - j) (0) (⟨aM _,fun i h=>absurd h sN⟩) fun j=>fun hk=>?_;obtain ⟨hj9,hjj⟩:=hk;rcases aK j k with hjk | hjk
   · have hx:=hq4.at (k:=(j:Int)) sN;have hy:=hpB3.at (k:=(j:Int)) sN;have hxn:=jI hx (hE.2.at _);have hyn:=jI hy (hP.at _);refine aI 14 [1] ?_;refine fR (α:=IV) T.sl68 ?_;refine lL T.agg125 ?_;refine aO 2 U T.zero125 fun b3=>?_;refine bB 5 [2] ?_;refine dE [0,1,2] [] T.mixed [[0,2],[1],[2]] ?_;refine mL (α:=IV) 3 T.sl68 ?_;refine rL 4 T.agg125 ?_;refine bQ 5 ?_;refine cI U (aq _ _ _ _ _ hx hy sN sN) ?_;refine bC ?_;refine dK [[6]] ?_;refine dG ?_;refine cN ?_;refine cW (fun hc2=>?_) fun hc2=>?_;refine bE 16 [] ?_;rotate_left;refine bE 7 [] ?_;rotate_left
     · refine gY ?_;have hne:¬((os[i]?.getD [])[j]?.getD 0=(yC (l[i]?.getD default).a (l[i]?.getD default).b k)[j]?.getD 0):=fun h=>absurd (AB.2 h) sO;exact ⟨by rw [cA (fun h=>hne (by rw [hiff.1 h i hil]))],U⟩
     refine cJ 95 U (show _=Value.int .i64 ((j+1:Nat):Int) from U) ?_;refine cK (j+1) ?_ ?_
     · refine ⟨by omega,fun t ht=>?_⟩;rcases aK t j with h | h
       · exact hjj t h
       have e:t=j:=sN;subst e;exact AB.1 (fN.1 sO)
     show k - (j+1)<k - j;omega
   have hjk:j=k:=sN;subst hjk;refine bE 17 [0] ?_;refine cJ 79 U (show _=Value.int .i64 ((i+1:Nat):Int) from U) ?_;refine cK ((i+1,G3)) ?_ ?_
   · refine ⟨by omega,aP hgx hle3,fun t ht=>?_⟩;rcases aK t i with h | h
     · exact hall t h
     have e:t=i:=sN;subst e;exact (TI hE.1 (Js _ _ _)).2 hjj
   show l.length - (i+1)<l.length - i;omega
 refine bE 19 [0] ?_;refine gY ?_;exact ⟨by rw [bL (hiff.2 (fun t ht=>hall t sN))],U⟩
end
theorem YE {k1 k2:Int} {l:List R2} {x y z:PV} (h:¬tF k1 k2 l=0):tS k1 k2 l x y z=(0,tF k1 k2 l):=by unfold tS;rw [aF h]
theorem TN {k1 k2:Int} {l:List R2} {x y z:PV} (h:tF k1 k2 l=0) (h1:¬sP x=true):tS k1 k2 l x y z=(1,80):=by
 unfold tS;rw [aD (fun h0=>h0 h),aF h1]
theorem TO {k1 k2:Int} {l:List R2} {x y z:PV} (h:tF k1 k2 l=0) (h1:sP x=true) (h2:¬uV x k1 l):tS k1 k2 l x y z=(1,180):=by
 unfold tS;rw [aD (fun h0=>h0 h),aD (fun h0=>h0 h1),aF h2]
theorem TP {k1 k2:Int} {l:List R2} {x y z:PV} (h:tF k1 k2 l=0) (h1:sP x=true) (h2:uV x k1 l) (h3:¬sP y=true):tS k1 k2 l x y z=(2,80):=by
 unfold tS;rw [aD (fun h0=>h0 h),aD (fun h0=>h0 h1),aD (fun h0=>h0 h2),aF h3]
theorem TQ {k1 k2:Int} {l:List R2} {x y z:PV} (h:tF k1 k2 l=0) (h1:sP x=true) (h2:uV x k1 l) (h3:sP y=true) (h4:¬uV y k2 l):tS k1 k2 l x y z=(2,180):=by
 unfold tS;rw [aD (fun h0=>h0 h),aD (fun h0=>h0 h1),aD (fun h0=>h0 h2),aD (fun h0=>h0 h3),aF h4]
theorem TR {k1 k2:Int} {l:List R2} {x y z:PV} (h:tF k1 k2 l=0) (h1:sP x=true) (h2:uV x k1 l) (h3:sP y=true) (h4:uV y k2 l) (h5:¬sP z=true):tS k1 k2 l x y z=(3,80):=by
 unfold tS;rw [aD (fun h0=>h0 h),aD (fun h0=>h0 h1),aD (fun h0=>h0 h2),aD (fun h0=>h0 h3),aD (fun h0=>h0 h4),aF h5]
theorem TS {k1 k2:Int} {l:List R2} {x y z:PV} (h:tF k1 k2 l=0) (h1:sP x=true) (h2:uV x k1 l) (h3:sP y=true) (h4:uV y k2 l) (h5:sP z=true) (h6:¬uE z l):tS k1 k2 l x y z=(3,180):=by
 unfold tS;rw [aD (fun h0=>h0 h),aD (fun h0=>h0 h1),aD (fun h0=>h0 h2),aD (fun h0=>h0 h3),aD (fun h0=>h0 h4),aD (fun h0=>h0 h5),aF h6]
theorem Jv {k1 k2:Int} {l:List R2} {x y z:PV} (h:tF k1 k2 l=0) (h1:sP x=true) (h2:uV x k1 l) (h3:sP y=true) (h4:uV y k2 l) (h5:sP z=true) (h6:uE z l):tS k1 k2 l x y z=(0,0):=by
 unfold tS;rw [aD (fun h0=>h0 h),aD (fun h0=>h0 h1),aD (fun h0=>h0 h2),aD (fun h0=>h0 h3),aD (fun h0=>h0 h4),aD (fun h0=>h0 h5),aD (fun h0=>h0 h6)]
section
attribute [local irreducible] uV uE tF sP tW
end
theorem vW {G:A3} {b:Nat} {c:Array Value} {ty:TypeId} {z:Nat×Nat} (h:G b=some (.cells c ty z)) {k:Nat} {v:Value} (hv:c[k]?=some v):G.cell b k=some v:=by
 unfold A3.cell;rw [h];exact hv
structure PF where
 p:PH
 f:Nat
 b:Nat
instance:Inhabited PF:=⟨⟨default,0,0⟩⟩
instance:A2 PF:=⟨5,fun x=>[.int .i64 x.p.ins,.int .i64 x.p.regs,.slice x.p.ac x.p.cn x.p.cc,.slice x.p.ao x.p.on x.p.oc,.func (.func x.f) #[] #[.pointer (some ⟨x.b,0,none⟩)]],fun _=>rfl,fun _=>rfl⟩
section
attribute [local irreducible] uV uE tF sP tW
theorem jh (G:A3) (k:Nat) (b:Nat) (cs:Array Value) (ty:TypeId) (zz:Nat×Nat) (p:PV) (ac ao a:Option Addr) (cc co c:Nat) (l:List R2) (hU:G b=some (.cells cs ty zz)) (h0:cs[0]?=some (.int .i64 (k:Int))) (h2:cs[2]?=some (.slice a l.length c)) (hc:Arr G ac p.code) (ho:Arr G ao p.outs) (ha:Arr G a l) (hac:l.length≤c) (hl:l.length≤1048576) (hcl:p.code.length≤16384) (hol:p.outs.length≤1099511627776) (hRL:tW l) (hR:sP p=true) (hk1:1≤k) (hk8:k≤8) :
 Does Tryz.prog 107 [.agg (H8 p ac cc ao co),.pointer (some ⟨b,0,none⟩)] G [] (fun v G' Ho=>v=.tuple #[.bool (decide (uV p (k:Int) l)),.int .i64 0]∧Ho=[]):=by
 refine D0 Tryz.func107 Tryz.ntmps107 fun w=>?_;refine aI 2 [] ?_;refine dV 0 fun b1=>?_;refine aL 8 [0] ?_;refine aQ (bW T.one3 U ((by rw [cR]:G.cell b (0+0)=G.cell b 0).trans (vW hU h0))) ?_;refine aC 1 [] ?_;refine aQ (bW T.one22 U ((by rw [cR]:G.cell b (0+2)=G.cell b 2).trans (vW hU h2))) ?_;refine bV 1 U (cl _ _ _ _ _ _ _ _ _ _ sO sO sO sN sN hRL hR sN sN) fun v1 G1 Ho1 hle1 hp=>?_;obtain ⟨rfl,rfl⟩:=hp;replace hc:=hc.up hle1;replace ho:=ho.up hle1;replace ha:=ha.up hle1;refine aS 7 [] ?_;refine gY ?_;exact ⟨U,U⟩
theorem jl (G:A3) (k:Nat) (b:Nat) (cs:Array Value) (ty:TypeId) (zz:Nat×Nat) (p:PV) (ac ao a:Option Addr) (cc co c:Nat) (l:List R2) (hU:G b=some (.cells cs ty zz)) (h0:cs[1]?=some (.int .i64 (k:Int))) (h2:cs[2]?=some (.slice a l.length c)) (hc:Arr G ac p.code) (ho:Arr G ao p.outs) (ha:Arr G a l) (hac:l.length≤c) (hl:l.length≤1048576) (hcl:p.code.length≤16384) (hol:p.outs.length≤1099511627776) (hRL:tW l) (hR:sP p=true) (hk1:1≤k) (hk8:k≤8) :
 Does Tryz.prog 109 [.agg (H8 p ac cc ao co),.pointer (some ⟨b,0,none⟩)] G [] (fun v G' Ho=>v=.tuple #[.bool (decide (uV p (k:Int) l)),.int .i64 0]∧Ho=[]):=by
 refine D0 Tryz.func109 Tryz.ntmps109 fun w=>?_;refine aI 2 [] ?_;refine dV 0 fun b1=>?_;refine aL 8 [0] ?_;refine aQ (bW T.one3 U ((by rw [cR]:G.cell b (0+1)=G.cell b 1).trans (vW hU h0))) ?_;refine aC 1 [] ?_;refine aQ (bW T.one22 U ((by rw [cR]:G.cell b (0+2)=G.cell b 2).trans (vW hU h2))) ?_;refine bV 1 U (cl _ _ _ _ _ _ _ _ _ _ sO sO sO sN sN hRL hR sN sN) fun v1 G1 Ho1 hle1 hp=>?_;obtain ⟨rfl,rfl⟩:=hp;replace hc:=hc.up hle1;replace ho:=ho.up hle1;replace ha:=ha.up hle1;refine aS 7 [] ?_;refine gY ?_;exact ⟨U,U⟩
theorem jm (G:A3) (b:Nat) (cs:Array Value) (ty:TypeId) (zz:Nat×Nat) (p:PV) (ac ao a:Option Addr) (cc co c:Nat) (l:List R2) (hU:G b=some (.cells cs ty zz)) (h2:cs[2]?=some (.slice a l.length c)) (hc:Arr G ac p.code) (ho:Arr G ao p.outs) (ha:Arr G a l) (hac:l.length≤c) (hl:l.length≤1048576) (hcl:p.code.length≤16384) (hol:p.outs.length≤1099511627776) (hRL:tW l) (hR:sP p=true) :
 Does Tryz.prog 110 [.agg (H8 p ac cc ao co),.pointer (some ⟨b,0,none⟩)] G [] (fun v G' Ho=>v=.tuple #[.bool (decide (uE p l)),.int .i64 0]∧Ho=[]):=by
 refine D0 Tryz.func110 Tryz.ntmps110 fun w=>?_;refine aI 2 [] ?_;refine dV 0 fun b1=>?_;refine aL 8 [0] ?_;refine aQ (bW T.one22 U ((by rw [cR]:G.cell b (0+2)=G.cell b 2).trans (vW hU h2))) ?_;refine bV 1 U (bz _ _ _ _ _ _ _ _ _ sO sO sN sN sO hac hl hRL hR) fun v1 G1 Ho1 hle1 hp=>?_;obtain ⟨rfl,rfl⟩:=hp;replace hc:=hc.up hle1;replace ho:=ho.up hle1;replace ha:=ha.up hle1;refine aS 7 [] ?_;refine gY ?_;exact ⟨U,U⟩
theorem c55 (G:A3) (k1 k2:Int) (pl:List R2) (pa:Option Addr) (pc:Nat) (xp yp zp:PV) (xac xao yac yao zac zao:Option Addr) (xcc xoc ycc yoc zcc zoc:Nat) :
 Does Tryz.prog 55 [.agg #[.int .i64 k1,.int .i64 k2,.slice pa pl.length pc,.int .i64 xp.ins,.int .i64 xp.regs,.slice xac xp.code.length xcc,.slice xao xp.outs.length xoc,.int .i64 yp.ins,.int .i64 yp.regs,.slice yac yp.code.length ycc,.slice yao yp.outs.length yoc,.int .i64 zp.ins,.int .i64 zp.regs,.slice zac zp.code.length zcc,.slice zao zp.outs.length zoc]] G [] (fun v G' Ho=>∃ (s:Option Addr) (b:Nat),v=.slice s ([⟨⟨xp.ins,xp.regs,xac,xp.code.length,xcc,xao,xp.outs.length,xoc⟩,107,b⟩,⟨⟨yp.ins,yp.regs,yac,yp.code.length,ycc,yao,yp.outs.length,yoc⟩,109,b⟩,⟨⟨zp.ins,zp.regs,zac,zp.code.length,zcc,zao,zp.outs.length,zoc⟩,110,b⟩]:List PF).length 3∧Arr G' s ([⟨⟨xp.ins,xp.regs,xac,xp.code.length,xcc,xao,xp.outs.length,xoc⟩,107,b⟩,⟨⟨yp.ins,yp.regs,yac,yp.code.length,ycc,yao,yp.outs.length,yoc⟩,109,b⟩,⟨⟨zp.ins,zp.regs,zac,zp.code.length,zcc,zao,zp.outs.length,zoc⟩,110,b⟩]:List PF)∧G' b=some (.cells #[.int .i64 k1,.int .i64 k2,.slice pa pl.length pc,.int .i64 xp.ins,.int .i64 xp.regs,.slice xac xp.code.length xcc,.slice xao xp.outs.length xoc,.int .i64 yp.ins,.int .i64 yp.regs,.slice yac yp.code.length ycc,.slice yao yp.outs.length yoc,.int .i64 zp.ins,.int .i64 zp.regs,.slice zac zp.code.length zcc,.slice zao zp.outs.length zoc] 28 (0,0))∧Ho=[]):=by
 refine D0 Tryz.func55 Tryz.ntmps55 fun w=>?_;refine aI 2 [] ?_;refine dV 0 fun b1=>?_;refine aL 6 [] ?_;refine aQ (eF 0 T.agg26 U U U U) ?_;refine aQ (gR U U) ?_;refine aQ (bP (cs:=[_,_,_,_,_]) T.st100 U U U) ?_;refine aC 1 [] ?_;refine aQ (eF 0 T.agg26 U U U U) ?_;refine aQ (gR U U) ?_;refine aQ (bP (cs:=[_,_,_,_,_]) T.st100 U U U) ?_;refine aC 1 [] ?_;refine aQ (eF 0 T.agg26 U U U U) ?_;refine aQ (gR U U) ?_;refine aQ (bP (cs:=[_,_,_,_,_]) T.st100 U U U) ?_;refine cZ (α:=PF) 1 [⟨⟨xp.ins,xp.regs,xac,xp.code.length,xcc,xao,xp.outs.length,xoc⟩,107,b1⟩,⟨⟨yp.ins,yp.regs,yac,yp.code.length,ycc,yao,yp.outs.length,yoc⟩,109,b1⟩,⟨⟨zp.ins,zp.regs,zac,zp.code.length,zcc,zao,zp.outs.length,zoc⟩,110,b1⟩] U T.sl96 T.el100 U U U U U fun b2=>?_;refine aS 4 [] ?_;refine pZ 0 U fun G1 hle1 hb1=>?_;have hoF:A4 (some ⟨b2,0,none⟩) 3 ([⟨⟨xp.ins,xp.regs,xac,xp.code.length,xcc,xao,xp.outs.length,xoc⟩,107,b1⟩,⟨⟨yp.ins,yp.regs,yac,yp.code.length,ycc,yao,yp.outs.length,yoc⟩,109,b1⟩,⟨⟨zp.ins,zp.regs,zac,zp.code.length,zcc,zao,zp.outs.length,zoc⟩,110,b1⟩]:List PF) []:=fK Ea;refine cX (α:=PF) 1 U hoF fun G2 hle2 hA2=>?_;refine cV ?_;exact ⟨_,b1,U,hA2,hle2 _ _ hb1,U⟩
end
def Xz (a:Option Addr) (n c:Nat) (s:RS):Obj:=.cells #[.slice a n c,.int .i64 (s.k:Int),.bool s.wr] 198 (0,0)
def Pw (G:A3) (g:FuncId) (caps:List Value) (good:Int→Bool):Prop:=tO Tryz.prog g∧∀ (G':A3) (x:Int),G.le G'→0≤x→x≤255→Does Tryz.prog g ([]++[.int .i64 x]++caps) G' [] (fun v G'' Ho=>v=.bool (decide (good x=true))∧G''=G'∧Ho=[])
theorem JK (G:A3) (b:Nat) (a:Option Addr) (c:Nat) (B:List U8) (s:RS) (g:FuncId) (caps:List Value) (good:Int→Bool) (hg:Pw G g caps good) (hA:Arr G a B) (hB:C6 B) (hk:s.k≤B.length) (hl:B.length≤1048576) :
 Does Tryz.prog 169 [.pointer (some ⟨b,0,none⟩),.func (.func g) #[] caps.toArray] G [(0,some b,Xz a B.length c s)] (fun v G' Ho=>v=.int .i64 (nx B s good).1∧G'=G∧Ho=[(0,some b,Xz a B.length c (nx B s good).2)]):=by
 refine D0 Tryz.func169 Tryz.ntmps169 fun w=>?_;obtain ⟨k,wr⟩:=s;replace hk:k≤B.length:=hk;cases wr with
 | true =>
   show Wc none Tryz.prog _ ⟨_,_,_,_⟩ ⟨_,_,[(0,some b,.cells #[.slice a B.length c,.int .i64 (k:Int),.bool (decide ((0:Int)<1))] 198 (0,0))],_⟩ _;refine bI 7 [] ?_;refine dE [0] [(0,29)] T.mixed [[0],[1],[2]] ?_;refine bQ 3 ?_;refine aC 1 [0] ?_;refine bC ?_;refine dK [[4]] ?_;refine qI 9 U tY ?_;refine dK [[5],[6],[7],[8],[9],[10],[11],[12],[13],[14],[15],[16],[17],[18],[19],[20],[21],[22],[23],[24],[25],[26],[27],[28]] ?_;refine bQ 29 ?_;refine aC 1 [] ?_;refine bC ?_;refine dK [[30],[31]] ?_;refine iN sR F9 wJ ?_;refine eE 17 [1,0] ?_;refine nP [0] ?_;rw [NY rfl];exact ⟨U,U,U⟩
 | false =>
   show Wc none Tryz.prog _ ⟨_,_,_,_⟩ ⟨_,_,[(0,some b,.cells #[.slice a B.length c,.int .i64 (k:Int),.bool (decide ((1:Int)<0))] 198 (0,0))],_⟩ _;refine bI 7 [] ?_;refine dE [0] [] T.mixed [[0],[1],[2],[3,0],[4]] ?_;refine Gm.no 9 U sN ?_;refine dK [[5],[6],[7],[8,0],[9],[10],[11],[12,0],[13],[14],[15],[16]] ?_;refine Gm.cases 21 U (fun hg1=>?_) fun hg1=>?_
   · refine dK [[17],[18],[19],[20],[21],[22],[23],[24],[25],[26],[27],[28]] ?_;refine bQ 29 ?_;refine aC 1 [] ?_;refine bC ?_;refine dK [[30],[31]] ?_;refine dG ?_;refine eE 17 [1,0] ?_;refine nP [0] ?_;rw [XY (s:=⟨k,false⟩) (show k=B.length by omega)];exact ⟨U,U,U⟩
   have h8:=hB k sN;have ew:IntKind.i64.wrap (B[(k:Int).toNat]?.getD default).v=(B[k]?.getD default).v:=RI (by show _≤(B[k]?.getD default).v∧(B[k]?.getD default).v≤_;omega);refine dK [[17],[18],[19],[20],[21,0],[22],[23],[24],[25,0]] ?_;refine pO 26 [] U (iI (α:=U8) T.sl38 U U hA sN) ?_;refine pO 27 [] U (bW T.one5 U (gB hA sN 0 U U)) ?_;refine pO 28 [] U (cP U T.u3 U) ?_;refine bQ 29 ?_;refine aC 1 [] ?_;rw [ew];refine fE (fst:=[]) (cap:=caps) 20 U hg.1 U U (hg.2 _ _ (bN _) h8.1 h8.2) (sS F9) fun v9 G9 Ho9 hle9 hp=>?_;obtain ⟨rfl,rfl,rfl⟩:=hp;refine bC ?_;refine pO 30 [] U (fP U) ?_;refine dK [[31]] ?_;refine dG ?_;refine cN ?_;refine cW (fun hc1=>?_) fun hc1=>?_;refine bE 15 [0] ?_;refine nP [0] ?_;rotate_left;refine bI 15 [0,0] ?_;refine dE [0] [] T.mixed [[0],[1],[2],[3,0],[4],[5],[6],[7,0],[8]] ?_;refine mL (α:=U8) 9 T.sl38 ?_;refine rC 10 [0] 0 T.one5 ?_;refine dW 11 [] U (cP U T.u3 U) ?_;refine dK [[12]] ?_;refine dG ?_;refine eE 2 [] ?_;refine nP [0] ?_;rotate_left
   · rw [XZ (s:=⟨k,false⟩) (nM.2 hc1)];exact ⟨U,U,U⟩
   rw [WM (s:=⟨k,false⟩) rfl (show k≠B.length by omega) (fN.1 hc1)];have e2:(k:Int)+1 - 1=(k:Int):=sN;rw [e2,ew];exact ⟨U,U,U⟩
theorem jn (G:A3) (lo hi x:Int) (b1 b2:Nat) (c1 c2:Array Value) (t1 t2:TypeId) (z1 z2:Nat×Nat) (h1:G b1=some (.cells c1 t1 z1)) (h2:G b2=some (.cells c2 t2 z2)) (e1:c1[0]?=some (.int .i64 lo)) (e2:c2[0]?=some (.int .i64 hi)) :
 Does Tryz.prog 170 [.int .i64 x,.pointer (some ⟨b1,0,none⟩),.pointer (some ⟨b2,0,none⟩)] G [] (fun v G' Ho=>v=.bool (decide (lo≤x∧x≤hi))∧G'=G∧Ho=[]):=by
 refine D0 Tryz.func170 Tryz.ntmps170 fun w=>?_;by_cases hlo:lo≤x
 · refine aI 8 [] ?_;refine aQ (bW T.one3 U (vW h1 e1)) ?_;refine aC 2 [] ?_;refine WH 8 ?_;refine aC 3 [] ?_;refine aQ (bW T.one3 U (vW h2 e2)) ?_;refine aS 7 [] ?_;refine cV ?_;refine ⟨?_,U,U⟩;congr 1;rw [qO,aT];simp [hlo]
 refine aI 8 [] ?_;refine aQ (bW T.one3 U (vW h1 e1)) ?_;refine aC 2 [] ?_;refine mZ 8 ?_;refine aS 8 [] ?_;refine cV ?_;refine ⟨?_,U,U⟩;congr 1;rw [qO,aT];simp [hlo]
theorem jq (G:A3) (x:Int):Does Tryz.prog 171 [.int .i64 x] G [] (fun v G' Ho=>v=.bool (decide (x≤16∨240≤x))∧G'=G∧Ho=[]):=by
 refine D0 Tryz.func171 Tryz.ntmps171 fun w=>?_;refine aI 10 [] ?_;apply dS 3 5 8 U;intro hg1;refine aC 5 [] ?_;exact dB 3 0;intro hg1;refine aC 3 [] ?_;exact dB 3 0;refine aS 4 [] ?_;refine cV ?_;exact ⟨U,U,U⟩
theorem Dm (p:Prop) [Decidable p]:Value.bool (decide p)=Value.bool (decide (decide p=true)):=by
 congr 1;rw [qO];simp
theorem Ck (G:A3) (b:Nat) (a:Option Addr) (c:Nat) (B:List U8) (s:RS) (lo hi:Int) (hA:Arr G a B) (hB:C6 B) (hk:s.k≤B.length) (hl:B.length≤1048576) :
 Does Tryz.prog 123 [.pointer (some ⟨b,0,none⟩),.int .i64 lo,.int .i64 hi] G [(0,some b,Xz a B.length c s)] (fun v G' Ho=>∃ (x:Int) (t:RS),wi B s lo hi=(x,t)∧t.k≤B.length∧(0≤x∧x≤255)∧v=.int .i64 x∧Ho=[(0,some b,Xz a B.length c t)]):=by
 refine D0 Tryz.func123 Tryz.ntmps123 fun w=>?_;refine aI 2 [] ?_;refine dV 1 fun b1=>?_;refine dV 2 fun b2=>?_;refine aL 6 [] ?_;refine aQ (gR U U) ?_;refine lI 1 U fun G1 hle1 hb1=>?_;refine lI 2 U fun G2 hle2 hb2=>?_;have hb1':=hle2 _ _ hb1;have hG:Pw G2 170 [.pointer (some ⟨b1,0,none⟩),.pointer (some ⟨b2,0,none⟩)] (fun x=>decide (lo≤x∧x≤hi)):=⟨T.fn170,fun G' x hle h0 h1=>(jn G' lo hi x b1 b2 _ _ _ _ _ _ (hle _ _ hb1') (hle _ _ hb2) U U).mono fun v G'' Ho _ h=>⟨h.1.trans (Dm _),h.2⟩⟩
 refine bV 0 U (JK _ b a c B s 170 _ _ hG ((hA.up hle1).up hle2) hB hk hl) fun v3 G3 Ho3 hle3 hp=>?_;obtain ⟨rfl,rfl,rfl⟩:=hp;refine aS 4 [] ?_;refine nP [0] ?_;exact ⟨_,_,U,ic hk,YA hB hk,U,U⟩
theorem w8 {x:Int} (h:0≤x∧x≤255):IntKind.i8.wrap x=if 128≤x then x - 256 else x:=by
 simp [IntKind.wrap,IntKind.bits,IntKind.signed];split <;> split <;> omega
def gS (x:Int):Bool:=decide (x≤16∨240≤x)
theorem cm (B:List U8) (s:RS):sg B s=(if 128≤(nx B s gS).1 then (nx B s gS).1 - 256 else (nx B s gS).1,(nx B s gS).2):=rfl
theorem cp (G:A3) (b:Nat) (a:Option Addr) (c:Nat) (B:List U8) (s:RS) (hA:Arr G a B) (hB:C6 B) (hk:s.k≤B.length) (hl:B.length≤1048576) :
 Does Tryz.prog 124 [.pointer (some ⟨b,0,none⟩)] G [(0,some b,Xz a B.length c s)] (fun v G' Ho=>∃ (x:Int) (t:RS),sg B s=(x,t)∧t.k≤B.length∧(-128≤x∧x≤255)∧v=.int .i64 x∧Ho=[(0,some b,Xz a B.length c t)]):=by
 refine D0 Tryz.func124 Tryz.ntmps124 fun w=>?_;refine aI 8 [] ?_;have hG:Pw G 171 [] gS:=⟨T.fn171,fun G' x hle h0 h1=>(jq G' x).mono fun v G'' Ho _ h=>⟨h.1.trans (Dm _),h.2⟩⟩
 refine bV 0 U (JK _ b a c B s 171 _ _ hG hA hB hk hl) fun v3 G3 Ho3 hle3 hp=>?_;obtain ⟨rfl,rfl,rfl⟩:=hp;have hv:=Lk (B:=B) (s:=s) (g:=gS) hB hk;have hk2:=Tz (B:=B) (s:=s) (g:=gS) hk;have e9:=cm B s;obtain ⟨x,t,e⟩:∃ x t,nx B s gS=(x,t):=⟨_,_,U⟩
 rw [e] at hv hk2 e9 ⊢;dsimp only at hv hk2 e9 ⊢;refine aQ (cP U T.u253 U) ?_;refine aQ (cP U T.u3 U) ?_;refine aS 4 [] ?_;refine nP [0] ?_;refine ⟨_,t,e9,hk2,by split <;> omega,?_,U⟩;rw [w8 hv,RI Td]
theorem w16 {x:Int} (h:0≤x∧x≤65535):IntKind.i16.wrap x=if 32768≤x then x - 65536 else x:=by
 simp [IntKind.wrap,IntKind.bits,IntKind.signed];split <;> split <;> omega
theorem Px {h l:Int} (hh:0≤h∧h≤255) (hl:0≤l∧l≤255):bits .or .i64 (h*256) l=h*256+l:=by
 obtain ⟨a,rfl⟩:∃ a:Nat,h=(a:Int):=⟨h.toNat,by omega⟩
 obtain ⟨b,rfl⟩:∃ b:Nat,l=(b:Int):=⟨l.toNat,by omega⟩
 have e:=(bits_nat .i64 16 sY (fun n h1 h2=>RI (by have:(2:Int) ^ 16=65536:=sY;omega)) (2 ^ 8*a) b sN sN).2;rw [←lP sN a] at e;have e2:((a:Int)*256)=((2 ^ 8*a:Nat):Int):=sN;rw [e2,e];omega
theorem TT {h:Int} (hh:0≤h∧h≤65535):IntKind.i64.wrap (h*2 ^ (min (8:Int).toNat IntKind.i64.bits))=h*256:=by
 have e:(2:Int) ^ (min (8:Int).toNat IntKind.i64.bits)=256:=sY;rw [e,RI sN]
theorem YF (G:A3) (h l:Int) (hh:0≤h∧h≤255) (hl:0≤l∧l≤255):Does Tryz.prog 218 [.int .i64 h,.int .i64 l] G [] (fun v G' Ho=>v=.int .i64 (i16 h l)∧G'=G∧Ho=[]):=by
 refine D0 Tryz.func218 Tryz.ntmps218 fun w=>?_;refine aI 8 [] ?_;refine aQ (Qy.shl U U sN) ?_;refine aC 1 [] ?_;refine aQ (sE U U) ?_;refine aQ (cP U T.u292 U) ?_;refine aQ (cP U T.u3 U) ?_;refine aS 4 [] ?_;refine cV ?_;refine ⟨?_,U,U⟩;rw [TT sN,Px hh hl,w16 sN,RI Td];rfl
theorem cq (G:A3) (op x:Int) (b1:Nat) (c1:Array Value) (t1:TypeId) (z1:Nat×Nat) (h1:G b1=some (.cells c1 t1 z1)) (e1:c1[0]?=some (.int .i64 op)) :
 Does Tryz.prog 217 [.int .i64 x,.pointer (some ⟨b1,0,none⟩)] G [] (fun v G' Ho=>v=.bool (decide (Cv op x=true))∧G'=G∧Ho=[]):=by
 refine D0 Tryz.func217 Tryz.ntmps217 fun w=>?_;refine aI 8 [] ?_;refine aQ (bW T.one3 U (vW h1 e1)) ?_;by_cases ho:op=5∨op=6
 · rcases ho with rfl | rfl
   · refine aL 19 [1,1] ?_;apply bX 3 10 13 U;intro hg1;refine aC 5 [] ?_;exact dB 3 0;intro hg1;refine aC 3 [] ?_;exact dB 3 0;refine aC 1 [] ?_;apply bX 3 14 17 U;intro hg1;refine aC 5 [] ?_;exact dB 3 0;intro hg1;refine aC 3 [] ?_;exact dB 3 0;refine aS 6 [] ?_;refine cV ?_;exact ⟨by unfold Cv;rw [aF (by omega)];exact Dm _,U,U⟩
   refine aL 22 [0,1] ?_;apply bX 3 10 13 U;intro hg1;refine aC 5 [] ?_;exact dB 3 0;intro hg1;refine aC 3 [] ?_;exact dB 3 0;refine aC 1 [] ?_;apply bX 3 14 17 U;intro hg1;refine aC 5 [] ?_;exact dB 3 0;intro hg1;refine aC 3 [] ?_;exact dB 3 0;refine aS 6 [] ?_;refine cV ?_;exact ⟨by unfold Cv;rw [aF (by omega)];exact Dm _,U,U⟩
 by_cases ho2:op=7∨op=8
 · rcases ho2 with rfl | rfl
   · refine aL 33 [0,0,1,1] ?_;apply bX 3 23 26 U;intro hg1;refine aC 5 [] ?_;exact dB 3 0;intro hg1;refine aC 3 [] ?_;exact dB 3 0;refine aS 6 [] ?_;refine cV ?_;exact ⟨by unfold Cv;rw [aD (by omega),aF (by omega)];exact Dm _,U,U⟩
   refine aL 36 [0,0,0,1] ?_;apply bX 3 23 26 U;intro hg1;refine aC 5 [] ?_;exact dB 3 0;intro hg1;refine aC 3 [] ?_;exact dB 3 0;refine aS 6 [] ?_;refine cV ?_;exact ⟨by unfold Cv;rw [aD (by omega),aF (by omega)];exact Dm _,U,U⟩
 refine aS 42 [0,0,0,0] ?_;refine cV ?_;exact ⟨by unfold Cv;rw [aD ho,aD ho2];exact Dm _,U,U⟩
end Go.Proofs.YtkdelpdbjfpgmaaGreatDoor
end
