/- vD of the proof (part 5): what the rows' text needs of the texts that lead to it. -/
import Derived.Test.YtkdelpdbjfpgmaaGreatDoorMPd
set_option linter.unusedVariables false
set_option linter.unusedSimpArgs false
set_option linter.unusedSectionVars false
set_option maxHeartbeats 4000000
noncomputable section
set_option maxRecDepth 100000
namespace Go.Proofs.YtkdelpdbjfpgmaaGreatDoor
open Go Go.Sl
def D6 (G:A3) (p:PV) (h:PH):Prop:=h.ins=p.ins∧h.regs=p.regs∧h.cn=p.code.length∧h.on=p.outs.length∧Arr G h.ac p.code∧Arr G h.ao p.outs
theorem D6.up {G G':A3} {p:PV} {h:PH} (hh:D6 G p h) (hle:G.le G'):D6 G' p h:=⟨hh.1,hh.2.1,hh.2.2.1,hh.2.2.2.1,hh.2.2.2.2.1.le hle,hh.2.2.2.2.2.le hle⟩
def vV (k:Nat):List (List Int):=(List.range k).map (uU k)
theorem yF (k:Nat):(vV k).length=k:=by unfold vV;rw [aP,cB]
theorem Au (k j:Nat):(uU k j).length=k:=by unfold uU;rw [aG,aJ]
theorem Zj (k:Nat):XT 4 k (vV k):=fun zs hz=>by
 unfold vV at hz;obtain ⟨j,hj,rfl⟩:=dY.1 hz;exact ⟨Au k j,Pk k j 4 sW⟩
theorem IW {k j:Nat} (h:j<k):(vV k)[j]?.getD []=uU k j:=by
 unfold vV;rw [bK,fB h];rfl
def xV (p:PV):Prop:=∀ i∈p.code,¬(i.op=6∨i.op=8)
instance (p:PV):Decidable (xV p):=inferInstanceAs (Decidable (∀ i∈p.code,_))
theorem NW {i:Sl.Instr} (rs:List (List Int)) (h:¬(i.op=6∨i.op=8)):∃ x,xU i rs=some x:=by
 unfold xU;by_cases h1:i.op=2
 · exact ⟨_,aE h1⟩
 by_cases h2:i.op=3
 · exact ⟨_,by simp only [h1,lF];rw [aE h2]⟩
 by_cases h3:i.op=4
 · exact ⟨_,by simp only [h1,h2,lF];rw [aE h3]⟩
 by_cases h4:i.op=5∨i.op=7
 · exact ⟨_,by simp only [h1,h2,h3,lF];rw [aE h4]⟩
 exact ⟨_,by simp only [h1,h2,h3,h4,h,lF];rfl⟩
theorem Pm {p:PV} (h:xV p) (gs:List (List Int)):∀ k:Nat,k≤p.code.length→∃ rs,wX p gs k=some rs
 | 0,_=>⟨_,F9⟩
 | k+1,hk=>by
   obtain ⟨rs,h1⟩:=Pm h gs k sW;have hm:p.code[(k:Int).toNat]?.getD default∈p.code:=by
    rw [aF,aA sW];exact bZ _
   obtain ⟨x,h2⟩:=NW rs (h _ hm);exact ⟨_,Dg (x:=rs) h1 h2⟩
theorem Vw {p:PV} (h:xV p) (gs:List (List Int)):∃ os,tJ p gs=some os:=by
 obtain ⟨rs,h1⟩:=Pm h gs _ (aI _);exact ⟨_,by unfold tJ;rw [h1];rfl⟩
def vK (p:PV) (k:Int) (l:List R2):Prop:=p.ins=k∧p.outs.length=l.length∧xV p∧tJ p (vV k.toNat)=some (l.map fun q=>yE q.a q.b k.toNat)
instance (p:PV) (k:Int) (l:List R2):Decidable (vK p k l):=inferInstanceAs (Decidable (_∧_))
theorem NX {os:List (List Int)} {l:List R2} {k:Nat} (hl:os.length=l.length):(os=l.map fun q=>yE q.a q.b k)↔∀ t:Nat,t<l.length→os[t]?.getD []=yE (l[t]?.getD default).a (l[t]?.getD default).b k:=by
 constructor
 · intro h t ht;rw [h,bK,aA ht];rfl
 intro h;refine hS fun i=>?_;rcases aK i l.length with h1 | h1
 · have:=h i h1;rw [aA sW,eH] at this;rw [aA sW,bK,this,aA h1];rfl
 rw [cA sW,cA Il]
theorem TN {xs ys:List Int} {k:Nat} (h1:xs.length=k) (h2:ys.length=k):xs=ys↔∀ t:Nat,t<k→xs[t]?.getD 0=ys[t]?.getD 0:=by
 constructor
 · intro h t _;rw [h]
 intro h;refine hS fun i=>?_;rcases aK i k with h3 | h3
 · have:=h i h3;rw [aA sW,aA sW] at this ⊢;exact congrArg some this
 rw [cA sW,cA sW]
theorem Jh (a b:Int) (k:Nat):(yE a b k).length=k:=by unfold yE;rw [aP,cB]
def vD (k:Int):Prop:=1≤k∧k≤8
instance (k:Int):Decidable (vD k):=inferInstanceAs (Decidable (_∧_))
def Es (l:List R2):Prop:=∀ i:Nat,i<l.length→near (l[i]?.getD default).a (l[i]?.getD default).b
def Bh (l:List R2):Prop:=∃ i:Nat,i<l.length∧((l[i]?.getD default).a=0∧(l[i]?.getD default).b=0)
open Classical in
def tL (k1 k2:Int) (l:List R2):Int:=
 if ¬(vD k1∧vD k2) then 70 else if ¬Es l then 70 else if ¬((l.length:Int)=k1+k2 - 1) then 71 else if Bh l∨Twin l then 71 else 0
theorem Di {k1 k2:Int} {l:List R2} (h:¬(vD k1∧vD k2)):tL k1 k2 l=70:=by unfold tL;rw [aE h]
theorem Zk {k1 k2:Int} {l:List R2} (h:¬Es l):tL k1 k2 l=70:=by
 unfold tL;by_cases h1:¬(vD k1∧vD k2)
 · rw [aE h1]
 rw [aD h1,aE h]
theorem Tj {k1 k2:Int} {l:List R2} (h1:vD k1∧vD k2) (h2:Es l) (h:¬((l.length:Int)=k1+k2 - 1)):tL k1 k2 l=71:=by
 unfold tL;rw [aD (fun h=>h h1),aD (fun h=>h h2),aE h]
theorem Lc {k1 k2:Int} {l:List R2} (h1:vD k1∧vD k2) (h2:Es l) (h:Bh l∨Twin l):tL k1 k2 l=71:=by
 unfold tL;rw [aD (fun h=>h h1),aD (fun h=>h h2)];by_cases h3:¬((l.length:Int)=k1+k2 - 1)
 · rw [aE h3]
 rw [aD h3,aE h]
theorem Zl {k1 k2:Int} {l:List R2} (h1:vD k1∧vD k2) (h2:Es l) (h3:(l.length:Int)=k1+k2 - 1) (h:¬(Bh l∨Twin l)):tL k1 k2 l=0:=by
 unfold tL;rw [aD (fun h=>h h1),aD (fun h=>h h2),aD (fun h=>h h3),aD h]
theorem vH {k1 k2:Int} {l:List R2} (h:tL k1 k2 l=0):vD k1∧vD k2∧(l.length:Int)=k1+k2 - 1∧uG l:=by
 by_cases h1:vD k1∧vD k2
 · by_cases h2:Es l
   · by_cases h3:(l.length:Int)=k1+k2 - 1
     · by_cases h4:Bh l∨Twin l
       · rw [Lc h1 h2 h4] at h;omega
       refine ⟨h1.1,h1.2,h3,?_,?_,fun i hi=>⟨h2 i hi,fun h5=>h4 (.inl ⟨i,hi,h5⟩)⟩,fun h5=>h4 (.inr h5)⟩
       · have:=h1.1.1;have:=h1.2.1;omega
       have:=h1.1.2;have:=h1.2.2;omega
     rw [Tj h1 h2 h3] at h;omega
   rw [Zk h2] at h;omega
 rw [Di h1] at h;omega
open Classical in
def tW (k1 k2:Int) (l:List R2) (x y z:PV):Int×Int:=
 if ¬tL k1 k2 l=0 then (0,tL k1 k2 l)
 else if ¬sY x=true then (1,80) else if ¬vK x k1 l then (1,180)
 else if ¬sY y=true then (2,80) else if ¬vK y k2 l then (2,180)
 else if ¬sY z=true then (3,80) else if ¬uP z l then (3,180) else (0,0)
structure U8 where
 v:Int
 deriving DecidableEq
instance:Inhabited U8:=⟨⟨0⟩⟩
instance:A2 U8:=⟨1,fun n=>[.int .u8 n.v],fun _=>rfl,fun _=>rfl⟩
structure RS where
 k:Nat
 wr:Bool
def C5 (B:List U8):Prop:=∀ i:Nat,i<B.length→0≤(B[i]?.getD default).v∧(B[i]?.getD default).v≤255
def nx (B:List U8) (s:RS) (g:Int→Bool):Int×RS:=
 if s.wr=true∨s.k=B.length∨g (B[s.k]?.getD default).v=false then (0,⟨s.k,true⟩) else ((B[s.k]?.getD default).v,⟨s.k+1,false⟩)
theorem NY {B:List U8} {s:RS} {g:Int→Bool} (h:s.wr=true):nx B s g=(0,⟨s.k,true⟩):=by unfold nx;rw [aE (.inl h)]
theorem XW {B:List U8} {s:RS} {g:Int→Bool} (h:s.k=B.length):nx B s g=(0,⟨s.k,true⟩):=by unfold nx;rw [aE (.inr (.inl h))]
theorem XX {B:List U8} {s:RS} {g:Int→Bool} (h:g (B[s.k]?.getD default).v=false):nx B s g=(0,⟨s.k,true⟩):=by unfold nx;rw [aE (.inr (.inr h))]
theorem WK {B:List U8} {s:RS} {g:Int→Bool} (h1:s.wr=false) (h2:s.k≠B.length) (h3:g (B[s.k]?.getD default).v=true):nx B s g=((B[s.k]?.getD default).v,⟨s.k+1,false⟩):=by
 unfold nx;rw [aD];rintro (h | h | h)
 · rw [h1] at h;cases h
 · exact h2 h
 rw [h3] at h;cases h
theorem Tk {B:List U8} {s:RS} {g:Int→Bool} (h:s.k≤B.length):(nx B s g).2.k≤B.length:=by
 unfold nx;by_cases hc:s.wr=true∨s.k=B.length∨g (B[s.k]?.getD default).v=false
 · rw [aE hc];exact h
 rw [aD hc];have:s.k≠B.length:=fun h=>hc (.inr (.inl h));show s.k+1≤_;omega
theorem Ld {B:List U8} {s:RS} {g:Int→Bool} (hB:C5 B) (h:s.k≤B.length):0≤(nx B s g).1∧(nx B s g).1≤255:=by
 unfold nx;by_cases hc:s.wr=true∨s.k=B.length∨g (B[s.k]?.getD default).v=false
 · rw [aE hc];show (0:Int)≤0∧(0:Int)≤255;omega
 rw [aD hc];have:s.k≠B.length:=fun h=>hc (.inr (.inl h));exact hB s.k sW
theorem FH {B:List U8} {s:RS} {g:Int→Bool} (h:(nx B s g).2.wr=false):s.wr=false∧s.k≠B.length∧g (B[s.k]?.getD default).v=true∧nx B s g=((B[s.k]?.getD default).v,⟨s.k+1,false⟩):=by
 unfold nx at h ⊢;by_cases hc:s.wr=true∨s.k=B.length∨g (B[s.k]?.getD default).v=false
 · rw [aE hc] at h;cases h
 refine ⟨nQ.2 fun h=>hc (.inl h),fun h=>hc (.inr (.inl h)),?_,aD hc⟩;cases hg:g (B[s.k]?.getD default).v with
 | true=>rfl
 | false=>exact absurd (.inr (.inr hg)) hc
def wi (B:List U8) (s:RS) (lo hi:Int):Int×RS:=nx B s (fun x=>decide (lo≤x∧x≤hi))
def sg (B:List U8) (s:RS):Int×RS:=
 match nx B s (fun x=>decide (x≤16∨240≤x)) with
 | (x,t)=>(if 128≤x then x - 256 else x,t)
def Cu (op c:Int):Bool:=
 if op=5∨op=6 then decide ((c≠0∧-512≤c)∧c≤512) else if op=7∨op=8 then decide (1≤c∧c≤64) else decide (c=0)
def i16 (h l:Int):Int:=if 32768≤h*256+l then h*256+l - 65536 else h*256+l
def KQ (op h:Int):Bool:=(List.range 256).any fun l=>Cu op (i16 h (l:Int))
def Zm (B:List U8) (s:RS) (op:Int):Int×RS:=
 match nx B s (KQ op) with
 | (h,t)=>match nx B t (fun l=>Cu op (i16 h l)) with
   | (l,t')=>(i16 h l,t')
def Pn (B:List U8) (s:RS) (regs:Int):Sl.Instr×RS:=
 match wi B s 1 8 with
 | (op,t1)=>match wi B t1 0 (regs - 1) with
   | (to,t2)=>match wi B t2 0 (regs - 1) with
     | (a,t3)=>match (if op=3∨op=4 then wi B t3 0 (regs - 1) else ((0:Int),(wi B t3 0 0).2)) with
       | (b,t4)=>match Zm B t4 op with
         | (c,t5)=>(⟨op,to,a,b,c⟩,t5)
def yL (B:List U8) (regs:Int):Nat→RS→List Sl.Instr→List Sl.Instr×RS
 | 0,s,acc=>(acc,s)
 | n+1,s,acc=>match Pn B s regs with
   | (i,t)=>if t.wr=true then (acc,t) else yL B regs n t (acc++[i])
def Aj (B:List U8) (regs:Int):Nat→RS→List Int→List Int×RS
 | 0,s,acc=>(acc,s)
 | n+1,s,acc=>match wi B s 0 (regs - 1) with
   | (x,t)=>Aj B regs n t (acc++[x])
def vP (B:List U8) (s:RS):PV×RS:=
 match wi B s 1 128 with
 | (ins,t1)=>match wi B t1 ins 128 with
   | (regs,t2)=>match nx B t2 (fun x=>decide (x*256≤16384)) with
     | (h,t3)=>match nx B t3 (fun x=>decide (h*256+x≤16384)) with
       | (l,t4)=>match yL B regs (h*256+l).toNat t4 [] with
         | (code,t5)=>match wi B t5 1 128 with
           | (n,t6)=>match Aj B regs n.toNat t6 [] with
             | (outs,t7)=>(⟨ins,regs,code,outs⟩,t7)
def Gg (B:List U8):Nat→RS→List R2→List R2×RS
 | 0,s,acc=>(acc,s)
 | n+1,s,acc=>match sg B s with
   | (a,t)=>match sg B t with
     | (b,t')=>Gg B n t' (acc++[⟨a,b⟩])
def xC (B:List U8):Nat→Int
 | 0=>0
 | k+1=>(xC B k+((k:Int)+1)*(B[k]?.getD default).v) % 65521
structure UV where
 k1:Int
 k2:Int
 pl:List R2
 x:PV
 y:PV
 z:PV
def WL:Nat→Int
 | 0=>65
 | 1=>78
 | 2=>86
 | _=>49
def Tl (B:List U8):Nat→RS
 | 0=>⟨0,false⟩
 | i+1=>(wi B (Tl B i) (WL i) (WL i)).2
def Sd (B:List U8) (s:RS):RS:=
 if s.wr=true then s else (wi B (wi B s (xC B s.k / 256) (xC B s.k / 256)).2 (xC B s.k % 256) (xC B s.k % 256)).2
def wB (B:List U8):UV×RS:=
 match wi B (Tl B 4) 1 8 with
 | (k1,a5)=>match wi B a5 1 8 with
   | (k2,a6)=>match wi B a6 0 255 with
     | (n,a7)=>match Gg B n.toNat a7 [] with
       | (pl,a8)=>match vP B a8 with
         | (x,a9)=>match vP B a9 with
           | (y,a10)=>match vP B a10 with
             | (z,a11)=>(⟨k1,k2,pl,x,y,z⟩,Sd B a11)
theorem ig {B:List U8} {s:RS} {lo hi:Int} (h:s.k≤B.length):(wi B s lo hi).2.k≤B.length:=Tk h
theorem bq {B:List U8} {s:RS} {lo hi:Int} (h:s.wr=true):wi B s lo hi=(0,⟨s.k,true⟩):=NY h
theorem XY {B:List U8} {s:RS} {lo hi:Int} (hB:C5 B) (h:s.k≤B.length):0≤(wi B s lo hi).1∧(wi B s lo hi).1≤255:=Ld hB h
theorem br {B:List U8} {s:RS} {lo hi:Int} (h:(wi B s lo hi).2.wr=false):lo≤(wi B s lo hi).1∧(wi B s lo hi).1≤hi∧s.wr=false:=by
 obtain ⟨h1,h2,h3,h4⟩:=FH h;have h3:=fQ h3;unfold wi;rw [h4];exact ⟨h3.1,h3.2,h1⟩
end Go.Proofs.YtkdelpdbjfpgmaaGreatDoor
namespace Go.Proofs.YtkdelpdbjfpgmaaGreatDoor
open Go Go.Sl Go.ChangeShapes Go.WideShapes Go.RowKit Go.Joins
theorem NZ {H:Type} (d:DataW H):1≤Rows.uptoBulk d:=by
 cases d with
 | lit l=>cases l <;> simp [Rows.uptoBulk]
 | nil=>simp [Rows.uptoBulk]
 | ptr d=>simp [Rows.uptoBulk]
 | slice elems spare=>simp [Rows.uptoBulk]
 | agg parts=>simp [Rows.uptoBulk]
 | iface t d=>simp [Rows.uptoBulk]
 | map uB=>simp [Rows.uptoBulk]
 | held h=>simp [Rows.uptoBulk]
theorem OA {H:Type} (l:List (DataW H)):l.length≤Rows.uptoBulkAll l:=by
 induction l with
 | nil=>simp [Rows.uptoBulkAll]
 | cons x r ih=>have:=NZ x;simp only [Rows.uptoBulkAll,aY];omega
theorem DM {H:Type} (l r:List (DataW H)):l.length≤Rows.uptoBulk (.slice l r):=by
 have:=OA l;simp only [Rows.uptoBulk];omega
theorem XZ:Tryz.prog.underlying 3=some (.int .i64):=sZ
theorem YA:Tryz.prog.cellsOf 3=1:=sZ
theorem FI:Tryz.prog.cellsOf 52=2:=sZ
section
variable {H:Type} {enc:TypeId×Value→H}
theorem YB {P:Program} {W:World} {E Ti:TypeId} {f0 f1:Field} (hi:P.underlying Ti=some (.int .i64)) (hs:P.underlying E=some (.struct #[f0,f1]))
 (h0:f0.type=Ti∧f0.offset=0) (h1:f1.type=Ti∧f1.offset=1) (hc:P.cellsOf Ti=1) (hcE:P.cellsOf E=2) :
 Dec (α:=R2) enc P W E (fun _ _=>True):=fun n cs x h=>by
 obtain ⟨xs,m,_,_,hl,hxl,hf⟩:=DataW.trod_struct hs h;rw [hcE] at hl
 match cs,hl with
 | [v0,v1],_ =>
   have hxl':xs.length=2:=hxl
   match xs,hxl' with
   | [y0,y1],_ =>
     have k0:=hf 0 f0 F9;have k1:=hf 1 f1 F9;rw [h0.1,h0.2,hc] at k0;rw [h1.1,h1.2,hc] at k1;obtain ⟨a0,e0,_,_⟩:=DataW.trod_int hi k0;obtain ⟨a1,e1,_,_⟩:=DataW.trod_int hi k1;simp at e0 e1;exact ⟨⟨a0,a1⟩,by rw [e0,e1];rfl,H2⟩
theorem IX {W:World} {n:Nat} {v:Value} {d:DataW H×List MemPlace} (h:DataW.trod enc Tryz.prog W 0 (fun _=>true) true n 22 [v]=some d) :
 ∃ (a:Option Addr) (c:Nat) (l:List R2),v=.slice a l.length c∧Arr (Gp W) a l∧l.length≤c∧l.length≤Rows.uptoBulk d.1:=by
 obtain ⟨a,c,xs,e,hA,hl,hd⟩:=MH (α:=R2) Tryz.underlying22 FI tG (YB XZ Tryz.underlying52 ⟨F9,F9⟩ ⟨F9,F9⟩ YA FI) h;simp only [lH,and_true] at e;refine ⟨a,c,xs,e,hA,hl,?_⟩;rcases hd with ⟨_,rfl⟩ | ⟨l,r,e,hl,_⟩
 · exact aN _
 rw [e,←hl];exact DM l r
end
section
variable {H:Type} {enc:TypeId×Value→H}
theorem OB {W:World} {r:Reach} {b0:Nat} {v:Value} {d:DataW H} {ps:List MemPlace} (hv:Value.okWide Tryz.prog W r b0 22 v) (h:DataW.Trod enc Tryz.prog W 0 (fun _=>true) true 22 v d ps) :
 ∃ (a:Option Addr) (c:Nat) (l:List R2),v=.slice a l.length c∧Arr (Gp W) a l∧l.length≤c∧l.length≤Rows.uptoBulk d:=by
 obtain ⟨a0,n0,c0,rfl⟩:=okWide_slice Tryz.underlying22 hv;obtain ⟨n,h⟩:=h;exact IX (v:=.slice a0 n0 c0) h
end
end Go.Proofs.YtkdelpdbjfpgmaaGreatDoor
namespace Go.Sl
open Go
section
variable {P:Program} {B:Bs} {e:A9} {D:List Deferred} {H H':Hp} {G:A3}
theorem B3.ren {w:World} (hh:B3 H G w) (σ:Nat→Nat) (hσ:∀ t x,H'.get t=some x→H.get (σ t)=some x) (hi:∀ t t' x y,H'.get t=some x→H'.get t'=some y→σ t=σ t'→t=t'):B3 H' G w:=
 ⟨fun t b o x=>hh.own _ b o (hσ _ _ x),fun t t' b o o' x y=>hi t t' _ _ x y (hh.one _ _ b _ _ (hσ _ _ x) (hσ _ _ y)),hh.imm,fun t b o x=>hh.off _ b o (hσ _ _ x)⟩
theorem A6.ren {a:Act} {w:World} (hh:A6 B ⟨e,D,H,G⟩ a w) (σ:Nat→Nat) (hσ:∀ t x,H'.get t=some x→H.get (σ t)=some x) (hi:∀ t t' x y,H'.get t=some x→H'.get t'=some y→σ t=σ t'→t=t'):A6 B ⟨e,D,H',G⟩ a w:=
 ⟨hh.size,hh.defers,hh.env,hh.mem.ren σ hσ hi,hh.upd,fun t b o x=>hh.mine _ b o (hσ _ _ x),hh.le,hh.new⟩
end
abbrev Hp.two (x y:Option Nat×Obj) (T:Hp):Hp:=(0,x) :: (1,y) :: T.shift 2
theorem Hj (x y:Option Nat×Obj) (T:Hp) (t:Nat):(Hp.two x y T).get t=if t=0 then some x else if t=1 then some y else T.get (t - 2):=by
 unfold Hp.two;rw [bC];by_cases h0:0=t
 · subst h0;rw [aE rfl,aE rfl]
 rw [aD h0,aD (lT h0),bC];by_cases h1:1=t
 · subst h1;rw [aE rfl,aE rfl]
 rw [aD h1,aD (lT h1),eW,aE (by omega)]
section
variable {P:Program} {ops:Array Oper} {rest:List Oper} {B:Bs} {e:A9} {D:List Deferred} {H:Hp} {G:A3} {K:Act→World→Prop}
 {ty:TypeId} {pos:String} {after:Array Edge} {d:Nat}
theorem IY {g:Operand} {l:Nat} {xs:Array Operand} {ats:Array TypeId} {vs:List Value} {A Hi:Hp} {x1 x2:Option Nat×Obj} {post:Value→A3→Hp→Prop} (k r1 r2:Nat)
 (hn:Nat.ble (d+1) B.n=true) (hg:e.ev g=some (.func (.yield l) #[] #[])) (hx:e.evs xs.toList=some vs) (h1:H.get r1=some x1) (h2:H.get r2=some x2) (hr:(Nat.ble (r1+1) k && Nat.ble (r2+1) k && !Nat.beq r1 r2)=true)
 (hH:H.sub A) (hA1:A.get r1=none) (hA2:A.get r2=none) (ht:H.tl k Hi) (hA:xZ k A=true)
 (hF:C3 P l vs G (Hp.two x1 x2 Hi) post) (h:∀ v G' Ho,G.le G'→post v G' Ho→Wl P ops rest B ⟨(d,v) :: e,D,A++Ho.shift k,G'⟩ K) :
 Wl P ops (⟨some d,.call { callee:=.value g,args:=xs,argTypes:=ats },ty,pos,after,none⟩ :: rest) B ⟨e,D,H,G⟩ K:=by
 simp only [aW,pO] at hr;have hr1:=cU hr.1.1;have hr2:=cU hr.1.2;have hr3:r1≠r2:=fun q=>by subst q;have:=hr.2;simp at this
 intro a w hh;refine Wl.yield (H:=A++(Hp.two x1 x2 Hi).shift k) k hn hg hx F9 hA hF h a w (hh.ren (fun t=>if t<k then t else if t=k then r1 else if t=k+1 then r2 else t - 2) (fun t x hx=>?_) (fun t t' x y hx hy he=>?_))
 · rw [eR] at hx;by_cases htk:t<k
   · simp only [aE htk];rw [eW,aD (by omega),Option.or_none] at hx;exact kL hH t x hx
   rw [nO hA t sW,iE,eW,aE (by omega),Hj] at hx;simp only [aD htk];by_cases h0:t=k
   · rw [aE (by omega)] at hx;rw [aE h0,←hx];exact h1
   rw [aD (by omega)] at hx;rw [aD h0];by_cases h9:t=k+1
   · rw [aE (by omega)] at hx;rw [aE h9,←hx];exact h2
   rw [aD (by omega)] at hx;rw [aD h9];refine ht _ _ ?_;rw [eW,aE (by omega),←hx];congr 1;omega
 have hlow:∀ u z,u<k→Hp.get (A++(Hp.two x1 x2 Hi).shift k) u=some z→u≠r1∧u≠r2:=fun u z hu hz=>by
  rw [eR,eW,aD (by omega),Option.or_none] at hz;exact ⟨fun q=>by (subst q;rw [hA1] at hz;cases hz),fun q=>by (subst q;rw [hA2] at hz;cases hz)⟩
 have q1:=hlow t x;have q2:=hlow t' y;by_cases c1:t<k
 · have p1:=q1 c1 hx;by_cases c2:t'<k
   · simpa [c1,c2] using he
   simp only [aE c1,aD c2] at he;split at he <;> rename_i c3
   · omega
   split at he <;> omega
 by_cases c2:t'<k
 · have p2:=q2 c2 hy;simp only [aD c1,aE c2] at he;split at he <;> rename_i c3
   · omega
   split at he <;> omega
 simp only [aD c1,aD c2] at he;split at he <;> rename_i c3
 · split at he <;> rename_i c4
   · omega
   split at he <;> omega
 split at he <;> rename_i c4
 · split at he <;> rename_i c5
   · omega
   split at he <;> omega
 split at he <;> rename_i c5
 · omega
 split at he <;> omega
abbrev pZ:=@IY
end
section
variable {P:Program} {B:Bs} {e:A9} {D:List Deferred} {H:Hp} {G:A3}
theorem Tm {ι:Type} {r:Option Nat} {c:Code} {Q:Exit→Act→World→Prop} (k:Nat) (I:ι→A9×Hp) (T:ι→Hp) (g:ι→A3) (φ:ι→Prop) (μ:ι→Nat) (i0:ι) (h0:φ i0) (hg:G=g i0)
 (he:e.sub (I i0).1) (hH:H.sub (I i0).2) (ht:H.tl k (T i0))
 (hb:∀ i,φ i→Wc r P c B ⟨(I i).1,D,(I i).2++(T i).shift k,g i⟩ (Exit.then (Dz B (fun i=>⟨(I i).1,D,(I i).2++(T i).shift k,g i⟩) φ μ (μ i)) Q)):Wc r P (.loop c) B ⟨e,D,H,G⟩ Q:=
 In (fun i=>⟨(I i).1,D,(I i).2++(T i).shift k,g i⟩) φ μ i0 h0 (fun _ _ h=>by rw [hg] at h;exact h.cutT he hH ht) hb
theorem Hk {ι:Type} {I:ι→A9×Hp} {T:ι→Hp} {g:ι→A3} {k:Nat} {φ:ι→Prop} {μ:ι→Nat} {m:Nat} {Q:Exit→Act→World→Prop} (j:ι) (hφ:φ j) (hμ:μ j<m) (hg:G=g j)
 (he:e.sub (I j).1) (hH:H.sub (I j).2) (ht:H.tl k (T j)):Ar (Exit.then (Dz B (fun i=>⟨(I i).1,D,(I i).2++(T i).shift k,g i⟩) φ μ m) Q) .normal B ⟨e,D,H,G⟩:=
 fun a w hh=>⟨j,hφ,hμ,by rw [hg] at hh;exact hh.cutT he hH ht⟩
end
def Fp {β γ:Type} (P:Program) (f:FuncId) (caps:List Value) (G:A3) (enc:β→γ→List Value) (o1 o2:β→γ→Option Nat×Obj) (good:β→γ→Prop) (xs:List β):Prop:=
 ∀ (ι:Type) (J:ι→Hp) (inv:Nat→ι→Prop) (stop:ι→Prop) (l:Nat) (i0:ι),inv 0 i0→
  (∀ k x y i,xs[k]?=some x→good x y→inv k i→C3 P l (enc x y) G (Hp.two (o1 x y) (o2 x y) (J i)) (fun v G' Ho=>G'=G∧∃ j,Ho=J j∧((v=.bool true∧inv (k+1) j)∨(v=.bool false∧stop j))))→
  Does P f (.func (.yield l) #[] #[] :: caps) G (J i0) (fun v G' Ho=>G'=G∧∃ j,Ho=J j∧(inv xs.length j∨stop j))
section stmt
variable {P:Program} {B:Bs} {e:A9} {D:List Deferred} {H:Hp} {G:A3}
variable {β γ ι:Type} {Q:Exit→Act→World→Prop} {f:FuncId} {caps:List Value} {enc:β→γ→List Value} {o1 o2:β→γ→Option Nat×Obj} {good:β→γ→Prop} {xs:List β} {ps:List Nat} {assign body:Code} {g:Operand}
theorem Se (tl td u1 u2:Nat) (I:ι→Hp) (inv:Nat→ι→Prop) (stop:Code→ι→Prop) (i0:ι) (hg:e.ev g=some (.func (.func f) #[] caps.toArray)) (hf:tZ P f)
 (hps:∀ x y,(enc x y).length=ps.length) (hpb:ps.all (fun t=>Nat.ble (t+1) B.n)=true) (hit:Fp P f caps G enc o1 o2 good xs) (h0:inv 0 i0) (hH:∀ t x,(I i0).get t=some x→H.get t=some x)
 (htl:Nat.beq tl td=false∧∀ i,(I i).get tl=none) (hu:Nat.beq u1 u2=false)
 (hround:∀ k x y i l dd q w0,xs[k]?=some x→good x y→inv k i→Wc (some l) P assign ⟨B.n,w0,(Hp.two (o1 x y) (o2 x y) (RJ tl td q l dd (I i) none)).has,G⟩ ⟨A9.ps ps (enc x y) e,[],(u1,o1 x y) :: (u2,o2 x y) :: RJ tl td q l dd (I i) none,G⟩
  (Ov P l body (B8 G (Hp.two (o1 x y) (o2 x y) (RJ tl td q l dd (I i) none)) w0 (fun v G' Ho=>G'=G∧∃ j:ι×Option Code,Ho=RJ tl td q l dd (I j.1) j.2∧((v=.bool true∧j.2=none∧inv (k+1) j.1)∨(v=.bool false∧∃ c,j.2=some c∧stop c j.1))))))
 (hdone:∀ j dd,inv xs.length j→Ar Q .normal B ⟨e,mark dd :: D,(td,some dd,.deferred (some [])) :: I j,G⟩)
 (hstop:∀ j dd c,stop c j→Wc none P c B ⟨e,mark dd :: D,(td,some dd,.deferred (some [])) :: I j,G⟩ Q) :
 Wc none P (.rangeFunc g ps.toArray assign body) B ⟨e,D,H,G⟩ Q:=by
 intro a w hh;refine wpIn_rangeFunc fun fn _=>?_;obtain ⟨q,hq⟩:∃ q:Loop,q={ state:=.ready,pending:=none,fn,tmps:=a.tmps,params:=ps.toArray,assign,body,defers:=w.heap.size }:=⟨_,F9⟩
 obtain ⟨fnn,hf1,hf2,hf3⟩:=hf;obtain ⟨ht3,htI⟩:=htl;have hne:tl≠td:=fun h=>by subst h;simp at ht3
 have hune:u1≠u2:=fun h=>by subst h;simp at hu
 have hA:=hh.alloc td (.deferred (some []));have hB:=hA.alloc tl (C2 q .ready none);rw [World.size_alloc] at hB;refine ⟨w.heap.size+1,[mark w.heap.size],(w.alloc (.deferred (some []))).alloc (C2 q .ready none),{ target:=.fn (.func f) caps.toArray,args:=#[.func (.yield (w.heap.size+1)) #[] #[]] },(w.alloc (.deferred (some []))).alloc (C2 q .ready none),f,
  (.func (.yield (w.heap.size+1)) #[] #[] :: caps).toArray,(w.alloc (.deferred (some []))).alloc (C2 q .ready none),?_,?_,?_,?_,fun h=>by simp [FF] at h,?_⟩
 · have:=run_enterLoop_outer (P:=P) (w:=w) fn a.tmps ps.toArray assign body;rw [hq];exact this
 · have hev:Act.eval a g=.func (.func f) #[] caps.toArray:=hh.eval hg;simp only [resolve,hev];simp [go_sem]
 · intro f' hf';trivial
 · simp [invoke,Ak _ _ hf1 hf2 hf3]
 have hB':A6 B ⟨e,D,RJ tl td q (w.heap.size+1) w.heap.size (I i0) none,G⟩ a ((w.alloc (.deferred (some []))).alloc (C2 q .ready none)):=by
  refine hB.weaken (fun _ _ h=>h) fun t x hx=>?_;rw [bC] at hx ⊢;split at hx <;> rename_i h1
  · rw [aE h1];exact hx
  rw [aD h1];rw [bC] at hx ⊢;split at hx <;> rename_i h2
  · rw [aE h2];exact hx
  rw [aD h2];exact hH t x hx
 have hC:=hit (ι×Option Code) (fun s=>RJ tl td q (w.heap.size+1) w.heap.size (I s.1) s.2) (fun k j=>j.2=none∧inv k j.1) (fun j=>∃ c,j.2=some c∧stop c j.1) (w.heap.size+1) (i0,none) ⟨F9,h0⟩ (fun k x y i hx hgd hi=>?_)
 · refine Ay.2 ((hC _ hB'.mem).mono fun ex w' ⟨v,G',Ho,h1,h2,h3,h4,h5,h6,h7,j,h8,h9⟩=>?_);subst h1 h7;have hcl:=hB'.called 0 (Hi:=RJ tl td q (w.heap.size+1) w.heap.size (I i0) none) (fun t x hx=>by rw [cS];exact hx) h2 h3 h4 h5 h6;have hD:A6 B ⟨e,D,Ho,G'⟩ a w':=hcl.weaken (fun _ _ h=>h) (fun t x hx=>by
    rw [eR,eW,aE (aN _),nJ,hx];rfl)
   rw [h8] at hD;obtain ⟨ji,jp⟩:=j;have hget:Hp.get (RJ tl td q (w.heap.size+1) w.heap.size (I ji) jp) tl=some (some (w.heap.size+1),C2 q (ZO jp) jp):=by
    rw [bC,aE rfl]
   have hbk:=hD.mem.own tl _ _ hget;have hlt:=(fF.1 hbk).1;have hE:=hD.set hget (o':=C2 q .exhausted jp) (Bd w' _ _) (kW hlt);have hF:A6 B ⟨e,D,(td,some w.heap.size,.deferred (some [])) :: I ji,G'⟩ a (w'.putObj (w.heap.size+1) (C2 q .exhausted jp)):=by
    refine hE.weaken (fun _ _ h=>h) fun t x hx=>?_;rw [bC] at hx ⊢;have htn:tl≠t:=fun h=>by
     subst h;rw [aD (lT hne)] at hx;have:=htI ji;rw [hx] at this;cases this
    rw [aD htn,bC,aD htn,bC];exact hx
   have hG:A6 B ⟨e,mark w.heap.size :: D,(td,some w.heap.size,.deferred (some [])) :: I ji,G'⟩ { a with defers:=[mark w.heap.size]++a.defers } (w'.putObj (w.heap.size+1) (C2 q .exhausted jp)):=
    ⟨hF.size,by show [mark w.heap.size]++a.defers=_;rw [hF.defers];rfl,hF.env,hF.mem,hF.upd,hF.mine,hF.le,hF.new⟩
   have hend:(Instr.endLoop (w.heap.size+1)).run P w'=.ok jp (w'.putObj (w.heap.size+1) (C2 q .exhausted jp)):=run_endLoop hbk (by cases jp <;> simp [ZO]);refine ⟨jp,_,hend,?_⟩;rcases h9 with ⟨hj,hi⟩ | ⟨c,hj,hs⟩
   · have hj':jp=none:=hj;subst hj';exact hdone ji _ hi _ _ hG
   have hj':jp=some c:=hj;subst hj';exact hstop ji _ c hs _ _ hG
 obtain ⟨i,ip⟩:=i;obtain ⟨hip,hi⟩:=hi;have hip':ip=none:=hip;subst hip';intro w2 hw2;have hl2:w2.heap[w.heap.size+1]?=some (C2 q .ready none):=hw2.own (tl+2) _ _ (by rw [Hj,aD (by omega),aD (by omega),jU,bC,aE rfl];rfl);have hq2:q.params=ps.toArray∧q.tmps=a.tmps∧q.assign=assign∧q.body=body:=by rw [hq];exact ⟨F9,F9,F9,F9⟩
 have hy:=run_yield (P:=P) (args:=(enc x y).toArray) hl2 (by show _=q.params.size;rw [hq2.1];simp [hps x y]);refine ⟨_,_,_,_,hy,roundIn_of_wpIn (F:=Fence.wide) (n:=0) H2 ?_⟩;have hz:=Ej ps (enc x y) e a.tmps hh.size hh.env hpb;have hr:=hround k x y i (w.heap.size+1) w.heap.size q w2 hx hgd hi;have hhold0:A6 ⟨B.n,w2,(Hp.two (o1 x y) (o2 x y) (RJ tl td q (w.heap.size+1) w.heap.size (I i) none)).has,G⟩ ⟨A9.ps ps (enc x y) e,[],Hp.two (o1 x y) (o2 x y) (RJ tl td q (w.heap.size+1) w.heap.size (I i) none),G⟩
  { tmps:=(q.params.zip (enc x y).toArray).foldl (fun tmps (t,a)=>tmps.setIfInBounds t a) q.tmps,defers:=[] } w2:=by
  refine ⟨?_,F9,?_,hw2,mX _ _,fun t b o hx=>.inr ⟨t,o,hx⟩,bN _,fun b h1 h2=>(h1 h2).elim⟩
  · show ((q.params.zip (enc x y).toArray).foldl _ q.tmps).size=B.n;rw [hq2.1,hq2.2.1];have:=hz.1;simpa using this
  intro i v hv;show ((q.params.zip (enc x y).toArray).foldl _ q.tmps)[i]?=some v;rw [hq2.1,hq2.2.1];have:=hz.2 i v hv;simpa using this
 have hhold:=hhold0.ren (H':=(u1,o1 x y) :: (u2,o2 x y) :: RJ tl td q (w.heap.size+1) w.heap.size (I i) none) (fun t=>if t=u1 then 0 else if t=u2 then 1 else t+2) (fun t z hz=>by
  rw [Hj];rw [bC] at hz;by_cases c1:t=u1
  · rw [aE c1.symm] at hz;rw [aE c1,aE rfl];exact hz
  rw [aD (lT c1),bC] at hz;by_cases c2:t=u2
  · rw [aE c2.symm] at hz;rw [aD c1,aE c2,aD (by decide),aE rfl];exact hz
  rw [aD (lT c2)] at hz;rw [aD c1,aD c2,aD (by omega),aD (by omega),jU];exact hz) (fun t t' z z' _ _ he=>by
  by_cases c1:t=u1
  · rw [aE c1] at he;by_cases c2:t'=u1
    · omega
    rw [aD c2] at he;split at he <;> omega
  rw [aD c1] at he;by_cases c2:t'=u1
  · rw [aE c2] at he;split at he <;> omega
  rw [aD c2] at he;split at he <;> split at he <;> omega)
 have h:=hr _ w2 hhold;show q.assign.wpIn (FF (some (w.heap.size+1))) 0 P (Ov P (w.heap.size+1) q.body _) _ _;rw [hq2.2.2.1,hq2.2.2.2];exact h
abbrev jD:=@Se
end stmt
section
variable {P:Program} {e:A9} {H:Hp} {G:A3} {ty:TypeId}
theorem TO {t t':TypeId} {x y:Operand} {m n:ByteArray} (hx:e.ev x=some (.string m)) (hy:e.ev y=some (.string n)):Qy P (.binOp .neq t x y t') ty e H G (.bool (!(m.toList == n.toList))):=fun a w _ _ _ _ hh=>by
 simp [execOp,hh.eval hx,hh.eval hy,binOp,eqGuard,Op.stringOp]
end
abbrev Gh:=(Option Nat×Obj)×(Option Nat×Obj)
def Hp.keep (t:Nat):List Gh→Hp
 | []=>[]
 | z :: zs=>(t,z.1) :: (t+1,z.2) :: Hp.keep (t+2) zs
theorem Ji:∀ (zs:List Gh) (t i:Nat) (z:Gh),zs[i]?=some z→(Hp.keep t zs).get (t+2*i)=some z.1
 | [],_,i,_,h=>by cases i <;> cases h
 | y :: zs,t,0,z,h=>by
   cases h;show Hp.get ((t,y.1) :: _) t=_;rw [bC,aE rfl]
 | y :: zs,t,i+1,z,h=>by
   show Hp.get ((t,y.1) :: (t+1,y.2) :: Hp.keep (t+2) zs) _=_;rw [bC,aD (by omega),bC,aD (by omega),show t+2*(i+1)=(t+2)+2*i by omega];exact Ji zs (t+2) i z h
theorem Jj:∀ (zs:List Gh) (t i:Nat) (z:Gh),zs[i]?=some z→(Hp.keep t zs).get (t+2*i+1)=some z.2
 | [],_,i,_,h=>by cases i <;> cases h
 | y :: zs,t,0,z,h=>by
   cases h;show Hp.get ((t,y.1) :: (t+1,y.2) :: _) (t+1)=_;rw [bC,aD (by omega),bC,aE rfl]
 | y :: zs,t,i+1,z,h=>by
   show Hp.get ((t,y.1) :: (t+1,y.2) :: Hp.keep (t+2) zs) _=_;rw [bC,aD (by omega),bC,aD (by omega),show t+2*(i+1)+1=(t+2)+2*i+1 by omega];exact Jj zs (t+2) i z h
theorem Jk (z:Gh) (v:Option Nat×Obj):∀ (zs:List Gh) (t u:Nat),(Hp.keep t (zs++[z])).get u=some v→
 (u=t+2*zs.length∧v=z.1)∨(u=t+2*zs.length+1∧v=z.2)∨((Hp.keep t zs).get u=some v∧u<t+2*zs.length)
 | [],t,u,h=>by
   replace h:Hp.get ((t,z.1) :: (t+1,z.2) :: []) u=some v:=h;rw [bC] at h;split at h
   · cases h;exact .inl ⟨by simp;omega,F9⟩
   · rw [bC] at h;split at h
     · cases h;exact .inr (.inl ⟨by simp;omega,F9⟩)
     · cases h
 | y :: zs,t,u,h=>by
   replace h:Hp.get ((t,y.1) :: (t+1,y.2) :: Hp.keep (t+2) (zs++[z])) u=some v:=h;rw [bC] at h;split at h
   · rename_i e;subst e;exact .inr (.inr ⟨by show Hp.get ((t,y.1) :: _) t=_;rw [bC,aE rfl];exact h,by simp⟩)
   rename_i n1;rw [bC] at h;split at h
   · rename_i e;subst e;exact .inr (.inr ⟨by show Hp.get ((t,y.1) :: (t+1,y.2) :: _) (t+1)=_;rw [bC,aD n1,bC,aE rfl];exact h,by simp;omega⟩)
   rename_i n2;rcases Jk z v zs (t+2) u h with ⟨h1,h2⟩ | ⟨h1,h2⟩ | ⟨h1,h2⟩
   · exact .inl ⟨by rw [aY];omega,h2⟩
   · exact .inr (.inl ⟨by rw [aY];omega,h2⟩)
   exact .inr (.inr ⟨by show Hp.get ((t,y.1) :: (t+1,y.2) :: Hp.keep (t+2) zs) u=_;rw [bC,aD n1,bC,aD n2];exact h1,by rw [aY];omega⟩)
section
variable {P:Program} {B:Bs} {e:A9} {D:List Deferred} {H:Hp} {G:A3}
theorem A6.keep {a:Act} {w:World} (k r1 r2:Nat) {A:Hp} {zs:List Gh} {z:Gh} (hh:A6 B ⟨e,D,H,G⟩ a w) (h1:H.get r1=some z.1) (h2:H.get r2=some z.2)
 (hr:(Nat.ble (r1+1) k && Nat.ble (r2+1) k && !Nat.beq r1 r2)=true) (hH:H.sub A) (hA1:A.get r1=none) (hA2:A.get r2=none) (hA:xZ k A=true) (ht:H.tl k (Hp.keep 0 zs)) :
 A6 B ⟨e,D,A++(Hp.keep 0 (zs++[z])).shift k,G⟩ a w:=by
 simp only [aW,pO] at hr;have hr1:=cU hr.1.1;have hr2:=cU hr.1.2;have hr3:r1≠r2:=fun q=>by subst q;have:=hr.2;simp at this
 have key:∀ t x,Hp.get (A++(Hp.keep 0 (zs++[z])).shift k) t=some x→(t<k∧t≠r1∧t≠r2∧A.get t=some x)∨(t=k+2*zs.length∧x=z.1)∨(t=k+2*zs.length+1∧x=z.2)∨(k≤t∧t<k+2*zs.length∧((Hp.keep 0 zs).shift k).get t=some x):=fun t x hx=>by
  rw [eR] at hx;rcases aK t k with hk | hk
  · rw [eW,aD (by omega),Option.or_none] at hx;refine .inl ⟨hk,fun q=>?_,fun q=>?_,hx⟩
    · subst q;rw [hA1] at hx;cases hx
    subst q;rw [hA2] at hx;cases hx
  rw [nO hA t hk,iE,eW,aE hk] at hx;rcases Jk z x zs 0 (t - k) hx with ⟨q1,q2⟩ | ⟨q1,q2⟩ | ⟨q1,q2⟩
  · exact .inr (.inl ⟨by omega,q2⟩)
  · exact .inr (.inr (.inl ⟨by omega,q2⟩))
  exact .inr (.inr (.inr ⟨hk,by omega,by rw [eW,aE hk];exact q1⟩))
 refine hh.ren (fun t=>if t=k+2*zs.length then r1 else if t=k+2*zs.length+1 then r2 else t) (fun t x hx=>?_) fun t t' x y hx hy he=>?_
 · rcases key t x hx with ⟨q0,q1,q2,q3⟩ | ⟨q1,q2⟩ | ⟨q1,q2⟩ | ⟨q0,q1,q2⟩
   · rw [aD (by omega),aD (by omega)];exact kL hH t x q3
   · rw [aE q1,q2];exact h1
   · rw [aD (by omega),aE q1,q2];exact h2
   rw [aD (by omega),aD (by omega)];exact ht t x q2
 have c1:(t<k∧t≠r1∧t≠r2)∨t=k+2*zs.length∨t=k+2*zs.length+1∨(k≤t∧t<k+2*zs.length):=by
  rcases key t x hx with ⟨q0,q1,q2,q3⟩ | ⟨q1,q2⟩ | ⟨q1,q2⟩ | ⟨q0,q1,q2⟩
  · exact .inl ⟨q0,q1,q2⟩
  · exact .inr (.inl q1)
  · exact .inr (.inr (.inl q1))
  exact .inr (.inr (.inr ⟨q0,q1⟩))
 have c2:(t'<k∧t'≠r1∧t'≠r2)∨t'=k+2*zs.length∨t'=k+2*zs.length+1∨(k≤t'∧t'<k+2*zs.length):=by
  rcases key t' y hy with ⟨q0,q1,q2,q3⟩ | ⟨q1,q2⟩ | ⟨q1,q2⟩ | ⟨q0,q1,q2⟩
  · exact .inl ⟨q0,q1,q2⟩
  · exact .inr (.inl q1)
  · exact .inr (.inr (.inl q1))
  exact .inr (.inr (.inr ⟨q0,q1⟩))
 split at he <;> split at he <;> (try split at he) <;> (try split at he) <;> omega
theorem Ar.keep {x:Exit} {Q:Exit→Act→World→Prop} (k r1 r2:Nat) {A:Hp} {zs zs':List Gh} {z:Gh} (hz:zs'=zs++[z]) (h1:H.get r1=some z.1) (h2:H.get r2=some z.2)
 (hr:(Nat.ble (r1+1) k && Nat.ble (r2+1) k && !Nat.beq r1 r2)=true) (hH:H.sub A) (hA1:A.get r1=none) (hA2:A.get r2=none) (hA:xZ k A=true) (ht:H.tl k (Hp.keep 0 zs))
 (h:Ar Q x B ⟨e,D,A++(Hp.keep 0 zs').shift k,G⟩):Ar Q x B ⟨e,D,H,G⟩:=fun a w hh=>by
 subst hz;exact h a w (hh.keep k r1 r2 h1 h2 hr hH hA1 hA2 hA ht)
abbrev pS:=@Ar.keep
end
theorem IZ (A T:Hp) (k:Nat) (hA:xZ k A=true):Hp.tl (A++T.shift k) k T:=fun t x hx=>by
 rcases aK t k with hk | hk
 · rw [eW,aD (by omega)] at hx;cases hx
 rw [eR,nO hA t hk,iE];exact hx
abbrev nD:=@IZ
theorem JA (H:Hp) (k:Nat):Hp.tl H k (Hp.keep 0 []):=fun t x hx=>by
 have:(Hp.shift k (Hp.keep 0 [])).get t=none:=rfl;rw [this] at hx;cases hx
theorem Zn {H:Hp} {k:Nat} {zs:List Gh} (ht:H.tl k (Hp.keep 0 zs)) {i:Nat} {z:Gh} (h:zs[i]?=some z):H.get (k+2*i)=some z.1:=by
 refine ht _ _ ?_;rw [eW,aE (by omega),show k+2*i - k=0+2*i by omega];exact Ji zs 0 i z h
theorem Zo {H:Hp} {k:Nat} {zs:List Gh} (ht:H.tl k (Hp.keep 0 zs)) {i:Nat} {z:Gh} (h:zs[i]?=some z):H.get (k+2*i+1)=some z.2:=by
 refine ht _ _ ?_;rw [eW,aE (by omega),show k+2*i+1 - k=0+2*i+1 by omega];exact Jj zs 0 i z h
end Go.Sl
namespace Go.Proofs.YtkdelpdbjfpgmaaGreatDoor
open Go Go.Sl
theorem RK {x:Int} (h:-9223372036854775808≤x∧x≤9223372036854775807):IntKind.i64.wrap x=x:=by
 rw [IntKind.wrap_i64];omega
theorem OC {B:List U8} {s:RS} {lo hi x:Int} {t:RS} (h:wi B s lo hi=(x,t)) (hw:t.wr=false):lo≤x∧x≤hi∧s.wr=false:=by
 have:=br (B:=B) (s:=s) (lo:=lo) (hi:=hi) (by rw [h];exact hw);rw [h] at this;exact this
def Af (i:Sl.Instr) (zs:List Int):Option Int:=
 let a:=zs[i.a.toNat]?.getD 0
 let b:=zs[i.b.toNat]?.getD 0
 if i.op=2 then some (-a)
 else if i.op=3 then some (a+b)
 else if i.op=4 then some (a - b)
 else if i.op=5∨i.op=7 then some (a*cst i)
 else if i.op=6∨i.op=8 then (if a % cst i=0 then some (a / cst i) else none)
 else some a
theorem OD (G:A3) (c:Int) (h:0≤c∧c≤64) :
 Does Tryz.prog 221 [.int .i64 c] G [] (fun v G' Ho=>∃ r:IV,v=.agg (A2.enc r).toArray∧C1 G' r (p2 c.toNat)∧Ho=[]):=by
 obtain ⟨n,rfl⟩:=qF h.1;rw [aF];exact gx G n sW
section
attribute [local irreducible] tA pb uY uD p2 cst
end
section
attribute [local irreducible] tA pb uY uD
theorem Le {G:A3} {l:List IV} {zs:List Int} {r:IV} {z:Int} (h:B7 G l zs) (hr:C1 G r z):B7 G (l++[r]) (zs++[z]):=by
 have e1:=h.1;refine ⟨by rw [aB,aB,e1];rfl,fun i hi=>?_⟩;rw [aB,jW] at hi;rcases aK i l.length with h3 | h3
 · rw [bJ h3,bJ sW];exact h.2 i h3
 have h4:i=l.length:=sW;subst h4;rw [cL (aI _),cL sW,e1,iW];exact hr
def FJ (P:Nat→Int) (n:Nat):List Int:=(List.range n).map P
theorem Po (P:Nat→Int) (n:Nat):FJ P (n+1)=FJ P n++[P n]:=by unfold FJ;rw [oM,iG];rfl
theorem WM (G:A3) (a:Option Addr) (c:Nat) (xs:List IV) (g:Nat) (fst:List Value) (P:Nat→Int) (hg:tZ Tryz.prog g) (ha:Arr G a xs) (hl:xs.length≤1048576)
 (hf:∀ k:Nat,k<xs.length→∀ G',G.le G'→Does Tryz.prog g (fst++[.agg (A2.enc (xs[((k:Nat):Int).toNat]?.getD default)).toArray]++[]) G' [] (fun v G'' Ho=>∃ r:IV,v=.agg (A2.enc r).toArray∧C1 G'' r (P k)∧Ho=[])) :
 Does Tryz.prog 265 [.slice a xs.length c,.func (.func g) fst.toArray #[]] G [] (fun v G' Ho=>∃ (s:Option Addr) (r:List IV) (d:Nat),v=.slice s r.length d∧Arr G' s r∧r.length≤d∧B7 G' r (FJ P xs.length)∧Ho=[]):=by
 refine D0 Tryz.func265 Tryz.ntmps265 fun w=>?_;refine eF 9 (Row 125 ([]:List IV) []) ?_;refine bL 19 [] ?_;refine kE (ι:=Nat×A3×List IV×(Option Addr×Nat×List Value)) (fun (k,Gx,r,(o,d,j))=>([(10,.int .i64 (k:Int)),(5,.slice o r.length d),(9,.int .i64 (xs.length:Int)),(8,.slice a (List.length xs) c),(4,.slice none 0 0),(1,.func (Go.Fn.func g) (List.toArray fst) #[])],[(9,o.map (·.block),Row 125 r j)])) (fun (k,Gx,r,(o,d,j))=>Gx) (fun (k,Gx,r,(o,d,j))=>k≤xs.length∧G.le Gx∧r.length=k∧B7 Gx r (FJ P k)∧A4 o d r j) (fun (k,Gx,r,(o,d,j))=>xs.length - k) ((0,G,[],(none,0,[]))) (⟨aN _,bN _,F9,⟨F9,fun i h=>absurd h uE⟩,eG⟩) F9 ⟨F9,F9,F9,F9,F9,F9,H2⟩ ⟨F9,H2⟩ fun ⟨k,Gx,r,(o,d,j)⟩=>fun hk=>?_;obtain ⟨hk1,hk2,hk3,hk4,hk5⟩:=hk;replace ha:=ha.up hk2;rcases aK k xs.length with hkl | hkl
 · refine aH 13 [1] ?_;refine fV (α:=IV) T.sl68 ?_;refine lP T.agg125 ?_;refine aM 10 F9 T.zero125 fun b1=>?_;refine aL 7 [10,10] ?_;refine fA (fst:=fst) (cap:=[]) 20 F9 hg F9 F9 (hf k hkl _ hk2) (tC H2) fun v1 G1 Ho1 hle1 hp=>?_;obtain ⟨r1,rfl,hr1,rfl⟩:=hp;refine cC (α:=IV) 11 [(r1)] F9 T.sl68 T.el125 F9 F9 F9 F9 F9 fun b2=>?_;refine kM (α:=IV) 9 T.sl68 T.el125 (cQ 11 F9) fun a1 c1 junk1 ho1=>?_;refine aS 8 [] ?_;refine cE 10 F9 (show _=Value.int .i64 ((k+1:Nat):Int) from F9) ?_;refine cM ((k+1,G1,r++[r1],(a1,c1,junk1))) ?_ ?_
   · refine ⟨hkl,aO hk2 hle1,by rw [aB,hk3];rfl,?_,ho1⟩;rw [Po];exact Le (hk4.up hle1) hr1
   show xs.length - (k+1)<xs.length - k;omega
 have hkl:k=xs.length:=sW;subst hkl;refine bG 19 [0] ?_;refine dD 9 F9 hk5 fun G8 hle8 hA8=>?_;refine dA ?_;exact ⟨o,r,d,F9,hA8,hk5.le,hk4.up hle8,F9⟩
theorem bs (G:A3) (a:Option Addr) (c:Nat) (xs:List IV) (g bk:Nat) (cap:List Value) (P:Nat→Int) (hg:tZ Tryz.prog g) (ha:Arr G a xs) (hl:xs.length≤1048576)
 (hf:∀ k:Nat,k<xs.length→∀ G',G.le G'→Does Tryz.prog g ([]++[.agg (A2.enc (xs[((k:Nat):Int).toNat]?.getD default)).toArray]++cap) G' [(0,some bk,.cells #[.int .i64 ((k:Int) - 1)] 3)] (fun v G'' Ho=>∃ r:IV,v=.agg (A2.enc r).toArray∧C1 G'' r (P k)∧Ho=[(0,some bk,.cells #[.int .i64 (((k+1:Nat):Int) - 1)] 3)])) :
 Does Tryz.prog 265 [.slice a xs.length c,.func (.func g) #[] cap.toArray] G [(0,some bk,.cells #[.int .i64 (-1)] 3)] (fun v G' Ho=>∃ (s:Option Addr) (r:List IV) (d:Nat),v=.slice s r.length d∧Arr G' s r∧r.length≤d∧B7 G' r (FJ P xs.length)∧Ho=[(0,some bk,.cells #[.int .i64 ((xs.length:Int) - 1)] 3)]):=by
 refine D0 Tryz.func265 Tryz.ntmps265 fun w=>?_;refine eF 9 (Row 125 ([]:List IV) []) ?_;refine bL 19 [] ?_;refine qJ 0 (.cells #[.int .i64 (((0:Nat):Int) - 1)] 3) F9 F9 ?_;refine kE (ι:=Nat×A3×List IV×(Option Addr×Nat×List Value)) (fun (k,Gx,r,(o,d,j))=>([(10,.int .i64 (k:Int)),(5,.slice o r.length d),(9,.int .i64 (xs.length:Int)),(8,.slice a (List.length xs) c),(4,.slice none 0 0),(1,.func (Go.Fn.func g) #[] (List.toArray cap))],[(0,some bk,.cells #[.int .i64 ((k:Int) - 1)] 3),(9,o.map (·.block),Row 125 r j)])) (fun (k,Gx,r,(o,d,j))=>Gx) (fun (k,Gx,r,(o,d,j))=>k≤xs.length∧G.le Gx∧r.length=k∧B7 Gx r (FJ P k)∧A4 o d r j) (fun (k,Gx,r,(o,d,j))=>xs.length - k) ((0,G,[],(none,0,[]))) (⟨aN _,bN _,F9,⟨F9,fun i h=>absurd h uE⟩,eG⟩) F9 ⟨F9,F9,F9,F9,F9,F9,H2⟩ ⟨F9,F9,H2⟩ fun ⟨k,Gx,r,(o,d,j)⟩=>fun hk=>?_;obtain ⟨hk1,hk2,hk3,hk4,hk5⟩:=hk;replace ha:=ha.up hk2;rcases aK k xs.length with hkl | hkl
 · refine aH 13 [1] ?_;refine fV (α:=IV) T.sl68 ?_;refine lP T.agg125 ?_;refine aM 10 F9 T.zero125 fun b1=>?_;refine aL 7 [10,10] ?_;refine fA (fst:=[]) (cap:=cap) 0 F9 hg F9 F9 (hf k hkl _ hk2) (tC ⟨F9,H2⟩) fun v1 G1 Ho1 hle1 hp=>?_;obtain ⟨r1,rfl,hr1,rfl⟩:=hp;refine cC (α:=IV) 11 [(r1)] F9 T.sl68 T.el125 F9 F9 F9 F9 F9 fun b2=>?_;refine kM (α:=IV) 9 T.sl68 T.el125 (cQ 11 F9) fun a1 c1 junk1 ho1=>?_;refine aS 8 [] ?_;refine cE 10 F9 (show _=Value.int .i64 ((k+1:Nat):Int) from F9) ?_;refine cM ((k+1,G1,r++[r1],(a1,c1,junk1))) ?_ ?_
   · refine ⟨hkl,aO hk2 hle1,by rw [aB,hk3];rfl,?_,ho1⟩;rw [Po];exact Le (hk4.up hle1) hr1
   show xs.length - (k+1)<xs.length - k;omega
 have hkl:k=xs.length:=sW;subst hkl;refine bG 19 [0] ?_;refine dD 9 F9 hk5 fun G8 hle8 hA8=>?_;refine cK (.inr F9) (Ho:=[(0,some bk,.cells #[.int .i64 ((xs.length:Int) - 1)] 3)]) F9 (.tmp F9) ⟨F9,H2⟩ ?_;exact ⟨o,r,d,F9,hA8,hk5.le,hk4.up hle8,F9⟩
end
section
attribute [local irreducible] tA pb uY uD
theorem Tn {G:A3} {b:Nat} {cs:List Value} {T:TypeId} {fz:Nat×Nat} (h:G b=some (.cells cs.toArray T fz)) (k:Nat) {v:Value} (hv:cs[k]?=some v):G.cell b k=some v:=by
 simp only [A3.cell,h];simpa using hv
theorem Vx (xs:List Int) (f:Int→Int):FJ (fun k=>f (xs[k]?.getD 0)) xs.length=xs.map f:=by
 unfold FJ;apply gD
 · rw [aP,aP,cB]
 intro i h1 h2;rw [aP] at h2;rw [gB,kY,gB,aA h2];rfl
theorem FK (xs ys:List Int) (f:Int→Int→Int) (h:xs.length=ys.length):FJ (fun k=>f (xs[k]?.getD 0) (ys[k]?.getD 0)) xs.length=List.zipWith f xs ys:=by
 unfold FJ;apply gD
 · rw [aP,cB,iX,h,qM]
 intro i h1 h2;rw [iX] at h2;rw [gB,kY,List.getElem_zipWith,aA (show i<xs.length by omega),aA (show i<ys.length by omega)];rfl
def Jl (G':A3) (v:Value) (zs:List Int):Prop:=∃ (s:Option Addr) (r:List IV) (d:Nat),v=.slice s r.length d∧Arr G' s r∧r.length≤d∧B7 G' r zs
theorem Hl {G:A3} {l:List IV} {xs:List Int} {m:Nat} (h:B7 G l xs) (hm:Below m xs) {k:Nat} (hk:k<l.length):(l[k]?.getD default).n≤m:=jQ (h.2 k hk) (hm.at k)
theorem ii (G:A3) (a:Option Addr) (c:Nat) (l:List IV) (xs:List Int) (m:Nat) (ha:Arr G a l) (hb:B7 G l xs) (hm:Below m xs) (hmm:m≤268435456) (hl:l.length≤1048576) :
 Does Tryz.prog 236 [.slice a l.length c] G [] (fun v G' Ho=>Jl G' v (xs.map fun x=>-x)∧Ho=[]):=by
 have hf:∀ k:Nat,k<l.length→∀ G',G.le G'→Does Tryz.prog 176 ([]++[.agg (A2.enc (l[(k:Int).toNat]?.getD default)).toArray]++[]) G' [] (fun v G'' Ho=>∃ r:IV,v=.agg (A2.enc r).toArray∧C1 G'' r (-(xs[k]?.getD 0))∧Ho=[]):=fun k hk G' hG=>by
  have h1:=Hl hb hm hk;exact (am G' _ _ ((hb.2 k hk).up hG) sW).mono fun v G'' Ho _ ⟨r,e1,e2,e3,e4⟩=>⟨r,e1,e2,e4⟩
 have h180:=WM G a c l 176 [] (fun k=>-(xs[k]?.getD 0)) T.fn176 ha hl hf;rw [hb.1,Vx xs (fun x=>-x),←hb.1] at h180;refine D0 Tryz.func236 Tryz.ntmps236 fun w=>?_;refine aH 8 [] ?_;refine bS 0 F9 (h180) fun v1 G1 Ho1 hle1 hp=>?_;obtain ⟨s1,r1,d1,rfl,hA1,hl81,hB1,rfl⟩:=hp;replace ha:=ha.up hle1;replace hb:=hb.up hle1;refine aS 4 [] ?_;refine dA ?_;exact ⟨⟨_,_,_,F9,hA1,hl81,hB1⟩,F9⟩
theorem ij (G:A3) (bk bf bb h:Nat) (x:IV) (k:Nat) (a':Option Addr) (c':Nat) (ys:List IV) (R:Int) (hgh:tZ Tryz.prog h) (hy:Arr G a' ys) (hk:k<ys.length) (hkl:k≤1048576) (hf:G bf=some (.cells [.func (.func h) #[] #[]].toArray 203)) (hb:G bb=some (.cells [.slice a' ys.length c'].toArray 68))
 (hh:Does Tryz.prog h ([]++[.agg (A2.enc x).toArray,.agg (A2.enc (ys[((k:Nat):Int).toNat]?.getD default)).toArray]++[]) G [] (fun v G'' Ho=>∃ r:IV,v=.agg (A2.enc r).toArray∧C1 G'' r R∧Ho=[])) :
 Does Tryz.prog 276 [.agg (A2.enc x).toArray,.pointer (some ⟨bk,0,none⟩),.pointer (some ⟨bf,0,none⟩),.pointer (some ⟨bb,0,none⟩)] G [(0,some bk,.cells #[.int .i64 ((k:Int) - 1)] 3)]
  (fun v G' Ho=>∃ r:IV,v=.agg (A2.enc r).toArray∧C1 G' r R∧Ho=[(0,some bk,.cells #[.int .i64 (((k+1:Nat):Int) - 1)] 3)]):=by
 have hfc:=Tn hf 0 F9;have hbc:=Tn hb 0 F9;have e:(k:Int).toNat=(((k:Int) - 1)+1).toNat:=sW;rw [e] at hh;refine D0 Tryz.func276 Tryz.ntmps276 fun w=>?_;refine aH 2 [] ?_;refine eC 1 fun b1=>?_;refine aM 2 F9 T.zero125 fun b2=>?_;refine aZ 10 [0,0] ?_;refine fL [1,2,0] [(2,7),(0,6),(2,6),(1,6)] T.mixed F9 ?_;refine eD 0 [] F9 (bV T.one203 F9 sX) ?_;refine dP [[1,1]] ?_;refine eD 2 [] F9 (bV T.one68 F9 sX) ?_;refine bE 3 ?_;refine aC 1 [0] ?_;refine aT ?_;refine mT (α:=IV) 4 T.sl68 ?_;refine rT 5 T.agg125 ?_;refine bE 6 ?_;refine fA (fst:=[]) (cap:=[]) 20 F9 hgh F9 F9 hh (tC H2) fun v1 G1 Ho1 hle1 hp=>?_;obtain ⟨r1,rfl,hr1,rfl⟩:=hp;refine cX 7 ?_;refine aC 1 [2] ?_;refine fJ ?_;refine dO 2 [] ?_;refine gJ 0 (.cells #[.int .i64 (((k+1:Nat):Int) - 1)] 3) F9 (by rw [show (((k+1:Nat):Int) - 1)=(k:Int) - 1+1 by omega];rfl) ?_;refine cK (.inr F9) (Ho:=[(0,some bk,.cells #[.int .i64 (((k+1:Nat):Int) - 1)] 3)]) F9 (.agg 2 F9 F9 T.agg125) ⟨F9,H2⟩ ?_;exact ⟨r1,F9,hr1,F9⟩
theorem bv (G:A3) (h:Nat) (a a':Option Addr) (c c':Nat) (l l':List IV) (F:Nat→Int) (hgh:tZ Tryz.prog h) (ha:Arr G a l) (ha':Arr G a' l') (hlen:l.length=l'.length) (hl:l.length≤1048576)
 (hh:∀ k:Nat,k<l.length→∀ G',G.le G'→Does Tryz.prog h ([]++[.agg (A2.enc (l[((k:Nat):Int).toNat]?.getD default)).toArray,.agg (A2.enc (l'[((k:Nat):Int).toNat]?.getD default)).toArray]++[]) G' [] (fun v G'' Ho=>∃ r:IV,v=.agg (A2.enc r).toArray∧C1 G'' r (F k)∧Ho=[])) :
 Does Tryz.prog 266 [.slice a l.length c,.slice a' l'.length c',.func (.func h) #[] #[]] G [] (fun v G' Ho=>∃ (s:Option Addr) (r:List IV) (d:Nat),v=.tuple #[.slice s r.length d,.int .i64 0]∧Arr G' s r∧r.length≤d∧B7 G' r (FJ F l.length)∧Ho=[]):=by
 refine D0 Tryz.func266 Tryz.ntmps266 fun w=>?_;refine aH 2 [] ?_;refine eC 0 fun b1=>?_;refine eC 1 fun b2=>?_;refine aL 19 [0,0] ?_;refine aM 2 F9 T.zero3 fun b3=>?_;refine aL 6 [2] ?_;refine aQ (gY F9 F9) ?_;refine lM 1 F9 fun G1 hg1 hb1=>?_;refine lM 0 F9 fun G2 hg2 hb2=>?_;replace hb1:=hg2 _ _ hb1;have hG:=aO hg1 hg2;replace ha:=ha.up hG;replace ha':=ha'.up hG;refine oY 2 (.cells #[.int .i64 (-1)] 3) F9 F9 ?_;refine eO 2 F9 T.fn265 F9 (bs _ a c l 276 b3 [.pointer (some ⟨b3,0,none⟩),.pointer (some ⟨b2,0,none⟩),.pointer (some ⟨b1,0,none⟩)] F T.fn276 ha hl
  (fun k hk G' hG'=>ij G' b3 b2 b1 h _ k a' c' l' (F k) hgh (ha'.up hG') sW sW (hG' _ _ hb1) (hG' _ _ hb2) (hh k hk G' (aO hG hG')))) (tC ⟨F9,H2⟩) (fun v1 G3 Ho1 hle1 hp=>?_)
 obtain ⟨s,r,d,rfl,hA,hd,hB,rfl⟩:=hp;refine aS 5 [] ?_;refine iB ?_;exact ⟨s,r,d,F9,hA,hd,hB,F9⟩
theorem ik (G:A3) (a a':Option Addr) (c c':Nat) (l l':List IV) (xs ys:List Int) (m:Nat) (ha:Arr G a l) (ha':Arr G a' l') (hb:B7 G l xs) (hb':B7 G l' ys) (hm:Below m xs) (hm':Below m ys) (hmm:m≤268435456) (hlen:l.length=l'.length) (hl:l.length≤1048576) :
 Does Tryz.prog 238 [.slice a l.length c,.slice a' l'.length c'] G [] (fun v G' Ho=>∃ (s:Option Addr) (r:List IV) (d:Nat),v=.tuple #[.slice s r.length d,.int .i64 0]∧Arr G' s r∧r.length≤d∧B7 G' r (List.zipWith (·+·) xs ys)∧Ho=[]):=by
 have h181:=bv G 138 a a' c c' l l' (fun k=>xs[k]?.getD 0+ys[k]?.getD 0) T.fn138 ha ha' hlen hl (fun k hk G' hG=>by
  have h1:=Hl hb hm hk;have h2:=Hl hb' hm' (show k<l'.length by omega);exact XR G' _ _ _ _ ((hb.2 k hk).up hG) ((hb'.2 k sW).up hG) Sn Sn)
 rw [hb.1,FK xs ys (·+·) (by rw [←hb.1,←hb'.1,hlen]),←hb.1] at h181;refine D0 Tryz.func238 Tryz.ntmps238 fun w=>?_;refine aH 10 [] ?_;refine bS 0 F9 (h181) fun v1 G1 Ho1 hle1 hp=>?_;obtain ⟨s1,r1,d1,rfl,hA1,hl81,hB1,rfl⟩:=hp;replace ha:=ha.up hle1;replace ha':=ha'.up hle1;replace hb:=hb.up hle1;replace hb':=hb'.up hle1;refine aS 7 [] ?_;refine iB ?_;exact ⟨_,_,_,F9,hA1,hl81,hB1,F9⟩
theorem il (G:A3) (a a':Option Addr) (c c':Nat) (l l':List IV) (xs ys:List Int) (m:Nat) (ha:Arr G a l) (ha':Arr G a' l') (hb:B7 G l xs) (hb':B7 G l' ys) (hm:Below m xs) (hm':Below m ys) (hmm:m≤268435456) (hlen:l.length=l'.length) (hl:l.length≤1048576) :
 Does Tryz.prog 240 [.slice a l.length c,.slice a' l'.length c'] G [] (fun v G' Ho=>∃ (s:Option Addr) (r:List IV) (d:Nat),v=.tuple #[.slice s r.length d,.int .i64 0]∧Arr G' s r∧r.length≤d∧B7 G' r (List.zipWith (· - ·) xs ys)∧Ho=[]):=by
 have h181:=bv G 177 a a' c c' l l' (fun k=>xs[k]?.getD 0 - ys[k]?.getD 0) T.fn177 ha ha' hlen hl (fun k hk G' hG=>by
  have h1:=Hl hb hm hk;have h2:=Hl hb' hm' (show k<l'.length by omega);exact aq G' _ _ _ _ ((hb.2 k hk).up hG) ((hb'.2 k sW).up hG) Sn Sn)
 rw [hb.1,FK xs ys (· - ·) (by rw [←hb.1,←hb'.1,hlen]),←hb.1] at h181;refine D0 Tryz.func240 Tryz.ntmps240 fun w=>?_;refine aH 10 [] ?_;refine bS 0 F9 (h181) fun v1 G1 Ho1 hle1 hp=>?_;obtain ⟨s1,r1,d1,rfl,hA1,hl81,hB1,rfl⟩:=hp;replace ha:=ha.up hle1;replace ha':=ha'.up hle1;replace hb:=hb.up hle1;replace hb':=hb'.up hle1;refine aS 7 [] ?_;refine iB ?_;exact ⟨_,_,_,F9,hA1,hl81,hB1,F9⟩
theorem im (G:A3) (a:Option Addr) (c:Nat) (l:List IV) (xs:List Int) (y:IV) (z:Int) (m:Nat) (ha:Arr G a l) (hb:B7 G l xs) (hm:Below m xs) (hmm:m≤268435456) (hl:l.length≤1048576) (hy:C1 G y z) (hyn:y.n≤268435456) :
 Does Tryz.prog 241 [.slice a l.length c,.agg (A2.enc y).toArray] G [] (fun v G' Ho=>Jl G' v (xs.map fun x=>z*x)∧Ho=[]):=by
 have hf:∀ k:Nat,k<l.length→∀ G',G.le G'→Does Tryz.prog 75 ([.agg (A2.enc y).toArray]++[.agg (A2.enc (l[(k:Int).toNat]?.getD default)).toArray]++[]) G' [] (fun v G'' Ho=>∃ r:IV,v=.agg (A2.enc r).toArray∧C1 G'' r (z*xs[k]?.getD 0)∧Ho=[]):=fun k hk G' hG=>by
  have h1:=Hl hb hm hk;exact gp G' _ _ _ _ (hy.up hG) ((hb.2 k hk).up hG) sW Sn
 have h180:=WM G a c l 75 [.agg (A2.enc y).toArray] (fun k=>z*xs[k]?.getD 0) T.fn75 ha hl hf;rw [hb.1,Vx xs (fun x=>z*x),←hb.1] at h180;refine D0 Tryz.func241 Tryz.ntmps241 fun w=>?_;refine aH 2 [] ?_;refine eC 0 fun b1=>?_;refine aL 7 [0] ?_;refine aQ (gY F9 F9) ?_;refine bS 1 F9 (h180) fun v1 G1 Ho1 hle1 hp=>?_;obtain ⟨s1,r1,d1,rfl,hA1,hl81,hB1,rfl⟩:=hp;replace ha:=ha.up hle1;replace hb:=hb.up hle1;replace hy:=hy.up hle1;refine aS 4 [] ?_;refine dA ?_;exact ⟨⟨_,_,_,F9,hA1,hl81,hB1⟩,F9⟩
theorem TP (xs:List Int) (z:Int):FJ (fun k=>xs[k]?.getD 0 / z) xs.length=xs.map (· / z):=Vx xs (· / z)
theorem io (G:A3) (a:Option Addr) (c:Nat) (l:List IV) (xs:List Int) (y:IV) (z:Int) (m:Nat) (ha:Arr G a l) (hb:B7 G l xs) (hm:Below m xs) (hmm:m≤268435456) (hl:l.length≤1048576) (hy:C1 G y z) (hyn:y.n≤268435456) (hy0:z≠0) :
 Does Tryz.prog 243 [.slice a l.length c,.agg (A2.enc y).toArray] G [] (fun v G' Ho=>((∀ i:Nat,i<xs.length→xs[i]?.getD 0 % z=0)→∃ (s:Option Addr) (r:List IV) (d:Nat),v=.tuple #[.slice s r.length d,.int .i64 0]∧Arr G' s r∧r.length≤d∧B7 G' r (xs.map (· / z)))∧
  (¬(∀ i:Nat,i<xs.length→xs[i]?.getD 0 % z=0)→v=.tuple #[.slice none 0 0,.int .i64 20])∧Ho=[]):=by
 have hxl:=hb.1;refine D0 Tryz.func243 Tryz.ntmps243 fun w=>?_;refine eF 9 (Row 125 ([]:List IV) []) ?_;have hz0:¬Zb z=0:=fun h=>hy0 (Ph.1 h);refine aH 2 [] ?_;refine eC 10 fun b1=>?_;refine aL 8 [10] ?_;refine cF F9 (Zc _ y z hy (bO hyn tG)) ?_;refine aZ 20 [0] ?_;refine kE (ι:=Nat×A3×List IV×(Option Addr×Nat×List Value)) (fun (k,Gx,r,(o,d,j))=>([(17,.int .i64 (k:Int)),(6,.slice o r.length d),(16,.int .i64 (l.length:Int)),(15,.slice a (List.length l) c),(3,.pointer (some ⟨b1,0,none⟩))],[(9,o.map (·.block),Row 125 r j),(10,some b1,.cells (List.toArray (A2.enc y)) 125)])) (fun (k,Gx,r,(o,d,j))=>Gx) (fun (k,Gx,r,(o,d,j))=>k≤l.length∧G.le Gx∧r.length=k∧B7 Gx r (FJ (fun k=>xs[k]?.getD 0 / z) k)∧A4 o d r j∧(∀ i:Nat,i<k→xs[i]?.getD 0 % z=0)) (fun (k,Gx,r,(o,d,j))=>l.length - k) ((0,G,[],(none,0,[]))) (⟨aN _,bN _,F9,⟨F9,fun i h=>absurd h uE⟩,eG,fun i h=>absurd h sW⟩) F9 ⟨F9,F9,F9,F9,F9,H2⟩ ⟨F9,F9,H2⟩ fun ⟨k,Gx,r,(o,d,j)⟩=>fun hk=>?_;obtain ⟨hk1,hk2,hk3,hk4,hk5,hk6⟩:=hk;replace ha:=ha.up hk2;replace hb:=hb.up hk2;replace hy:=hy.up hk2;rcases aK k l.length with hkl | hkl
 · have hx:=hb.2 k hkl;have hxn:(l[(k:Int).toNat]?.getD default).n≤268435456:=by rw [aF];exact bO (Hl hb hm hkl) hmm
   have hx:C1 Gx (l[(k:Int).toNat]?.getD default) (xs[k]?.getD 0):=by rw [aF];exact hx
   have hlt:((xs[k]?.getD 0 % z).natAbs:Int)<pb y.n:=by
    have e2:=DK (x:=xs[k]?.getD 0) hy0;have e3:=C1.lt hy;omega
   refine aH 13 [1] ?_;refine fV (α:=IV) T.sl68 ?_;refine lP T.agg125 ?_;refine aM 11 F9 T.zero125 fun b2=>?_;refine aL 7 [11,11,10] ?_;refine bS 12 F9 (gr _ _ _ _ _ hx hy hxn hyn hy0) fun v1 G1 Ho1 hle1 hp=>?_;obtain ⟨q1,r1,rfl,hq1,hr1,rfl⟩:=hp;replace hk4:=hk4.up hle1;replace ha:=ha.up hle1;replace hb:=hb.up hle1;replace hy:=hy.up hle1;replace hx:=hx.up hle1;refine aC 4 [] ?_;refine aM 12 F9 T.zero125 fun b3=>?_;refine aM 13 F9 T.zero125 fun b4=>?_;refine aL 9 [12,13,13] ?_;refine cF F9 (Zc _ r1 (xs[k]?.getD 0 % z) hr1 (bO (jQ hr1 hlt) (bO hyn tG))) ?_;refine aZ 3 [] ?_;refine dB (fun hc1=>?_) fun hc1=>?_;refine bG 13 [] ?_;rotate_left;refine aH 5 [12] ?_;refine cC (α:=IV) 14 [(q1)] F9 T.sl68 T.el125 F9 F9 F9 F9 F9 fun b5=>?_;refine kM (α:=IV) 9 T.sl68 T.el125 (cQ 14 F9) fun a1 c1 junk1 ho1=>?_;refine aS 8 [] ?_;rotate_left
   · refine iB ?_;have hno:¬(∀ i:Nat,i<xs.length→xs[i]?.getD 0 % z=0):=fun h=>hc1 (Ph.2 (h k sW));exact ⟨fun h=>absurd h hno,fun _=>rfl,F9⟩
   have hdz:xs[k]?.getD 0 % z=0:=Ph.1 (eE fun h=>hc1 h);refine cE 17 F9 (show _=Value.int .i64 ((k+1:Nat):Int) from F9) ?_;refine cM ((k+1,_,r++[q1],(a1,c1,junk1))) ?_ ?_
   · refine ⟨hkl,aO hk2 hle1,by rw [aB,hk3];rfl,?_,ho1,fun i hi=>?_⟩
     · rw [Po];exact Le hk4 hq1
     rcases aK i k with h | h
     · exact hk6 i h
     have e:i=k:=sW;rw [e];exact hdz
   show l.length - (k+1)<l.length - k;omega
 have hkl:k=l.length:=sW;subst hkl;refine bG 20 [0] ?_;refine dD 9 F9 hk5 fun G8 hle8 hA8=>?_;refine iB ?_;rw [hxl] at hk6;refine ⟨fun _=>⟨o,r,d,F9,hA8,hk5.le,?_⟩,fun h=>absurd hk6 h,F9⟩;rw [←TP,←hxl];exact hk4.up hle8
theorem ir (G:A3) (a a':Option Addr) (c c':Nat) (l l':List IV) (xs ys:List Int) (m:Nat) (ha:Arr G a l) (ha':Arr G a' l') (hb:B7 G l xs) (hb':B7 G l' ys) (hm:Below m xs) (hm':Below m ys) (hmm:m≤268435456) (hlen:l.length=l'.length) (hl:l.length≤1048576) :
 Does Tryz.prog 237 [.slice a l.length c,.slice a' l'.length c'] G [] (fun v G' Ho=>Jl G' v (List.zipWith (·+·) xs ys)∧Ho=[]):=by
 refine D0 Tryz.func237 Tryz.ntmps237 fun w=>?_;refine aH 9 [] ?_;refine bS 0 F9 (ik _ a a' c c' l l' xs ys m ha ha' hb hb' hm hm' hmm hlen hl) fun v1 G1 Ho1 hle1 hp=>?_;obtain ⟨s1,r1,d1,rfl,hA1,hl81,hB1,rfl⟩:=hp;replace ha:=ha.up hle1;replace ha':=ha'.up hle1;replace hb:=hb.up hle1;replace hb':=hb'.up hle1;refine aS 14 [] ?_;refine dA ?_;exact ⟨⟨_,_,_,F9,hA1,hl81,hB1⟩,F9⟩
theorem iu (G:A3) (a a':Option Addr) (c c':Nat) (l l':List IV) (xs ys:List Int) (m:Nat) (ha:Arr G a l) (ha':Arr G a' l') (hb:B7 G l xs) (hb':B7 G l' ys) (hm:Below m xs) (hm':Below m ys) (hmm:m≤268435456) (hlen:l.length=l'.length) (hl:l.length≤1048576) :
 Does Tryz.prog 239 [.slice a l.length c,.slice a' l'.length c'] G [] (fun v G' Ho=>Jl G' v (List.zipWith (· - ·) xs ys)∧Ho=[]):=by
 refine D0 Tryz.func239 Tryz.ntmps239 fun w=>?_;refine aH 9 [] ?_;refine bS 0 F9 (il _ a a' c c' l l' xs ys m ha ha' hb hb' hm hm' hmm hlen hl) fun v1 G1 Ho1 hle1 hp=>?_;obtain ⟨s1,r1,d1,rfl,hA1,hl81,hB1,rfl⟩:=hp;replace ha:=ha.up hle1;replace ha':=ha'.up hle1;replace hb:=hb.up hle1;replace hb':=hb'.up hle1;refine aS 14 [] ?_;refine dA ?_;exact ⟨⟨_,_,_,F9,hA1,hl81,hB1⟩,F9⟩
theorem iv (G:A3) (a:Option Addr) (c:Nat) (l:List IV) (xs:List Int) (y:IV) (z:Int) (m:Nat) (ha:Arr G a l) (hb:B7 G l xs) (hm:Below m xs) (hmm:m≤268435456) (hl:l.length≤1048576) (hy:C1 G y z) (hyn:y.n≤268435456) (hy0:z≠0) :
 Does Tryz.prog 242 [.slice a l.length c,.agg (A2.enc y).toArray] G [] (fun v G' Ho=>((∀ i:Nat,i<xs.length→xs[i]?.getD 0 % z=0)→∃ (s:Option Addr) (r:List IV) (d:Nat),v=.tuple #[.slice s r.length d,.bool true]∧Arr G' s r∧r.length≤d∧B7 G' r (xs.map (· / z)))∧
  (¬(∀ i:Nat,i<xs.length→xs[i]?.getD 0 % z=0)→v=.tuple #[.slice none 0 0,.bool false])∧Ho=[]):=by
 have h:=io G a c l xs y z m ha hb hm hmm hl hy hyn hy0;by_cases hd:∀ i:Nat,i<xs.length→xs[i]?.getD 0 % z=0
 · have h1:=h.mono fun v G' Ho _ ⟨p1,p2,p3⟩=>(⟨p1 hd,p3⟩:(∃ (s:Option Addr) (r:List IV) (d:Nat),v=Value.tuple #[.slice s r.length d,.int .i64 0]∧Arr G' s r∧r.length≤d∧B7 G' r (xs.map (· / z)))∧Ho=[])
   refine D0 Tryz.func242 Tryz.ntmps242 fun w=>?_;refine aH 2 [] ?_;refine eC 0 fun b1=>?_;refine aL 8 [0] ?_;refine bS 1 F9 (h1) fun v1 G1 Ho1 hle1 hp=>?_;obtain ⟨⟨s1,r1,d1,rfl,hA1,hl81,hB1⟩,rfl⟩:=hp;replace ha:=ha.up hle1;replace hb:=hb.up hle1;replace hy:=hy.up hle1;refine aS 17 [] ?_;refine iB ?_;exact ⟨fun _=>⟨_,_,_,F9,hA1,hl81,hB1⟩,fun h=>absurd hd h,F9⟩
 have h1:=h.mono fun v G' Ho _ ⟨p1,p2,p3⟩=>(⟨p2 hd,p3⟩:v=Value.tuple #[.slice none 0 0,.int .i64 20]∧Ho=[])
 refine D0 Tryz.func242 Tryz.ntmps242 fun w=>?_;refine aH 2 [] ?_;refine eC 0 fun b1=>?_;refine aL 8 [0] ?_;refine bS 1 F9 (h1) fun v1 G1 Ho1 hle1 hp=>?_;obtain ⟨rfl,rfl⟩:=hp;replace ha:=ha.up hle1;replace hb:=hb.up hle1;replace hy:=hy.up hle1;refine aS 17 [] ?_;refine iB ?_;exact ⟨fun h=>absurd h hd,fun _=>rfl,F9⟩
def OE:Value:=.agg #[.func (.func 236) #[] #[],.func (.func 237) #[] #[],.func (.func 239) #[] #[],.func (.func 241) #[] #[],.func (.func 242) #[] #[]]
theorem iw (G:A3):Does Tryz.prog 204 [] G [] (fun v G' Ho=>v=OE∧G'=G∧Ho=[]):=by
 refine D0 Tryz.func204 Tryz.ntmps204 fun w=>?_;refine aH 2 [] ?_;refine aM 0 F9 T.zero281 fun b1=>?_;refine aL 4 [] ?_;refine aQ (bP (cs:=[_,_,_,_,_]) T.st281 F9 F9 F9) ?_;refine aS 4 [0] ?_;refine cK (.inr F9) (Ho:=[]) F9 (.agg 0 F9 F9 T.agg281) H2 ?_;exact ⟨F9,F9,F9⟩
end
section
attribute [local irreducible] tA pb uY uD p2 cst
def C4 (m N:Nat) (rs:List (List Int)):Prop:=∀ zs∈rs,zs.length=N∧Below m zs
theorem C4.at {m N:Nat} {rs:List (List Int)} (h:C4 m N rs) {k:Nat} (hk:k<rs.length):(rs[k]?.getD []).length=N∧Below m (rs[k]?.getD []):=by
 rw [aA hk];exact h _ (bZ hk)
def Vy (i:Sl.Instr) (rs:List (List Int)) (H0:Hp) (v:Value) (G':A3) (Ho:Hp):Prop:=
 ∃ s:SV,v=.tuple #[.slice s.a s.n s.c,.bool (decide (xU i rs≠none))]∧(∀ z,xU i rs=some z→D4 G' s z)∧Ho=H0
theorem zU {i:Sl.Instr} {rs:List (List Int)} {H0:Hp} {s:SV} {G':A3} {z:List Int} (h:xU i rs=some z) (hx:D4 G' s z):Vy i rs H0 (.tuple #[.slice s.a s.n s.c,.bool true]) G' H0:=
 ⟨s,by rw [bT (show xU i rs≠none from fun e=>by rw [e] at h;cases h)],fun z' h'=>by rw [h] at h';cases h';exact hx,F9⟩
theorem Zp {i:Sl.Instr} {rs:List (List Int)} {H0:Hp} {G':A3} (h:xU i rs=none):Vy i rs H0 (.tuple #[.slice none 0 0,.bool false]) G' H0:=
 ⟨⟨none,0,0⟩,by rw [cD (show ¬xU i rs≠none from fun e=>e h)],(fun z hz=>by rw [h] at hz;cases hz),F9⟩
theorem zL {G:A3} {s:Option Addr} {r:List IV} {d:Nat} {zs:List Int} (hA:Arr G s r) (hd:r.length≤d) (hB:B7 G r zs):D4 G ⟨s,r.length,d⟩ zs:=⟨r,F9,hd,hA,hB⟩
theorem OF (xs:List Int):(xs.map fun x=>-1*x)=xs.map fun x=>-x:=by
 congr 1;funext x;rw [gR,dW]
theorem OG (xs ys:List Int):List.zipWith (fun x y=>x+1*y) xs ys=List.zipWith (·+·) xs ys:=by
 congr 1;funext x y;rw [dW]
theorem OH (xs ys:List Int):List.zipWith (fun x y=>x+(-1)*y) xs ys=List.zipWith (· - ·) xs ys:=by
 congr 1;funext x y;rw [gR,dW];rfl
theorem ix (G:A3) (i:Sl.Instr) (o:Option Addr) (d:Nat) (r:List SV) (j:List Value) (rs:List (List Int)) (m N:Nat) (hob:A4 o d r j) (hg:C0 G r rs) (hm:C4 m N rs) (hN:N≤1048576) (hm2:m≤268435456)
 (hop:1≤i.op∧i.op≤8) (ha:0≤i.a∧i.a<r.length) (hb:0≤i.b∧i.b<r.length)
 (hcst:i.op≠1→i.op≠2→i.op≠3→i.op≠4→cst i≠0∧((cst i).natAbs:Int)<pb 3)
 (hc1:i.op=5∨i.op=6→-9223372036854775808≤i.c∧i.c≤9223372036854775807) (hc2:¬(i.op=5∨i.op=6)→0≤i.c∧i.c≤64) :
 Does Tryz.prog 235 [OE,.slice o r.length d,.agg (A2.enc i).toArray] G [(0,o.map (·.block),Row 68 r j)] (fun v G' Ho=>Vy i rs [(0,o.map (·.block),Row 68 r j)] v G' Ho):=by
 have hca:=hob.le;obtain ⟨la,a1,a2,a3,a4⟩:=hg.2 i.a.toNat sW;obtain ⟨lb,b1,b2,b3,b4⟩:=hg.2 i.b.toNat sW;have hrl:=hg.1;obtain ⟨na,ma⟩:=hm.at (k:=i.a.toNat) sW;obtain ⟨nb,mb⟩:=hm.at (k:=i.b.toNat) sW;have hla:la.length≤1048576:=by rw [a4.1,na];exact hN
 have hlab:la.length=lb.length:=by rw [a4.1,b4.1,na,nb]
 refine D0 Tryz.func235 Tryz.ntmps235 fun w=>?_;have h118:=ii G _ (r[i.a.toNat]?.getD default).c la _ m a3 a4 ma hm2 hla;have h119:=ir G _ _ (r[i.a.toNat]?.getD default).c (r[i.b.toNat]?.getD default).c la lb _ _ m a3 b3 a4 b4 ma mb hm2 hlab hla;have h121:=iu G _ _ (r[i.a.toNat]?.getD default).c (r[i.b.toNat]?.getD default).c la lb _ _ m a3 b3 a4 b4 ma mb hm2 hlab hla;rw [a1] at h118;rw [a1,b1] at h119 h121;have h123:∀ G1 y z,G.le G1→C1 G1 y z→y.n≤268435456→Does Tryz.prog 241 [.slice (r[i.a.toNat]?.getD default).a (r[i.a.toNat]?.getD default).n (r[i.a.toNat]?.getD default).c,.agg (A2.enc y).toArray] G1 [] (fun v G' Ho=>Jl G' v ((rs[i.a.toNat]?.getD []).map fun x=>z*x)∧Ho=[]):=fun G1 y z hG hy hyn=>by
  have h:=im G1 _ (r[i.a.toNat]?.getD default).c la _ y z m (a3.up hG) (a4.up hG) ma hm2 hla hy hyn;rw [a1] at h;exact h
 have h124:∀ G1 y z,G.le G1→C1 G1 y z→y.n≤268435456→z≠0→Does Tryz.prog 242 [.slice (r[i.a.toNat]?.getD default).a (r[i.a.toNat]?.getD default).n (r[i.a.toNat]?.getD default).c,.agg (A2.enc y).toArray] G1 [] (fun v G' Ho=>(zJ z (rs[i.a.toNat]?.getD [])→∃ (s:Option Addr) (r':List IV) (d:Nat),v=.tuple #[.slice s r'.length d,.bool true]∧Arr G' s r'∧r'.length≤d∧B7 G' r' ((rs[i.a.toNat]?.getD []).map (· / z)))∧
  (¬zJ z (rs[i.a.toNat]?.getD [])→v=.tuple #[.slice none 0 0,.bool false])∧Ho=[]):=fun G1 y z hG hy hyn hz=>by
  have h:=iv G1 _ (r[i.a.toNat]?.getD default).c la _ y z m (a3.up hG) (a4.up hG) ma hm2 hla hy hyn hz;rw [a1] at h;exact h
 by_cases h2:i.op=2
 · refine aH 2 [] ?_;refine eC 1 fun b5=>?_;refine eC 2 fun b6=>?_;refine aZ 5 [] ?_;refine dK [0,1,2] [] T.mixed [[0],[1],[2,2]] ?_;refine fO (α:=SV) 3 T.sl237 ?_;refine nP 4 0 0 T.one68 ?_;refine dP [[5],[6],[7,2]] ?_;refine fO (α:=SV) 8 T.sl237 ?_;refine nP 9 0 0 T.one68 ?_;refine dP [[10],[11]] ?_;refine cT ?_;refine lK 21 [2,1,1] ?_;refine fA (fst:=[]) (cap:=[]) 3 F9 T.fn236 F9 F9 (h118) (tC H2) fun v1 G1 Ho1 hle1 hp=>?_;obtain ⟨⟨s1,r1,d1,rfl,hA1,hl81,hB1⟩,rfl⟩:=hp;replace a3:=a3.up hle1;replace a4:=a4.up hle1;replace b3:=b3.up hle1;replace b4:=b4.up hle1;refine aS 7 [] ?_;refine pQ [0] ?_;exact zU (by unfold xU;simp only [h2,kD];rw [OF]) (zL hA1 hl81 hB1)
 by_cases h3:i.op=3
 · refine aH 2 [] ?_;refine eC 1 fun b5=>?_;refine eC 2 fun b6=>?_;refine aZ 5 [] ?_;refine dK [0,1,2] [] T.mixed [[0],[1],[2,2]] ?_;refine fO (α:=SV) 3 T.sl237 ?_;refine nP 4 0 0 T.one68 ?_;refine dP [[5],[6],[7,2]] ?_;refine fO (α:=SV) 8 T.sl237 ?_;refine nP 9 0 0 T.one68 ?_;refine dP [[10],[11]] ?_;refine cT ?_;refine lK 29 [2,0,1,1] ?_;refine fA (fst:=[]) (cap:=[]) 3 F9 T.fn237 F9 F9 (h119) (tC H2) fun v1 G1 Ho1 hle1 hp=>?_;obtain ⟨⟨s1,r1,d1,rfl,hA1,hl81,hB1⟩,rfl⟩:=hp;replace a3:=a3.up hle1;replace a4:=a4.up hle1;replace b3:=b3.up hle1;replace b4:=b4.up hle1;refine aS 7 [] ?_;refine pQ [0] ?_;exact zU (by unfold xU;simp only [h3,kD];rw [aD (by decide),OG]) (zL hA1 hl81 hB1)
 by_cases h4:i.op=4
 · refine aH 2 [] ?_;refine eC 1 fun b5=>?_;refine eC 2 fun b6=>?_;refine aZ 5 [] ?_;refine dK [0,1,2] [] T.mixed [[0],[1],[2,2]] ?_;refine fO (α:=SV) 3 T.sl237 ?_;refine nP 4 0 0 T.one68 ?_;refine dP [[5],[6],[7,2]] ?_;refine fO (α:=SV) 8 T.sl237 ?_;refine nP 9 0 0 T.one68 ?_;refine dP [[10],[11]] ?_;refine cT ?_;refine lK 36 [2,0,0,1,1] ?_;refine fA (fst:=[]) (cap:=[]) 3 F9 T.fn239 F9 F9 (h121) (tC H2) fun v1 G1 Ho1 hle1 hp=>?_;obtain ⟨⟨s1,r1,d1,rfl,hA1,hl81,hB1⟩,rfl⟩:=hp;replace a3:=a3.up hle1;replace a4:=a4.up hle1;replace b3:=b3.up hle1;replace b4:=b4.up hle1;refine aS 7 [] ?_;refine pQ [0] ?_;exact zU (by unfold xU;simp only [h4,kD];rw [aD (by decide),aD (by decide),OH]) (zL hA1 hl81 hB1)
 by_cases h1:i.op=1
 · refine aH 2 [] ?_;refine eC 1 fun b5=>?_;refine eC 2 fun b6=>?_;refine aZ 5 [] ?_;refine dK [0,1,2] [] T.mixed [[0],[1],[2,2]] ?_;refine fO (α:=SV) 3 T.sl237 ?_;refine nP 4 0 0 T.one68 ?_;refine dP [[5],[6],[7,2]] ?_;refine fO (α:=SV) 8 T.sl237 ?_;refine nP 9 0 0 T.one68 ?_;refine dP [[10],[11]] ?_;refine cT ?_;refine dO 69 [2,0,0,0,0,0,0,0] ?_;refine pQ [0] ?_;exact zU (by unfold xU;simp only [h1];rfl) ⟨la,a1,a2,a3,a4⟩
 obtain ⟨hk0,hk3⟩:=hcst h1 h2 h3 h4;by_cases h5:i.op=5
 · have hc9:=hc1 (.inl h5);have e5:cst i=i.c:=Zg (.inl h5);rw [e5] at hk3;refine aH 2 [] ?_;refine eC 1 fun b5=>?_;refine eC 2 fun b6=>?_;refine aZ 5 [] ?_;refine dK [0,1,2] [] T.mixed [[0],[1],[2,2]] ?_;refine fO (α:=SV) 3 T.sl237 ?_;refine nP 4 0 0 T.one68 ?_;refine dP [[5],[6],[7,2]] ?_;refine fO (α:=SV) 8 T.sl237 ?_;refine nP 9 0 0 T.one68 ?_;refine dP [[10],[11]] ?_;refine cT ?_;refine lW 38 [2,0,0,0,1] ?_;refine dK [0,1,2] [(2,6),(1,6),(0,6)] T.mixed [[0],[1,1],[2],[3]] ?_;refine bE 4 ?_;refine aC 1 [2] ?_;refine cX 5 ?_;refine bS 3 F9 (RI _ i.c hc9) fun v1 G1 Ho1 hle1 hp=>?_;obtain ⟨rk,rfl,hrk,rfl⟩:=hp;replace a3:=a3.up hle1;replace a4:=a4.up hle1;replace b3:=b3.up hle1;replace b4:=b4.up hle1;refine cX 6 ?_;refine fA (fst:=[]) (cap:=[]) 3 F9 T.fn241 F9 F9 (h123 _ rk _ sX hrk (bO (jQ hrk hk3) tG)) (tC H2) fun v2 G2 Ho2 hle2 hp=>?_;obtain ⟨⟨s2,r2,d2,rfl,hA2,hl82,hB2⟩,rfl⟩:=hp;replace hrk:=hrk.up hle2;replace a3:=a3.up hle2;replace a4:=a4.up hle2;replace b3:=b3.up hle2;replace b4:=b4.up hle2;refine aT ?_;refine dP [[7],[8]] ?_;refine cT ?_;refine dO 4 [] ?_;refine pQ [0] ?_;all_goals exact zU (by unfold xU;simp only [h5,true_or,kD];rw [aD (by decide),aD (by decide),aD (by decide),e5]) (zL sX sX sX)
 by_cases h6:i.op=6
 · have hc9:=hc1 (.inr h6);have e5:cst i=i.c:=Zg (.inr h6);rw [e5] at hk3 hk0;have h124Y:zJ (i.c) (rs[i.a.toNat]?.getD [])→∀ G1 y,G.le G1→C1 G1 y (i.c)→y.n≤268435456→Does Tryz.prog 242 [.slice (r[i.a.toNat]?.getD default).a (r[i.a.toNat]?.getD default).n (r[i.a.toNat]?.getD default).c,.agg (A2.enc y).toArray] G1 [] (fun v G' Ho=>(∃ (s:Option Addr) (r':List IV) (d:Nat),v=.tuple #[.slice s r'.length d,.bool true]∧Arr G' s r'∧r'.length≤d∧B7 G' r' ((rs[i.a.toNat]?.getD []).map (· / (i.c))))∧Ho=[]):=
    fun hd G1 y hG hy hyn=>(h124 G1 y _ hG hy hyn hk0).mono fun v G' Ho _ ⟨p1,p2,p3⟩=>⟨p1 hd,p3⟩
   have h124N:¬zJ (i.c) (rs[i.a.toNat]?.getD [])→∀ G1 y,G.le G1→C1 G1 y (i.c)→y.n≤268435456→Does Tryz.prog 242 [.slice (r[i.a.toNat]?.getD default).a (r[i.a.toNat]?.getD default).n (r[i.a.toNat]?.getD default).c,.agg (A2.enc y).toArray] G1 [] (fun v G' Ho=>v=.tuple #[.slice none 0 0,.bool false]∧Ho=[]):=
    fun hd G1 y hG hy hyn=>(h124 G1 y _ hG hy hyn hk0).mono fun v G' Ho _ ⟨p1,p2,p3⟩=>⟨p2 hd,p3⟩
   by_cases hd:zJ (i.c) (rs[i.a.toNat]?.getD [])
   · skip;refine aH 2 [] ?_;refine eC 1 fun b5=>?_;refine eC 2 fun b6=>?_;refine aZ 5 [] ?_;refine dK [0,1,2] [] T.mixed [[0],[1],[2,2]] ?_;refine fO (α:=SV) 3 T.sl237 ?_;refine nP 4 0 0 T.one68 ?_;refine dP [[5],[6],[7,2]] ?_;refine fO (α:=SV) 8 T.sl237 ?_;refine nP 9 0 0 T.one68 ?_;refine dP [[10],[11]] ?_;refine cT ?_;refine lW 52 [2,0,0,0,0,0,1] ?_;refine dK [0,1,2] [(2,6),(1,6),(0,6)] T.mixed [[0],[1,1],[2],[3]] ?_;refine bE 4 ?_;refine aC 1 [2] ?_;refine cX 5 ?_;refine bS 3 F9 (RI _ i.c hc9) fun v1 G1 Ho1 hle1 hp=>?_;obtain ⟨rk,rfl,hrk,rfl⟩:=hp;replace a3:=a3.up hle1;replace a4:=a4.up hle1;replace b3:=b3.up hle1;replace b4:=b4.up hle1;refine cX 6 ?_;refine fA (fst:=[]) (cap:=[]) 3 F9 T.fn242 F9 F9 (h124Y hd _ rk sX hrk (bO (jQ hrk hk3) tG)) (tC H2) fun v2 G2 Ho2 hle2 hp=>?_;obtain ⟨⟨s2,r2,d2,rfl,hA2,hl82,hB2⟩,rfl⟩:=hp;replace hrk:=hrk.up hle2;replace a3:=a3.up hle2;replace a4:=a4.up hle2;replace b3:=b3.up hle2;replace b4:=b4.up hle2;refine aT ?_;refine dP [[7],[8],[9],[10]] ?_;refine cT ?_;refine dO 4 [] ?_;refine pQ [0] ?_;all_goals exact zU (by unfold xU;simp only [h6,true_or,kD];first | (rw [aD (by decide),aD (by decide),aD (by decide),aD (by decide),e5,aE hd]) | (rw [aD (by decide),aD (by decide),aD (by decide),aD (by decide)];exact (by rw [e5];exact aE hd))) (zL sX sX sX)
   skip;refine aH 2 [] ?_;refine eC 1 fun b5=>?_;refine eC 2 fun b6=>?_;refine aZ 5 [] ?_;refine dK [0,1,2] [] T.mixed [[0],[1],[2,2]] ?_;refine fO (α:=SV) 3 T.sl237 ?_;refine nP 4 0 0 T.one68 ?_;refine dP [[5],[6],[7,2]] ?_;refine fO (α:=SV) 8 T.sl237 ?_;refine nP 9 0 0 T.one68 ?_;refine dP [[10],[11]] ?_;refine cT ?_;refine lW 52 [2,0,0,0,0,0,1] ?_;refine dK [0,1,2] [(2,6),(1,6),(0,6)] T.mixed [[0],[1,1],[2],[3]] ?_;refine bE 4 ?_;refine aC 1 [2] ?_;refine cX 5 ?_;refine bS 3 F9 (RI _ i.c hc9) fun v1 G1 Ho1 hle1 hp=>?_;obtain ⟨rk,rfl,hrk,rfl⟩:=hp;replace a3:=a3.up hle1;replace a4:=a4.up hle1;replace b3:=b3.up hle1;replace b4:=b4.up hle1;refine cX 6 ?_;refine fA (fst:=[]) (cap:=[]) 3 F9 T.fn242 F9 F9 (h124N hd _ rk sX hrk (bO (jQ hrk hk3) tG)) (tC H2) fun v2 G2 Ho2 hle2 hp=>?_;obtain ⟨rfl,rfl⟩:=hp;replace hrk:=hrk.up hle2;replace a3:=a3.up hle2;replace a4:=a4.up hle2;replace b3:=b3.up hle2;replace b4:=b4.up hle2;refine aT ?_;refine dP [[7],[8],[9],[10]] ?_;refine cT ?_;refine dO 4 [] ?_;refine pQ [0] ?_;all_goals exact Zp (by unfold xU;simp only [h6,true_or,kD];rw [aD (by decide),aD (by decide),aD (by decide),aD (by decide),e5,aD hd])
 have hc64:=hc2 (fun h=>h.elim h5 h6);have e5:cst i=p2 i.c.toNat:=WI (fun h=>h.elim h5 h6);rw [e5] at hk3 hk0;by_cases h7:i.op=7
 · refine aH 2 [] ?_;refine eC 1 fun b5=>?_;refine eC 2 fun b6=>?_;refine aZ 5 [] ?_;refine dK [0,1,2] [] T.mixed [[0],[1],[2,2]] ?_;refine fO (α:=SV) 3 T.sl237 ?_;refine nP 4 0 0 T.one68 ?_;refine dP [[5],[6],[7,2]] ?_;refine fO (α:=SV) 8 T.sl237 ?_;refine nP 9 0 0 T.one68 ?_;refine dP [[10],[11]] ?_;refine cT ?_;refine lW 45 [2,0,0,0,0,1] ?_;refine dK [0,1,2] [(2,6),(1,6),(0,6)] T.mixed [[0],[1,1],[2],[3]] ?_;refine bE 4 ?_;refine aC 1 [2] ?_;refine cX 5 ?_;refine bS 3 F9 (OD _ i.c hc64) fun v1 G1 Ho1 hle1 hp=>?_;obtain ⟨rk,rfl,hrk,rfl⟩:=hp;replace a3:=a3.up hle1;replace a4:=a4.up hle1;replace b3:=b3.up hle1;replace b4:=b4.up hle1;refine cX 6 ?_;refine fA (fst:=[]) (cap:=[]) 3 F9 T.fn241 F9 F9 (h123 _ rk _ sX hrk (bO (jQ hrk hk3) tG)) (tC H2) fun v2 G2 Ho2 hle2 hp=>?_;obtain ⟨⟨s2,r2,d2,rfl,hA2,hl82,hB2⟩,rfl⟩:=hp;replace hrk:=hrk.up hle2;replace a3:=a3.up hle2;replace a4:=a4.up hle2;replace b3:=b3.up hle2;replace b4:=b4.up hle2;refine aT ?_;refine dP [[7],[8]] ?_;refine cT ?_;refine dO 4 [] ?_;refine pQ [0] ?_;all_goals exact zU (by unfold xU;simp only [h7,or_true,kD];rw [aD (by decide),aD (by decide),aD (by decide),e5]) (zL sX sX sX)
 have h8:i.op=8:=sW;have h124Y:zJ (p2 i.c.toNat) (rs[i.a.toNat]?.getD [])→∀ G1 y,G.le G1→C1 G1 y (p2 i.c.toNat)→y.n≤268435456→Does Tryz.prog 242 [.slice (r[i.a.toNat]?.getD default).a (r[i.a.toNat]?.getD default).n (r[i.a.toNat]?.getD default).c,.agg (A2.enc y).toArray] G1 [] (fun v G' Ho=>(∃ (s:Option Addr) (r':List IV) (d:Nat),v=.tuple #[.slice s r'.length d,.bool true]∧Arr G' s r'∧r'.length≤d∧B7 G' r' ((rs[i.a.toNat]?.getD []).map (· / (p2 i.c.toNat))))∧Ho=[]):=
  fun hd G1 y hG hy hyn=>(h124 G1 y _ hG hy hyn hk0).mono fun v G' Ho _ ⟨p1,p2,p3⟩=>⟨p1 hd,p3⟩
 have h124N:¬zJ (p2 i.c.toNat) (rs[i.a.toNat]?.getD [])→∀ G1 y,G.le G1→C1 G1 y (p2 i.c.toNat)→y.n≤268435456→Does Tryz.prog 242 [.slice (r[i.a.toNat]?.getD default).a (r[i.a.toNat]?.getD default).n (r[i.a.toNat]?.getD default).c,.agg (A2.enc y).toArray] G1 [] (fun v G' Ho=>v=.tuple #[.slice none 0 0,.bool false]∧Ho=[]):=
  fun hd G1 y hG hy hyn=>(h124 G1 y _ hG hy hyn hk0).mono fun v G' Ho _ ⟨p1,p2,p3⟩=>⟨p2 hd,p3⟩
 by_cases hd:zJ (p2 i.c.toNat) (rs[i.a.toNat]?.getD [])
 · skip;refine aH 2 [] ?_;refine eC 1 fun b5=>?_;refine eC 2 fun b6=>?_;refine aZ 5 [] ?_;refine dK [0,1,2] [] T.mixed [[0],[1],[2,2]] ?_;refine fO (α:=SV) 3 T.sl237 ?_;refine nP 4 0 0 T.one68 ?_;refine dP [[5],[6],[7,2]] ?_;refine fO (α:=SV) 8 T.sl237 ?_;refine nP 9 0 0 T.one68 ?_;refine dP [[10],[11]] ?_;refine cT ?_;refine lW 59 [2,0,0,0,0,0,0,1] ?_;refine dK [0,1,2] [(2,6),(1,6),(0,6)] T.mixed [[0],[1,1],[2],[3]] ?_;refine bE 4 ?_;refine aC 1 [2] ?_;refine cX 5 ?_;refine bS 3 F9 (OD _ i.c hc64) fun v1 G1 Ho1 hle1 hp=>?_;obtain ⟨rk,rfl,hrk,rfl⟩:=hp;replace a3:=a3.up hle1;replace a4:=a4.up hle1;replace b3:=b3.up hle1;replace b4:=b4.up hle1;refine cX 6 ?_;refine fA (fst:=[]) (cap:=[]) 3 F9 T.fn242 F9 F9 (h124Y hd _ rk sX hrk (bO (jQ hrk hk3) tG)) (tC H2) fun v2 G2 Ho2 hle2 hp=>?_;obtain ⟨⟨s2,r2,d2,rfl,hA2,hl82,hB2⟩,rfl⟩:=hp;replace hrk:=hrk.up hle2;replace a3:=a3.up hle2;replace a4:=a4.up hle2;replace b3:=b3.up hle2;replace b4:=b4.up hle2;refine aT ?_;refine dP [[7],[8],[9],[10]] ?_;refine cT ?_;refine dO 4 [] ?_;refine pQ [0] ?_;all_goals exact zU (by unfold xU;simp only [h8,or_true,kD];first | (rw [aD (by decide),aD (by decide),aD (by decide),aD (by decide),e5,aE hd]) | (rw [aD (by decide),aD (by decide),aD (by decide),aD (by decide)];exact (by rw [e5];exact aE hd))) (zL sX sX sX)
 skip;refine aH 2 [] ?_;refine eC 1 fun b5=>?_;refine eC 2 fun b6=>?_;refine aZ 5 [] ?_;refine dK [0,1,2] [] T.mixed [[0],[1],[2,2]] ?_;refine fO (α:=SV) 3 T.sl237 ?_;refine nP 4 0 0 T.one68 ?_;refine dP [[5],[6],[7,2]] ?_;refine fO (α:=SV) 8 T.sl237 ?_;refine nP 9 0 0 T.one68 ?_;refine dP [[10],[11]] ?_;refine cT ?_;refine lW 59 [2,0,0,0,0,0,0,1] ?_;refine dK [0,1,2] [(2,6),(1,6),(0,6)] T.mixed [[0],[1,1],[2],[3]] ?_;refine bE 4 ?_;refine aC 1 [2] ?_;refine cX 5 ?_;refine bS 3 F9 (OD _ i.c hc64) fun v1 G1 Ho1 hle1 hp=>?_;obtain ⟨rk,rfl,hrk,rfl⟩:=hp;replace a3:=a3.up hle1;replace a4:=a4.up hle1;replace b3:=b3.up hle1;replace b4:=b4.up hle1;refine cX 6 ?_;refine fA (fst:=[]) (cap:=[]) 3 F9 T.fn242 F9 F9 (h124N hd _ rk sX hrk (bO (jQ hrk hk3) tG)) (tC H2) fun v2 G2 Ho2 hle2 hp=>?_;obtain ⟨rfl,rfl⟩:=hp;replace hrk:=hrk.up hle2;replace a3:=a3.up hle2;replace a4:=a4.up hle2;replace b3:=b3.up hle2;replace b4:=b4.up hle2;refine aT ?_;refine dP [[7],[8],[9],[10]] ?_;refine cT ?_;refine dO 4 [] ?_;refine pQ [0] ?_;all_goals exact Zp (by unfold xU;simp only [h8,or_true,kD];rw [aD (by decide),aD (by decide),aD (by decide),aD (by decide),e5,aD hd])
end
theorem TQ:pw 5≤pb 3:=by unfold pw pb;decide
theorem JB {m k:Nat} {x y:Int} (hx:(x.natAbs:Int)<pb m) (hy:(y.natAbs:Int)<pb k):((x*y).natAbs:Int)<pb (m+k):=by
 rw [gG,kC,CZ];have h1:=bU (dX hy) (show (0:Int)≤x.natAbs by omega);have h2:=Int.mul_lt_mul_of_pos_right hx (yS k);omega
def Vz (p:PV) (zs:List Int):Nat→Option (List Int)
 | 0=>some zs
 | k+1=>(Vz p zs k).bind fun rs=>(Af (p.code[((k:Nat):Int).toNat]?.getD default) rs).map fun x=>rs.set (p.code[((k:Nat):Int).toNat]?.getD default).to.toNat x
theorem Below.mono {m k:Nat} {zs:List Int} (h:Below m zs) (hk:m≤k):Below k zs:=fun z hz=>pD (h z hz) (Sz hk)
section
attribute [local irreducible] tA pb uY uD p2 cst Af
end
theorem Hm {m k:Nat} {xs:List Int} {f:Int→Int} (h:∀ x:Int,(x.natAbs:Int)<pb m→((f x).natAbs:Int)<pb k) (hx:Below m xs):Below k (xs.map f):=fun z hz=>by
 obtain ⟨x,h1,rfl⟩:=dY.1 hz;exact h x (hx x h1)
theorem Pp {m k:Nat} {xs ys:List Int} {f:Int→Int→Int} (h:∀ x y:Int,(x.natAbs:Int)<pb m→(y.natAbs:Int)<pb m→((f x y).natAbs:Int)<pb k) (hx:Below m xs) (hy:Below m ys):Below k (List.zipWith f xs ys):=fun z hz=>by
 rw [gF] at hz;obtain ⟨n,hn,rfl⟩:=hz;rw [List.getElem_zipWith];exact h _ _ (hx _ (bZ _)) (hy _ (bZ _))
theorem JC {i:Sl.Instr} {rs:List (List Int)} {m N:Nat} {x:List Int} (he:C4 m N rs) (ha:0≤i.a∧i.a<rs.length) (hb:i.op=3∨i.op=4→0≤i.b∧i.b<rs.length)
 (hz:i.op=5∨i.op=7→((cst i).natAbs:Int)<pb 3) (h:xU i rs=some x):x.length=N∧Below (m+3) x:=by
 obtain ⟨haL,haB⟩:=he.at (k:=i.a.toNat) sW;have hp:=yS m;have h4:4294967296*pb m≤pb (m+3):=by rw [←yB];exact Sz sW
 unfold xU at h;simp only at h;split at h
 · cases h;exact ⟨by rw [aP];exact haL,Hm (fun x hx=>by omega) haB⟩
 split at h
 · rename_i h3;obtain ⟨hbL,hbB⟩:=he.at (k:=i.b.toNat) (by have:=hb (.inl h3);omega);cases h;exact ⟨by rw [iX,haL,hbL,qM],Pp (fun x y hx hy=>by omega) haB hbB⟩
 split at h
 · rename_i h4;obtain ⟨hbL,hbB⟩:=he.at (k:=i.b.toNat) (by have:=hb (.inr h4);omega);cases h;exact ⟨by rw [iX,haL,hbL,qM],Pp (fun x y hx hy=>by omega) haB hbB⟩
 split at h
 · rename_i h57;cases h;exact ⟨by rw [aP];exact haL,Hm (fun x hx=>by rw [Nat.add_comm];exact JB (hz h57) hx) haB⟩
 split at h
 · split at h
   · cases h;refine ⟨by rw [aP];exact haL,Hm (fun x hx=>?_) haB⟩;have h1:(x / cst i).natAbs≤x.natAbs:=Int.natAbs_ediv_le_natAbs _ _;omega
   cases h
 cases h;exact ⟨haL,haB.mono sW⟩
theorem C4.mono {m k N:Nat} {rs:List (List Int)} (h:C4 m N rs) (hk:m≤k):C4 k N rs:=fun zs hz=>⟨(h zs hz).1,(h zs hz).2.mono hk⟩
theorem JD {m N:Nat} {rs:List (List Int)} {x:List Int} (h:C4 m N rs) (hx:x.length=N∧Below m x) (k:Nat):C4 m N (rs.set k x):=fun zs hz=>by
 rcases fI hz with h1 | h1
 · exact h zs h1
 rw [h1];exact hx
theorem C0.set {G:A3} {r:List SV} {rs:List (List Int)} (h:C0 G r rs) {s:SV} {x:List Int} (hs:D4 G s x) (k:Nat):C0 G (r.set k s) (rs.set k x):=by
 refine ⟨by rw [aG,aG];exact h.1,fun i hi=>?_⟩;rw [aG] at hi;have hrl:=h.1;rw [cI,cI];by_cases e:k=i
 · subst e;rw [aE rfl,aE rfl,aE hi,aE (by omega)];exact hs
 rw [aD e,aD e];exact h.2 i hi
section
attribute [local irreducible] tA pb uY uD p2 cst xU
theorem iy (G:A3) (k:Int) (s:SV):Does Tryz.prog 205 [.int .i64 k,.slice s.a s.n s.c] G [] (fun v G' Ho=>v=.bool true∧G'=G∧Ho=[]):=by
 refine D0 Tryz.func205 Tryz.ntmps205 fun w=>?_;refine bG 11 [] ?_;refine dA ?_;exact ⟨F9,F9,F9⟩
def OI (p:PV) (gs:List (List Int)) (m N:Nat) (o:Option Addr) (d:Nat) (r:List SV) (j:List Value) (v:Value) (G':A3) (Ho:Hp):Prop:=
 ∃ (r':List SV) (k:Int),v=.int .i64 k∧Ho=[(0,o.map (·.block),Row 68 r' j)]∧r'.length=r.length∧A4 o d r' j∧
  ((∃ rs',wX p gs p.code.length=some rs'∧k=-1∧C0 G' r' rs'∧C4 (m+3*p.code.length) N rs')∨(tJ p gs=none∧0≤k))
theorem iz (G:A3) (p:PV) (gs:List (List Int)) (ac ao:Option Addr) (cc co:Nat) (o:Option Addr) (d:Nat) (r:List SV) (j:List Value) (m N:Nat) (hc:Arr G ac p.code) (hob:A4 o d r j) (hg:C0 G r (vN p gs)) (hm:C4 m N (vN p gs)) (hN:N≤1048576)
 (hmm:m+3*p.code.length≤268435456) (hlen:p.code.length≤16384) (hr:(r.length:Int)=p.regs) (hrr:r.length≤128) (hmay:∀ i∈p.code,tI i p.regs=true) :
 Does Tryz.prog 203 [OE,.agg (I0 p ac cc ao co),.slice o r.length d,.func (.func 205) #[] #[]] G [(0,o.map (·.block),Row 68 r j)] (OI p gs m N o d r j):=by
 refine D0 Tryz.func203 Tryz.ntmps203 fun w=>?_;refine aH 2 [] ?_;refine eC 1 fun b1=>?_;refine eC 2 fun b2=>?_;refine aZ 3 [] ?_;refine lX ?_;refine bL 13 [2] ?_;refine Wc.lg (ι:=Nat×A3×List SV×List (List Int)) (fun (i,Gx,r2,rs)=>([(16,.int .i64 (i:Int)),(2,.slice o r2.length d),(15,.int .i64 (↑p.code.length:Int)),(14,.slice ac p.code.length cc),(4,.pointer (some ⟨b1,0,none⟩)),(3,.func (Go.Fn.func 205) #[] #[])],[(0,o.map (·.block),Row 68 r2 j),(2,some b2,.cells (I0 p ac cc ao co) 26),(1,some b1,.cells #[.func (Go.Fn.func 236) #[] #[],.func (Go.Fn.func 237) #[] #[],.func (Go.Fn.func 239) #[] #[],.func (Go.Fn.func 241) #[] #[],.func (Go.Fn.func 242) #[] #[]] 281)])) (fun (i,Gx,r2,rs)=>Gx) (fun (i,Gx,r2,rs)=>i≤p.code.length∧G.le Gx∧r2.length=r.length∧A4 o d r2 j∧C0 Gx r2 rs∧C4 (m+3*i) N rs∧wX p gs i=some rs) (fun (i,Gx,r2,rs)=>p.code.length - i) ((0,G,r,vN p gs)) (⟨aN _,bN _,F9,hob,hg,hm,F9⟩) fun ⟨i,Gx,r2,rs⟩=>fun hk=>?_;obtain ⟨hi0,hgx,hr2,ho2,hg2,hb2,hrun⟩:=hk;replace hc:=hc.up hgx;have hrl:=hg2.1;rcases aK i p.code.length with hic | hic
 · have hmem:(p.code[(i:Int).toNat]?.getD default)∈p.code:=by
    rw [aF,aA hic];exact bZ hic
   have hmi:=hmay _ hmem;obtain ⟨m1,m2,m3,m4,m5,m6,m7,m8⟩:=tY hmi;have m9:(p.code[(i:Int).toNat]?.getD default).a<rs.length:=sW;have hbz:(p.code[(i:Int).toNat]?.getD default).op=3∨(p.code[(i:Int).toNat]?.getD default).op=4∨(p.code[(i:Int).toNat]?.getD default).b=0:=by
    unfold tI at hmi;rw [aW,aW,aV] at hmi;exact hmi.1.1.2.2.2.2
   have mb:0≤(p.code[(i:Int).toNat]?.getD default).b∧(p.code[(i:Int).toNat]?.getD default).b<r2.length:=by
    rcases hbz with h | h | h
    · have:=m4 (.inl h);omega
    · have:=m4 (.inr h);omega
    omega
   have mt:0≤(p.code[(i:Int).toNat]?.getD default).to∧(p.code[(i:Int).toNat]?.getD default).to<r2.length:=sW;have ma:0≤(p.code[(i:Int).toNat]?.getD default).a∧(p.code[(i:Int).toNat]?.getD default).a<r2.length:=sW;have hmi9:m+3*i≤268435456:=sW;have hk3:(p.code[(i:Int).toNat]?.getD default).op≠1→(p.code[(i:Int).toNat]?.getD default).op≠2→(p.code[(i:Int).toNat]?.getD default).op≠3→(p.code[(i:Int).toNat]?.getD default).op≠4→cst (p.code[(i:Int).toNat]?.getD default)≠0∧((cst (p.code[(i:Int).toNat]?.getD default)).natAbs:Int)<pb 3:=fun a b c d=>⟨(m6 a b c d).1,pD (m6 a b c d).2 TQ⟩
   refine aH 14 [1] ?_;refine fV (α:=Sl.Instr) T.sl23 ?_;refine lP T.agg91 ?_;refine aM 3 F9 T.zero91 fun b3=>?_;refine aL 9 [3,1,3] ?_;refine bS 0 F9 (ix _ (p.code[(i:Int).toNat]?.getD default) o d r2 j rs (m+3*i) N ho2 hg2 hb2 hN hmi9 m1 ma mb hk3 m7 m8) fun v1 G1 Ho1 hle1 hp=>?_;obtain ⟨x,rfl,hx,rfl⟩:=hp;replace hc:=hc.up hle1;replace hg2:=hg2.up hle1;by_cases hd:xU (p.code[((i:Nat):Int).toNat]?.getD default) rs=none
   · have hd2:¬xU (p.code[(i:Int).toNat]?.getD default) rs≠none:=fun h=>h hd;refine aL 11 [] ?_;refine aQ (fS F9) ?_;refine aS 16 [1] ?_;refine jJ ?_;refine nT [0] ?_;exact ⟨r2,(i:Int),F9,F9,hr2,ho2,.inr ⟨DG hrun hd hic,by omega⟩⟩
   obtain ⟨z,hz⟩:=Option.ne_none_iff_exists'.1 hd;have hxz:=hx z hz;have hok:xU (p.code[(i:Int).toNat]?.getD default) rs≠none:=hd;refine aL 11 [] ?_;refine aQ (fS F9) ?_;refine aZ 2 [] ?_;refine dB (fun hc1=>?_) fun hc1=>?_;refine bG 13 [] ?_;refine jJ ?_;refine nT [0] ?_;rotate_left;refine aH 8 [3] ?_;refine iK (α:=SV) T.sl237 ?_;refine dJ (z:=_) 0 T.size68 F9 F9 F9 sX sW F9 fun ho1=>?_;refine aL 7 [] ?_;refine fA (fst:=[]) (cap:=[]) 4 F9 T.fn205 F9 F9 (iy _ _ _) (tC H2) fun v2 G2 Ho2 hle2 hp=>?_;obtain ⟨rfl,rfl,rfl⟩:=hp;refine aS 11 [0] ?_;rotate_left
   · exact absurd hok hc1
   refine cE 2 F9 (show _=Value.slice o (r2.set (p.code[(i:Int).toNat]?.getD default).to.toNat x).length d by rw [aG]) ?_;refine cM ((i+1,_,r2.set (p.code[(i:Int).toNat]?.getD default).to.toNat x,rs.set (p.code[(i:Int).toNat]?.getD default).to.toNat z)) ?_ ?_
   · refine ⟨by omega,aO hgx hle1,by rw [aG];exact hr2,by assumption,hg2.set hxz _,?_,Dg (x:=rs) hrun hz⟩;have hs:=JC (i:=p.code[(i:Int).toNat]?.getD default) hb2 (by rw [←hrl];exact ma) (fun _=>by rw [←hrl];exact mb) (fun h=>(hk3 (fun e=>by rw [e] at h;omega) (fun e=>by rw [e] at h;omega) (fun e=>by rw [e] at h;omega) (fun e=>by rw [e] at h;omega)).2) hz;rw [show m+3*(i+1)=m+3*i+3 by omega];exact JD (hb2.mono sW) hs _
   show p.code.length - (i+1)<p.code.length - i;omega
 have hii:i=p.code.length:=sW;subst hii;refine bG 18 [0] ?_;refine jJ ?_;refine nT [0] ?_;exact ⟨r2,-1,F9,F9,hr2,ho2,.inl ⟨rs,hrun,F9,hg2,hb2⟩⟩
end
theorem Ni (G:A3) (p:PV) (ac ao:Option Addr) (cc co:Nat) (hc:Arr G ac p.code) (ho:Arr G ao p.outs) (h1:p.code.length≤1099511627776) (h2:p.outs.length≤1099511627776) (hR:sY p=true) :
 Does Tryz.prog 56 [.agg (I0 p ac cc ao co)] G [] (fun v G' Ho=>v=.tuple #[.int .i64 (vC p).1,.int .i64 0]∧G'=G∧Ho=[]):=by
 have hf:(vC p).2=false:=by unfold sY at hR;simpa using hR
 have h:=ZK G p ac ao cc co hc ho h1 h2;rw [hf] at h;exact h
theorem JE {x y:Int} (h:uY x y=0):x=y:=by
 unfold uY at h;split at h
 · omega
 split at h <;> omega
theorem JF {za zb:List Int} {i:Nat} (h:za.take i=zb.take i) (h1:i<za.length) (h2:i<zb.length) (he:za[i]?.getD 0=zb[i]?.getD 0):za.take (i+1)=zb.take (i+1):=by
 rw [aA h1,aA h2] at he;rw [cG,cG,h,aA h1,aA h2];have e:za[i]=zb[i]:=he;rw [e]
def wC (p:PV) (zs:List Int):List Int:=zs++List.replicate (p.regs.toNat - zs.length) 0
def yW (p:PV) (rs:List Int):List Int:=p.outs.map fun r=>rs[r.toNat]?.getD 0
def Du (p:PV) (zs:List Int):Option (List Int):=(Vz p (wC p zs) p.code.length).map (yW p)
theorem Zq (m n:Nat):Below m (List.replicate n 0):=fun z hz=>by rw [jF hz];exact yS m
section
attribute [local irreducible] tA pb uY uD p2 cst Af vC
theorem ja (G:A3) (p:PV) (ac ao:Option Addr) (cc co:Nat) (hc:Arr G ac p.code) (ho:Arr G ao p.outs) (h1:p.code.length≤1099511627776) (h2:p.outs.length≤1099511627776) (hR:sY p=true) (n:Int) (hn:n=p.ins) :
 Does Tryz.prog 129 [.agg (I0 p ac cc ao co),.int .i64 n] G [] (fun v G' Ho=>v=.int .i64 0∧G'=G∧Ho=[]):=by
 refine D0 Tryz.func129 Tryz.ntmps129 fun w=>?_;refine aH 2 [] ?_;refine eC 0 fun b1=>?_;refine aL 6 [0] ?_;refine cF F9 (Ni _ p _ _ _ _ hc ho h1 h2 hR) ?_;refine aS 36 [0,0,0] ?_;refine dA ?_;exact ⟨F9,F9,F9⟩
theorem jb (G:A3) (a b:Option Addr) (ca cb:Nat) (la lb:List IV) (za zb:List Int) (ha:Arr G a la) (hb:Arr G b lb) (hA:B7 G la za) (hB:B7 G lb zb) (h1:la.length≤1048576) (h2:lb.length≤1048576) (m:Nat) (hm:m≤268435456) (ba:Below m za) (bb:Below m zb) :
 Does Tryz.prog 209 [.slice a la.length ca,.slice b lb.length cb] G [] (fun v G' Ho=>∃ k:Int,v=.int .i64 k∧(k=0↔za=zb)∧G'=G∧Ho=[]):=by
 have e1:=hA.1;have e2:=hB.1;refine D0 Tryz.func209 Tryz.ntmps209 fun w=>?_;by_cases hn:la.length=lb.length
 · refine bL 41 [0,0] ?_;refine iA (ι:=Nat) (fun i=>([(22,.int .i64 (i:Int)),(21,.int .i64 (la.length:Int)),(20,.slice a (List.length la) ca),(1,.slice b (List.length lb) cb)],[])) (fun i=>i≤la.length∧za.take i=zb.take i) (fun i=>la.length - i) (0) (⟨aN _,F9⟩) fun i=>fun hk=>?_;obtain ⟨hi,hz⟩:=hk;rcases aK i la.length with hia | hia
   · have hx9:=hA.at (k:=(i:Int)) sW;have hy9:=hB.at (k:=(i:Int)) sW;have hx5:=bO (jQ hx9 (ba.at _)) (bO hm (show 268435456≤1073741824 by decide));have hy5:=bO (jQ hy9 (bb.at _)) (bO hm (show 268435456≤1073741824 by decide));refine aH 14 [1] ?_;refine fV (α:=IV) T.sl68 ?_;refine lP T.agg125 ?_;refine aM 0 F9 T.zero125 fun b1=>?_;refine aZ 5 [0] ?_;refine dK [0] [] T.mixed [[0,0],[1],[2]] ?_;refine mT (α:=IV) 3 T.sl68 ?_;refine rT 4 T.agg125 ?_;refine bE 5 ?_;refine cF F9 (an _ _ _ _ _ hx9 hy9 hx5 hy5) ?_;refine aT ?_;refine dP [[6]] ?_;refine cT ?_;refine lW 7 [] ?_;refine dB (fun hc1=>?_) fun hc1=>?_;refine bG 12 [] ?_;refine dA ?_;rotate_left;refine bG 7 [] ?_;rotate_left
     · exact ⟨_,F9,⟨fun h=>absurd h hc1,fun h=>absurd (Vs (by rw [h])) hc1⟩,F9,F9⟩
     refine cM (i+1) ?_ ?_
     · exact ⟨by omega,JF hz sW sW (JE (fT.1 hc1))⟩
     omega
   have hii:i=la.length:=sW;subst hii;refine bG 18 [0] ?_;refine dA ?_;refine ⟨0,F9,⟨fun _=>?_,fun _=>rfl⟩,F9,F9⟩;rw [fM sW,fM sW] at hz;exact hz
 have hne:za≠zb:=fun h=>hn (by rw [e1,e2,h]);by_cases hlt:la.length<lb.length
 · refine bG 26 [1] ?_;refine dA ?_;exact ⟨-1,F9,⟨fun h=>absurd h tG,fun h=>absurd h hne⟩,F9,F9⟩
 refine bG 37 [0,1] ?_;refine dA ?_;exact ⟨1,F9,⟨fun h=>absurd h tG,fun h=>absurd h hne⟩,F9,F9⟩
theorem jc (G:A3) (a b:Option Addr) (ca cb:Nat) (la lb:List IV) (za zb:List Int) (ha:Arr G a la) (hb:Arr G b lb) (hA:B7 G la za) (hB:B7 G lb zb) (h1:la.length≤1048576) (h2:lb.length≤1048576) (m:Nat) (hm:m≤268435456) (ba:Below m za) (bb:Below m zb) :
 Does Tryz.prog 160 [.slice a la.length ca,.slice b lb.length cb] G [] (fun v G' Ho=>v=.bool (decide (za=zb))∧G'=G∧Ho=[]):=by
 refine D0 Tryz.func160 Tryz.ntmps160 fun w=>?_;refine aH 9 [] ?_;refine bS 0 F9 (jb G _ _ _ _ _ _ za zb ha hb hA hB h1 h2 m hm ba bb) fun v1 G1 Ho1 hle1 hp=>?_;obtain ⟨k1,rfl,hk1,rfl,rfl⟩:=hp;refine aS 5 [] ?_;refine dA ?_;exact ⟨by rw [decide_eq_decide.2 hk1],F9,F9⟩
end
theorem To {G:A3} {r:List SV} {rs:List (List Int)} {k:Nat} {s:SV} (h:∀ q:Nat,q<k→D4 G (r[q]?.getD default) (rs[q]?.getD [])) (hk:k<r.length) (hs:D4 G s (rs[k]?.getD [])):∀ q:Nat,q<k+1→D4 G ((r.set k s)[q]?.getD default) (rs[q]?.getD []):=fun q hq=>by
 rw [cI];by_cases he:k=q
 · subst he;rw [aE rfl,aE hk];exact hs
 rw [aD he];exact h q sW
theorem Zr {G G':A3} {r:List SV} {rs:List (List Int)} {k:Nat} (h:∀ q:Nat,q<k→D4 G (r[q]?.getD default) (rs[q]?.getD [])) (hl:G.le G'):∀ q:Nat,q<k→D4 G' (r[q]?.getD default) (rs[q]?.getD []):=fun q hq=>(h q hq).up hl
section
attribute [local irreducible] tA pb uY uD p2 cst xU
theorem jd (G:A3) (p:PV) (ac ao ga:Option Addr) (cc co gc:Nat) (gl:List SV) (gs:List (List Int)) (m N:Nat) (hc:Arr G ac p.code) (ho:Arr G ao p.outs) (hga:Arr G ga gl) (hgg:C0 G gl gs) (hev:C4 m N gs) (hN:N≤4096) (hR:sY p=true) (hgi:(gl.length:Int)=p.ins) :
 Does Tryz.prog 202 [.agg (I0 p ac cc ao co),.slice ga gl.length gc] G [] (fun v G' Ho=>∃ b r,v=.tuple #[.slice (some ⟨b,0,none⟩) r.length p.regs.toNat,.int .i64 0]∧C0 G' r (vN p gs)∧r.length=p.regs.toNat∧Ho=[(1,some b,Row 68 r [])]):=by
 obtain ⟨f1,f2,f3,f4,f5,f6,f7,f8⟩:=tB hR;have h1:p.code.length≤1099511627776:=sW;have h2:p.outs.length≤1099511627776:=sW;have hgl:=hgg.1;obtain ⟨R,hRR⟩:∃ R:Nat,p.regs=(R:Int):=⟨p.regs.toNat,by omega⟩
 refine D0 Tryz.func202 Tryz.ntmps202 fun w=>?_;have hM:p.regs.toNat=R:=sW;have hrl0:=vY p gs;rw [hM] at hrl0;have hgl0:0<gl.length:=sW;obtain ⟨h0L,h0B⟩:=hev.at (k:=0) sW;obtain ⟨l0,e1,e2,e3,e4⟩:=hgg.2 0 sW;have h0n:(gl[(0:Int).toNat]?.getD default).n=N:=by
  show (gl[0]?.getD default).n=N;rw [←e1,e4.1,h0L]
 refine aH 2 [] ?_;refine eC 0 fun b1=>?_;refine aL 10 [0] ?_;refine cF F9 (ja _ p _ _ _ _ sX sX h1 h2 hR _ hgi) ?_;refine aL 15 [0] ?_;refine fV (α:=SV) T.sl237 ?_;refine bX F9 (bV T.one68 F9 (gI sX sW 0 F9 F9)) ?_;refine aL 8 [0] ?_;refine gN (α:=SV) 1 F9 T.sl237 T.el68 F9 F9 sW sW fun b2=>?_;refine aZ 12 [] ?_;rw [hM];have hown:∀ r:List SV,r.length=R→A4 (some ⟨b2,0,none⟩) R r []:=fun r hr=>.inr ⟨b2,F9,by rw [hr];rfl,by omega,by simp only [maxLen];omega⟩;refine iP 8 F9 (show _=Value.slice (some ⟨b2,0,none⟩) (List.replicate R (default:SV)).length R by rw [aJ]) ?_;refine iP 7 F9 (show _=Value.int .i64 (N:Int) by rw [h0n]) ?_;refine iP 25 F9 (show _=Value.int .i64 (R:Int) by rw [aJ]) ?_;refine Wc.lg (ι:=Nat×A3×List SV) (fun (k,Gx,r)=>([(26,.int .i64 (k:Int)),(8,.slice (some ⟨b2,0,none⟩) r.length R),(25,.int .i64 (↑R:Int)),(7,.int .i64 (↑N:Int)),(1,.slice ga (List.length gl) gc)],[(1,some b2,Row 68 r []),(0,some b1,.cells (I0 p ac cc ao co) 26)])) (fun (k,Gx,r)=>Gx) (fun (k,Gx,r)=>k≤R∧G.le Gx∧r.length=R∧∀ q:Nat,q<k→D4 Gx (r[q]?.getD default) ((vN p gs)[q]?.getD [])) (fun (k,Gx,r)=>R - k) ((0,G,List.replicate R (default:SV))) (⟨aN _,bN _,aJ,fun q hq=>by omega⟩) fun ⟨k,Gx,r⟩=>fun hk=>?_;obtain ⟨hk0,hgx,hrR,hrow⟩:=hk;replace hga:=hga.up hgx;replace hgg:=hgg.up hgx;have hor:=hown r hrR;rcases aK k R with hkR | hkR
 · by_cases hkg:k<gl.length
   · have hkn:(gl[(k:Int).toNat]?.getD default).n=N:=by
      obtain ⟨l1,a1,a2,a3,a4⟩:=hgg.2 k hkg;rw [aF,←a1,a4.1];exact (hev.at (k:=k) sW).1
     refine aH 22 [1] ?_;refine gN (α:=IV) 2 F9 T.sl68 T.el125 F9 F9 sW sW fun b3=>?_;refine iK (α:=SV) T.sl237 ?_;refine fR 32 F9 (show _=Value.slice (some ⟨b3,0,none⟩) N N by rw [aJ];rfl) ?_;refine oY 2 (Row 125 (List.replicate N (default:IV)) []) F9 F9 ?_;refine dJ (z:=(⟨some ⟨b3,0,none⟩,N,N⟩:SV)) (m:=(k:Int)) 1 T.size68 F9 F9 F9 hor sW F9 fun ho1=>?_;have hrk:((r.set k (⟨some ⟨b3,0,none⟩,N,N⟩:SV))[k]?.getD default)=⟨some ⟨b3,0,none⟩,N,N⟩:=by rw [cI,aE rfl,aE (by omega)];rfl
     have ho3:A4 (some ⟨b3,0,none⟩) N (List.replicate N (default:IV)) []:=.inr ⟨b3,F9,by rw [aJ];rfl,by rw [aJ];exact aI _,by simp only [maxLen];omega⟩;rw [aF] at ho1 ⊢;obtain ⟨r9,hr9⟩:∃ r9,r9=r.set k (⟨some ⟨b3,0,none⟩,N,N⟩:SV):=⟨_,F9⟩
     have hr9l:r9.length=R:=by rw [hr9,aG];exact hrR
     rw [←hr9] at ho1 hrk ⊢;refine aL 16 [1] ?_;refine fV (α:=SV) T.sl237 ?_;refine jG 0 T.one68 ?_;refine aC 4 [] ?_;refine nF 45 ?_;refine aZ 10 [0] ?_;refine dK [0,2,1] [(1,8),(2,8)] T.mixed [[0],[1]] ?_;refine fO (α:=SV) 2 T.sl237 ?_;refine eD 3 [0,1] F9 (fG 1 0 T.one68 F9 F9 sX sW F9 F9) ?_;refine dP [[4],[5]] ?_;refine mT (α:=SV) 6 T.sl237 ?_;refine rJ 7 [0] 0 T.one68 ?_;refine bE 8 ?_;obtain ⟨l1,a1,a2,a3,a4⟩:=hgg.2 k hkg;have hl1:l1.length=N:=by rw [a1];exact hkn
     refine fR 52 F9 (show _=Value.slice (some ⟨b3,0,none⟩) (List.replicate N (default:IV)).length N by rw [aF,hrk,aJ]) ?_;refine fR 56 F9 (show _=Value.slice (gl[k]?.getD default).a l1.length (gl[k]?.getD default).c by rw [a1];rfl) ?_;refine Pd (α:=IV) 2 F9 T.sl68 F9 F9 F9 (lQ a3) (by rw [hl1,aJ];exact aI _) ?_;refine oY 2 (Row 125 l1 []) F9 (by rw [hl1,List.drop_replicate,iW,List.replicate_zero,bB]) ?_;have ho4:A4 (some ⟨b3,0,none⟩) N l1 []:=.inr ⟨b3,F9,by rw [hl1];rfl,by rw [hl1];exact aI _,by simp only [maxLen];omega⟩;refine fJ ?_;refine dO 6 [] ?_;refine dD 2 F9 ho4 fun G1 hle1 hA1=>?_;refine cE 8 F9 (show _=Value.slice (some ⟨b2,0,none⟩) r9.length R by rw [hr9l,hrR]) ?_;refine cM ((k+1,G1,r9)) ?_ ?_
     · have hs9:D4 G1 ⟨some ⟨b3,0,none⟩,N,N⟩ ((vN p gs)[k]?.getD []):=by
        rw [Er sW,aE (by omega)];exact ⟨l1,hl1,aI _,hA1,a4.up hle1⟩
       refine ⟨by omega,aO hgx hle1,hr9l,fun q hq=>?_⟩;rw [hr9];exact To (Zr hrow hle1) sW hs9 q hq
     show R - (k+1)<R - k;omega
   refine aH 22 [1] ?_;refine gN (α:=IV) 2 F9 T.sl68 T.el125 F9 F9 sW sW fun b3=>?_;refine iK (α:=SV) T.sl237 ?_;refine fR 32 F9 (show _=Value.slice (some ⟨b3,0,none⟩) N N by rw [aJ];rfl) ?_;refine oY 2 (Row 125 (List.replicate N (default:IV)) []) F9 F9 ?_;refine dJ (z:=(⟨some ⟨b3,0,none⟩,N,N⟩:SV)) (m:=(k:Int)) 1 T.size68 F9 F9 F9 hor sW F9 fun ho1=>?_;have hrk:((r.set k (⟨some ⟨b3,0,none⟩,N,N⟩:SV))[k]?.getD default)=⟨some ⟨b3,0,none⟩,N,N⟩:=by rw [cI,aE rfl,aE (by omega)];rfl
   have ho3:A4 (some ⟨b3,0,none⟩) N (List.replicate N (default:IV)) []:=.inr ⟨b3,F9,by rw [aJ];rfl,by rw [aJ];exact aI _,by simp only [maxLen];omega⟩;rw [aF] at ho1 ⊢;obtain ⟨r9,hr9⟩:∃ r9,r9=r.set k (⟨some ⟨b3,0,none⟩,N,N⟩:SV):=⟨_,F9⟩
   have hr9l:r9.length=R:=by rw [hr9,aG];exact hrR
   rw [←hr9] at ho1 hrk ⊢;refine aS 18 [0] ?_;refine dD 2 F9 ho3 fun G1 hle1 hA1=>?_;refine cE 8 F9 (show _=Value.slice (some ⟨b2,0,none⟩) r9.length R by rw [hr9l,hrR]) ?_;refine cM ((k+1,G1,r9)) ?_ ?_
   · have hs9:D4 G1 ⟨some ⟨b3,0,none⟩,N,N⟩ ((vN p gs)[k]?.getD []):=by
      rw [Er sW,aD (by omega),h0L];exact ⟨_,aJ,aI _,hA1,rY _ _⟩
     refine ⟨by omega,aO hgx hle1,hr9l,fun q hq=>?_⟩;rw [hr9];exact To (Zr hrow hle1) sW hs9 q hq
   show R - (k+1)<R - k;omega
 refine bG 20 [0] ?_;refine iC (.inr F9) (Ho:=[(1,some b2,Row 68 r [])]) F9 (.tmp F9) (.tmp F9) ⟨F9,H2⟩ ?_;exact ⟨b2,r,F9,⟨by omega,fun i hi=>hrow i sW⟩,hrR,F9⟩
end
theorem JG {G:A3} {q:List SV} {os:List (List Int)} {i:Nat} {s:SV} (h:∀ t:Nat,t<i→D4 G (q[t]?.getD default) (os[t]?.getD [])) (hq:q.length=i) (hs:D4 G s (os[i]?.getD [])):∀ t:Nat,t<i+1→D4 G ((q++[s])[t]?.getD default) (os[t]?.getD []):=fun t ht=>by
 rcases aK t i with h1 | h1
 · rw [bJ sW];exact h t h1
 have e:t=i:=sW;subst e;rw [cL sW,hq,iW];exact hs
theorem TR {p:PV} {rs:List (List Int)} {i:Nat} (hi:i<p.outs.length):(xI p rs)[i]?.getD []=rs[(p.outs[((i:Nat):Int).toNat]?.getD default).toNat]?.getD []:=by
 unfold xI;rw [bK,aF,aA hi];rfl
section
attribute [local irreducible] tA pb uY uD p2 cst xU
theorem je (G:A3) (a:Option Addr) (c:Nat) (l:List IV) (ha:Arr G a l) (hl:l.length≤1048576) :
 Does Tryz.prog 206 [.slice a l.length c] G [] (fun v G' Ho=>∃ s d,v=.slice s l.length d∧Arr G' s l∧l.length≤d∧Ho=[]):=by
 by_cases hne:a=none
 · have h0:l=[]:=by
    rcases ha.2 with h | ⟨b,o,h,_⟩
    · exact dV h
    rw [hne] at h;cases h
   subst hne;subst h0;have hyes:(none:Option Addr)=none:=rfl;refine D0 Tryz.func206 Tryz.ntmps206 fun w=>?_;refine aH 9 [] ?_;refine aQ (jT T.sl68 F9 F9) ?_;refine aS 10 [1] ?_;refine dA ?_;exact ⟨none,0,F9,kG _,aI _,F9⟩
 refine D0 Tryz.func206 Tryz.ntmps206 fun w=>?_;refine aH 9 [] ?_;refine aQ (jT T.sl68 F9 F9) ?_;refine aL 7 [0] ?_;refine rN 0 F9 T.sl68 fun b1=>?_;refine aC 1 [] ?_;refine oY 0 (Row 125 ([]:List IV) []) F9 F9 ?_;refine cP (α:=IV) (xs:=[]) (ys:=l) (junk:=[]) 0 F9 T.sl68 T.el125 F9 F9 F9 (.inr ⟨b1,F9,F9,aI _,aN _⟩) (lQ ha) (by rw [cH];omega) KU fun a1 c1 junk1 ho1=>?_;rw [gA] at ho1 ⊢;have hc1:=ho1.le;refine aS 4 [] ?_;refine dD 0 F9 ho1 fun G1 hle1 hA1=>?_;refine dA ?_;exact ⟨a1,c1,F9,hA1,hc1,F9⟩
def OJ (p:PV) (gs:List (List Int)) (m N:Nat) (v:Value) (G':A3) (Ho:Hp):Prop:=
 Ho=[]∧((∃ os b r c',tJ p gs=some os∧v=.tuple #[.slice b (List.length r) c',.int .i64 0,.int .i64 0]∧Arr G' b r∧List.length r≤c'∧C0 G' r os∧C4 (m+3*p.code.length) N os)∨(tJ p gs=none∧∃ k,v=.tuple #[.slice none 0 0,.int .i64 k,.int .i64 20]))
theorem bx (G:A3) (p:PV) (ac ao ga:Option Addr) (cc co gc:Nat) (gl:List SV) (gs:List (List Int)) (m N:Nat) (hc:Arr G ac p.code) (ho:Arr G ao p.outs) (hga:Arr G ga gl) (hgg:C0 G gl gs) (hev:C4 m N gs) (hmm:m≤1048576) (hN:N≤4096) (hR:sY p=true) (hgi:(gl.length:Int)=p.ins) :
 Does Tryz.prog 155 [.agg (I0 p ac cc ao co),.slice ga gl.length gc] G [] (OJ p gs m N):=by
 obtain ⟨f1,f2,f3,f4,f5,f6,f7,f8⟩:=tB hR;obtain ⟨R,hRR⟩:∃ R:Nat,p.regs=(R:Int):=⟨p.regs.toNat,by omega⟩
 refine D0 Tryz.func155 Tryz.ntmps155 fun w=>?_;refine eF 0 (Row 68 ([]:List SV) []) ?_;refine aH 2 [] ?_;refine eC 1 fun b1=>?_;refine aL 9 [1] ?_;refine bS 2 F9 (jd _ p ac ao ga cc co gc gl gs m N hc ho hga hgg hev hN hR hgi) fun v1 G1 Ho1 hle1 hp=>?_;obtain ⟨b9,r0,rfl,hg0,hr0,rfl⟩:=hp;replace hc:=hc.up hle1;replace ho:=ho.up hle1;have hrl0:=vY p gs;have hm0:C4 m N (vN p gs):=fun zs hz=>by
  unfold vN at hz;obtain ⟨k,hk,rfl⟩:=dY.1 hz;have hN9:=(hev.at (k:=0) (by have:=hgg.1;omega)).1;split
  · exact hev.at (k:=k) sW
  rw [hN9];exact ⟨aJ,Zq m _⟩
 refine aZ 19 [0] ?_;refine dK [0,1,3] [(3,3),(1,3),(0,3)] T.mixed [[1,1],[2]] ?_;refine bE 0 ?_;refine cF F9 (iw _) ?_;refine cX 3 ?_;refine bS 3 F9 (iz _ p gs ac ao cc co (some ⟨b9,0,none⟩) p.regs.toNat r0 [] m N hc (.inr ⟨b9,F9,by rw [hr0];rfl,by omega,by simp only [maxLen];omega⟩) hg0 hm0 sW sW f4 sW sW f8) fun v9 G9 Ho9 hle9 hp=>?_;obtain ⟨r9,k9,rfl,rfl,hr9,ho9,hcase⟩:=hp;replace ho:=ho.up hle9;rcases hcase with ⟨rs,hrs,rfl,hg9,he9⟩ | ⟨hno,hk9⟩
 · have hrs1:=hg9.1;have lr9:r9.length=R:=sW;have hfol:tJ p gs=some (xI p rs):=by unfold tJ;rw [hrs];rfl
   refine aT ?_;refine dP [[4]] ?_;refine cT ?_;refine lW 25 [0,1] ?_;refine iP 7 F9 (show _=Value.slice (some ⟨b9,0,none⟩) r9.length p.regs.toNat by rw [hr9]) ?_;refine kE (ι:=Nat×A3×List SV×(Option Addr×Nat×List Value)) (fun (i,Gx,q,(o,d,j))=>([(32,.int .i64 (i:Int)),(10,.slice o q.length d),(7,.slice (some (Addr.mk b9 0 none)) (List.length r9) (Int.toNat p.regs)),(31,.int .i64 (↑p.outs.length:Int)),(30,.slice ao p.outs.length co),(6,.int .i64 0),(5,.int .i64 0),(4,.slice none 0 0)],[(0,o.map (·.block),Row 68 q j),(3,some b9,Row 68 r9 []),(1,some b1,.cells (I0 p ac cc ao co) 26)])) (fun (i,Gx,q,(o,d,j))=>Gx) (fun (i,Gx,q,(o,d,j))=>i≤p.outs.length∧G9.le Gx∧q.length=i∧(∀ t:Nat,t<i→D4 Gx (q[t]?.getD default) ((xI p rs)[t]?.getD []))∧A4 o d q j) (fun (i,Gx,q,(o,d,j))=>p.outs.length - i) ((0,G9,[],(none,0,[]))) (⟨aN _,bN _,F9,fun t ht=>by omega,eG⟩) F9 ⟨F9,F9,F9,F9,F9,F9,F9,F9,H2⟩ ⟨F9,F9,F9,H2⟩ fun ⟨i,Gx,q,(o,d,j)⟩=>fun hk=>?_;obtain ⟨hi0,hgx,hqi,hbq,hoq⟩:=hk;replace ho:=ho.up hgx;rcases aK i p.outs.length with hio | hio
   · have hmem:p.outs[(i:Int).toNat]?.getD default∈p.outs:=by
      rw [aF,aA hio];exact bZ hio
     have hrg:=f7 _ hmem;obtain ⟨l1,a1,a2,a3,a4⟩:=hg9.2 (p.outs[(i:Int).toNat]?.getD default).toNat sW;have hN1:=(he9.at (k:=(p.outs[(i:Int).toNat]?.getD default).toNat) sW).1;have hl1:l1.length=N:=by rw [a4.1,hN1]
     refine aH 13 [1] ?_;refine fV (α:=Int) T.sl24 ?_;refine jG 0 T.one3 ?_;refine aL 7 [] ?_;refine iK (α:=SV) T.sl237 ?_;refine nG 3 0 T.one68 ?_;refine fR 40 F9 (show _=Value.slice (r9[(p.outs[(i:Int).toNat]?.getD default).toNat]?.getD default).a l1.length (r9[(p.outs[(i:Int).toNat]?.getD default).toNat]?.getD default).c by rw [a1]) ?_;refine bS 20 F9 (je _ _ _ l1 (a3.up hgx) sW) fun v1 G2 Ho1 hle2 hp=>?_;obtain ⟨s2,d2,rfl,hA2,hd2,rfl⟩:=hp;refine cC (α:=SV) 4 [⟨_,_,_⟩] F9 T.sl237 T.el68 F9 F9 F9 F9 F9 fun b2=>?_;refine kM (α:=SV) 0 T.sl237 T.el68 (cQ 4 F9) fun a1 c1 junk1 ho1=>?_;refine aS 8 [] ?_;refine cM ((i+1,G2,q++[⟨s2,l1.length,d2⟩],(a1,c1,junk1))) ?_ ?_
     · refine ⟨by omega,aO hgx hle2,by rw [aB,hqi];rfl,JG (fun t ht=>(hbq t ht).up hle2) hqi ?_,ho1⟩;rw [TR hio];exact ⟨l1,F9,hd2,hA2,a4.up (aO hgx hle2)⟩
     show p.outs.length - (i+1)<p.outs.length - i;omega
   have hii:i=p.outs.length:=sW;subst hii;have hqd:=hoq.le;refine bG 21 [0] ?_;refine dD 0 F9 hoq fun G8 hle8 hA=>?_;refine Ip (.inr F9) (Ho:=[]) F9 (.tmp F9) (.tmp F9) (.tmp F9) H2 ?_;have hol:(xI p rs).length=p.outs.length:=by unfold xI;rw [aP]
   refine ⟨F9,.inl ⟨xI p rs,o,q,d,hfol,F9,hA,hqd,⟨by omega,fun t ht=>(hbq t sW).up hle8⟩,fun zs hz=>?_⟩⟩;unfold xI at hz;obtain ⟨x,hx,rfl⟩:=dY.1 hz;have hx7:=f7 x hx;exact he9.at (k:=x.toNat) sW
 refine aT ?_;refine dP [[4]] ?_;refine cT ?_;refine dO 18 [1] ?_;refine Ip (.inr F9) (Ho:=[]) F9 (.tmp F9) (.tmp F9) (.tmp F9) H2 ?_;exact ⟨F9,.inr ⟨hno,k9,F9⟩⟩
end
section
attribute [local irreducible] tA pb uY uD p2 cst xU
theorem jf (G:A3) (n:Nat) (hn:n≤4096) :
 Does Tryz.prog 208 [.int .i64 (n:Int)] G [] (fun v G' Ho=>∃ b,v=.tuple #[.slice (some ⟨b,0,none⟩) (List.replicate n (default:IV)).length n,.int .i64 0]∧G'=G∧Ho=[(0,some b,Row 125 (List.replicate n (default:IV)) [])]):=by
 refine D0 Tryz.func208 Tryz.ntmps208 fun w=>?_;refine aH 12 [] ?_;refine nF 6 ?_;refine aL 13 [0] ?_;refine gN (α:=IV) 0 F9 T.sl68 T.el125 F9 F9 sW sW fun b1=>?_;refine aS 5 [] ?_;refine iC (.inr F9) (Ho:=[(0,some b1,Row 125 (List.replicate n (default:IV)) [])]) F9 (.tmp F9) (.tmp F9) ⟨F9,H2⟩ ?_;exact ⟨b1,by simp,rfl,rfl⟩
theorem jg (G:A3) (n j:Nat) (hn:n≤4096) (hj:j<n) :
 Does Tryz.prog 159 [.int .i64 (n:Int),.int .i64 (j:Int)] G [] (fun v G' Ho=>∃ s l d,v=.tuple #[.slice s (List.length l) d,.int .i64 0]∧Arr G' s l∧List.length l=n∧n≤d∧B7 G' l (uU n j)∧Ho=[]):=by
 refine D0 Tryz.func159 Tryz.ntmps159 fun w=>?_;refine aH 9 [] ?_;refine bS 0 F9 (jf _ n hn) fun v1 G1 Ho1 hle1 hp=>?_;obtain ⟨b1,rfl,rfl,rfl⟩:=hp;have ho3:A4 (some ⟨b1,0,none⟩) n (List.replicate n (default:IV)) []:=.inr ⟨b1,F9,by rw [aJ];rfl,by rw [aJ];exact aI _,by simp only [maxLen];omega⟩;obtain ⟨r0,hr0⟩:∃ r0,r0=List.replicate n (default:IV):=⟨_,F9⟩
 have lr0:r0.length=n:=by rw [hr0,aJ]
 rw [←hr0] at ho3 ⊢;refine aL 22 [0] ?_;refine nF 20 ?_;refine aL 18 [0] ?_;refine bS 1 F9 (RI _ _ tG) fun v2 G2 Ho2 hle2 hp=>?_;obtain ⟨ri2,rfl,hri2,rfl⟩:=hp;refine iK (α:=IV) T.sl68 ?_;refine dJ (z:=ri2) (m:=(j:Int)) 0 T.size125 F9 F9 F9 ho3 sW F9 fun ho1=>?_;have hB:B7 G2 (r0.set j ri2) (uU n j):=by
  rw [hr0];unfold uU;exact (rY G2 n).set j hri2
 have hl9:(r0.set j ri2).length=n:=by rw [aG];exact lr0
 rw [aF] at ho1 ⊢;obtain ⟨r9,hr9⟩:∃ r9,r9=r0.set j ri2:=⟨_,F9⟩
 rw [←hr9] at ho1 hB hl9 ⊢;refine aS 10 [] ?_;refine dD 0 F9 ho1 fun G3 hle3 hA3=>?_;refine cE 4 F9 (show _=Value.slice (some ⟨b1,0,none⟩) r9.length n by rw [hl9,lr0]) ?_;refine iB ?_;exact ⟨_,r9,n,F9,hA3,hl9,aI _,hB.up hle3,F9⟩
end
theorem Wa:pb 2=pw 4:=by unfold pb pw;decide
theorem Pq {N:Nat} {gs:List (List Int)} (h:XT 4 N gs):C4 2 N gs:=fun zs hz=>⟨(h zs hz).1,fun z hz'=>by rw [Wa];exact (h zs hz).2 z hz'⟩
theorem Zs (n j:Nat):Below 2 (uU n j):=fun z hz=>by
 rw [Wa];exact Pk n j 4 sW z hz
theorem OK {os:List (List Int)} {n:Nat} (hl:os.length=n):(os=(List.range n).map (uU n))↔∀ t:Nat,t<n→os[t]?.getD []=uU n t:=by
 constructor
 · intro h t ht;rw [h,bK,fB ht];rfl
 intro h;refine hS fun i=>?_;rcases aK i n with h1 | h1
 · have:=h i h1;rw [aA sW] at this ⊢;rw [bK,fB h1];show some os[i]=some (uU n i);rw [←this];rfl
 rw [cA sW,cA (by rw [aP,cB];omega)]
section
attribute [local irreducible] tA pb pw uY uD p2 cst xU tJ xK sY uU
theorem YC (G:A3) (p:PV) (ac ao:Option Addr) (cc co:Nat) (hc:Arr G ac p.code) (ho:Arr G ao p.outs) (h1:p.code.length≤1099511627776) (h2:p.outs.length≤1099511627776) (hP:¬sY p=true) :
 Does Tryz.prog 56 [.agg (I0 p ac cc ao co)] G [] (fun v G' Ho=>v=.tuple #[.int .i64 (vC p).1,.int .i64 80]∧G'=G∧Ho=[]):=by
 have hf:(vC p).2=true:=by unfold sY at hP;simpa using hP
 have h:=ZK G p ac ao cc co hc ho h1 h2;rw [hf] at h;exact h
theorem bz (G:A3) (p:PV) (ac ao:Option Addr) (cc co:Nat) (a:Option Addr) (c:Nat) (l:List R2) (hc:Arr G ac p.code) (ho:Arr G ao p.outs) (hcl:p.code.length≤1099511627776) (hol:p.outs.length≤1099511627776) (ha:Arr G a l) (hac:l.length≤c) (hl:l.length≤1048576) (hR:uG l) (hP:sY p=true) :
 Does Tryz.prog 111 [.agg (I0 p ac cc ao co),.slice a l.length c] G [] (fun v G' Ho=>v=.tuple #[.bool (decide (uP p l)),.int .i64 0]∧Ho=[]):=by
 have hl1:=hR.1;have hl15:=hR.2.1;have hev:=Pq (DL hl15 (fun i hi=>(hR.2.2.1 i hi).1));have hgl:=Dh l;obtain ⟨f1,f2,f3,f4,f5,f6,f7,f8⟩:=tB hP;refine D0 Tryz.func111 Tryz.ntmps111 fun w=>?_;by_cases hI:p.ins=l.length
 · by_cases hO:p.outs.length=l.length
   · refine aH 2 [] ?_;refine eC 0 fun b1=>?_;refine aL 7 [] ?_;refine bS 1 F9 (NU _ a c l sX sW hac hR hl15 hR.2.2.1) fun v1 G1 Ho1 hle1 hp=>?_;obtain ⟨gs1,gr1,gc1,rfl,hga1,hgb1,hgc1,rfl⟩:=hp;replace hc:=hc.up hle1;replace ho:=ho.up hle1;replace ha:=ha.up hle1;refine aL 21 [0,0] ?_;refine cF F9 (Ni _ p _ _ _ _ sX sX hcl hol hP) ?_;refine aL 24 [0,0] ?_;refine nF 35 ?_;refine aL 22 [0,0,0] ?_;refine bS 20 F9 (bx _ p ac ao gs1 cc co gc1 gr1 (xK l) 2 l.length sX sX sX sX hev sW sW hP (by rw [hgb1.1,hgl,hI])) fun v9 G9 Ho9 hle9 hp=>?_;obtain ⟨rfl,⟨os,ob,orr,oc,hfo,rfl,hoA,hol9,hoB,hoE⟩ | ⟨hno,k9,rfl⟩⟩:=hp
     · have hos:=Pj hfo;have hoL:=hoB.1;replace ha:=ha.up hle9;have hiff:uP p l↔∀ t:Nat,t<l.length→os[t]?.getD []=uU l.length t:=by
        rw [←OK sW];unfold uP;rw [hfo];exact ⟨fun h=>kB h.2.2.2,fun h=>⟨hP,hI,hO,by rw [h]⟩⟩
       refine aZ 28 [0] ?_;refine Wc.lg (ι:=Nat×A3) (fun (i,Gx)=>([(54,.int .i64 (i:Int)),(53,.int .i64 (orr.length:Int)),(52,.slice ob (List.length orr) oc),(1,.slice a (List.length l) c)],[(0,some b1,.cells (I0 p ac cc ao co) 26)])) (fun (i,Gx)=>Gx) (fun (i,Gx)=>i≤l.length∧G9.le Gx∧∀ t:Nat,t<i→os[t]?.getD []=uU l.length t) (fun (i,Gx)=>l.length - i) ((0,G9)) (⟨aN _,bN _,fun t ht=>by omega⟩) fun ⟨i,Gx⟩=>fun hk=>?_;obtain ⟨hi0,hgx,hall⟩:=hk;replace hoA:=hoA.up hgx;rcases aK i l.length with hil | hil
       · obtain ⟨l1,a1,a2,a3,a4⟩:=(hoB.up hgx).2 i sW;have hE1:=hoE.at (k:=i) sW;refine aH 14 [1] ?_;refine fV (α:=SV) T.sl237 ?_;refine jG 0 T.one68 ?_;refine aL 9 [] ?_;refine bS 20 F9 (jg _ l.length i sW hil) fun v1 G2 Ho1 hle2 hp=>?_;obtain ⟨s2,l2,d2,rfl,hA2,hl2,hd2,hB2,rfl⟩:=hp;refine aL 11 [] ?_;refine fR 66 F9 (show _=Value.slice (orr[i]?.getD default).a l1.length (orr[i]?.getD default).c by rw [a1];rfl) ?_;refine bS 20 F9 (jc _ _ _ _ _ l1 l2 (os[i]?.getD []) (uU l.length i) (a3.up hle2) hA2 (a4.up hle2) hB2 (by rw [a4.1,hE1.1];omega) sW (2+3*p.code.length) sW hE1.2 ((Zs _ _).mono sW)) fun v1 G3 Ho1 hle3 hp=>?_;obtain ⟨rfl,rfl,rfl⟩:=hp;by_cases he:os[i]?.getD []=uU l.length i
         · have he2:¬¬(os[i]?.getD []=uU l.length i):=fun h=>h he;refine aQ (fS F9) ?_;refine aS 10 [0] ?_;refine cM ((i+1,G3)) ?_ ?_
           · refine ⟨by omega,aO hgx hle2,fun t ht=>?_⟩;rcases aK t i with h1 | h1
             · exact hall t h1
             have e:t=i:=sW;rw [e];exact he
           show l.length - (i+1)<l.length - i;omega
         have hnI:¬uP p l:=fun h=>he (hiff.1 h i hil);refine aQ (fS F9) ?_;refine aS 15 [1] ?_;refine iB ?_;exact ⟨by rw [cD hnI],F9⟩
       have hyI:uP p l:=hiff.2 (fun t ht=>hall t sW);refine bG 19 [0] ?_;refine iB ?_;exact ⟨by rw [bT hyI],F9⟩
     have hnI:¬uP p l:=fun h=>by have:=h.2.2.2;rw [hno] at this;cases this
     refine aS 25 [1] ?_;refine iB ?_;exact ⟨by rw [cD hnI],F9⟩
   have hnI:¬uP p l:=fun h=>hO h.2.2.1;refine aH 2 [] ?_;refine eC 0 fun b1=>?_;refine aL 7 [] ?_;refine bS 1 F9 (NU _ a c l sX sW hac hR hl15 hR.2.2.1) fun v1 G1 Ho1 hle1 hp=>?_;obtain ⟨gs1,gr1,gc1,rfl,hga1,hgb1,hgc1,rfl⟩:=hp;replace hc:=hc.up hle1;replace ho:=ho.up hle1;replace ha:=ha.up hle1;refine aL 21 [0,0] ?_;refine cF F9 (Ni _ p _ _ _ _ sX sX hcl hol hP) ?_;refine aL 24 [0,0] ?_;refine nF 35 ?_;refine aS 24 [0,1] ?_;refine iB ?_;all_goals exact ⟨by rw [cD hnI],F9⟩
 have hnI:¬uP p l:=fun h=>hI h.2.1;refine aH 2 [] ?_;refine eC 0 fun b1=>?_;refine aL 7 [] ?_;refine bS 1 F9 (NU _ a c l sX sW hac hR hl15 hR.2.2.1) fun v1 G1 Ho1 hle1 hp=>?_;obtain ⟨gs1,gr1,gc1,rfl,hga1,hgb1,hgc1,rfl⟩:=hp;replace hc:=hc.up hle1;replace ho:=ho.up hle1;replace ha:=ha.up hle1;refine aL 21 [0,0] ?_;refine cF F9 (Ni _ p _ _ _ _ sX sX hcl hol hP) ?_;refine aL 24 [0,0] ?_;refine WF 35 ?_;refine aS 18 [1] ?_;refine iB ?_;all_goals exact ⟨by rw [cD hnI],F9⟩
end
theorem JH {G:A3} {n j:Nat} {x:IV} (hx:C1 G x 1) (hj:j<n):B7 G ((List.replicate n (default:IV)).set j x) (uU n j):=by
 unfold uU;exact (rY G n).set j hx
section
attribute [local irreducible] tA Ng pb pw uY uD p2 yE xK tJ sY uU cst xU
theorem jh (G:A3) (k:Nat) (hk15:k≤15):Does Tryz.prog 156 [.int .i64 (k:Int)] G [] (fun v G' Ho=>∃ (s:Option Addr) (r:List SV) (c':Nat),v=.slice s r.length c'∧Arr G' s r∧C0 G' r (vV k)∧r.length≤c'∧Ho=[]):=by
 refine D0 Tryz.func156 Tryz.ntmps156 fun w=>?_;refine eF 9 (Row 68 ([]:List SV) []) ?_;refine bL 18 [] ?_;refine kE (ι:=Nat×A3×List SV×(Option Addr×Nat×List Value)) (fun (i,Gx,r,(o,d,j))=>([(7,.int .i64 (i:Int)),(3,.slice o r.length d),(6,.int .i64 (↑k:Int)),(2,.slice none 0 0),(0,.int .i64 (↑k:Int))],[(9,o.map (·.block),Row 68 r j)])) (fun (i,Gx,r,(o,d,j))=>Gx) (fun (i,Gx,r,(o,d,j))=>i≤k∧G.le Gx∧r.length=i∧C0 Gx r ((vV k).take i)∧A4 o d r j) (fun (i,Gx,r,(o,d,j))=>k - i) ((0,G,[],(none,0,[]))) (⟨aN _,bN _,F9,by rw [bQ];exact C0.nil _,eG⟩) F9 ⟨F9,F9,F9,F9,F9,H2⟩ ⟨F9,H2⟩ fun ⟨i,Gx,r,(o,d,j)⟩=>fun hk=>?_;obtain ⟨hi1,hi2,hi3,hi4,hi5⟩:=hk;rcases aK i k with hil | hil
 · refine aH 20 [1] ?_;refine gN (α:=IV) 10 F9 T.sl68 T.el125 F9 F9 sW sW fun b1=>?_;refine aL 7 [] ?_;refine bS 11 F9 (RI _ 1 tG) fun v1 G1 Ho1 hle1 hp=>?_;obtain ⟨ro1,rfl,hro1,rfl⟩:=hp;have ho2:A4 (some ⟨b1,0,none⟩) (List.replicate ((k:Int)).toNat (default:IV)).length (List.replicate ((k:Int)).toNat (default:IV)) []:=fP (by rw [aJ];simp only [maxLen];omega);refine aQ (dS (α:=IV) T.sl68 F9 F9 ho2 EN) ?_;refine dJ (α:=IV) (z:=ro1) (m:=(i:Int)) 10 T.size125 F9 F9 F9 ho2 EN F9 fun ho3=>?_;refine fK 10 F9 ho3 fun G3 hle3 hA3=>?_;refine aL 5 [] ?_;refine cC (α:=SV) 11 [⟨_,_,_⟩] F9 T.sl237 T.el68 F9 F9 F9 F9 F9 fun b2=>?_;refine kM (α:=SV) 9 T.sl237 T.el68 (cQ 11 F9) fun a1 c1 junk1 ho1=>?_;refine aS 8 [] ?_;refine cE 7 F9 (show _=Value.int .i64 ((i+1:Nat):Int) from F9) ?_;refine cM ((i+1,_,r++[⟨some ⟨b1,0,none⟩,(List.replicate ((k:Int)).toNat (default:IV)).length,(List.replicate ((k:Int)).toNat (default:IV)).length⟩],(a1,c1,junk1))) ?_ ?_
   · refine ⟨by omega,aO hi2 (aO hle1 hle3),by rw [aB,hi3];rfl,?_,ho1⟩;have e:(vV k).take (i+1)=(vV k).take i++[uU k i]:=by
      rw [cG];congr 1;unfold vV;rw [bK,fB hil];rfl
     rw [e];exact C0.snoc (hi4.up (aO hle1 hle3)) ⟨_,by rw [aG],aI _,hA3,(JH hro1 hil).up hle3⟩
   show k - (i+1)<k - i;omega
 have hie:i=k:=sW;subst hie;have e:(vV i).take i=vV i:=fM (by rw [yF];exact aI _);rw [e] at hi4;refine bG 19 [0] ?_;refine dD 9 F9 hi5 fun G8 hle8 hA8=>?_;refine dA ?_;exact ⟨_,_,_,F9,hA8,hi4.up hle8,hi5.le,F9⟩
end
theorem jl (G:A3) (a:Option Addr) (c:Nat) (l:List R2) (ha:Arr G a l) (hl:l.length≤1048576) :
 Does Tryz.prog 33 [.slice a l.length c] G [] (fun v G' Ho=>∃ s d,v=.slice s l.length d∧Arr G' s l∧l.length≤d∧Ho=[]):=by
 refine D0 Tryz.func33 Tryz.ntmps33 fun w=>?_;by_cases hne:a=none
 · subst hne;have hl0:l=[]:=by
    rcases ha.2 with h0 | ⟨_,_,h,_⟩
    · exact List.length_eq_zero_iff.mp h0
    cases h
   subst hl0;refine eF 0 (Row 52 ([]:List R2) []) ?_;refine aH 9 [] ?_;refine aQ (jT T.sl22 F9 F9) ?_;refine aZ 2 [] ?_;refine dB (fun hc1=>?_) fun hc1=>?_;refine bG 7 [] ?_;rotate_left;refine aH 4 [] ?_;refine rN 1 F9 T.sl22 fun b1=>?_;refine aC 1 [] ?_;rotate_left;refine dA ?_
   · exact ⟨none,0,F9,⟨F9,.inl F9⟩,aI _,F9⟩
   exact absurd F9 hc1
 refine aH 9 [] ?_;refine aQ (jT T.sl22 F9 F9) ?_;refine aL 7 [0] ?_;refine rN 0 F9 T.sl22 fun b1=>?_;refine aC 1 [] ?_;refine oY 0 (Row 52 ([]:List R2) []) F9 F9 ?_;refine cP (α:=R2) (xs:=[]) (ys:=l) (junk:=[]) 0 F9 T.sl22 T.el52 F9 F9 F9 (.inr ⟨b1,F9,F9,aI _,aN _⟩) (lQ ha) (by rw [cH];omega) KU fun a1 c1 junk1 ho1=>?_;rw [gA] at ho1 ⊢;refine aS 4 [] ?_;refine dD 0 F9 ho1 fun G1 hle1 harr1=>?_;refine dA ?_;exact ⟨a1,c1,F9,harr1,ho1.le,F9⟩
instance (l:List R2):Decidable (Bh l):=Classical.propDecidable _
theorem cj (G:A3) (a:Option Addr) (c:Nat) (l:List R2) (ha:Arr G a l) (h1:l.length≤1048576):Does Tryz.prog 104 [.slice a l.length c,.func (.func 105) #[] #[]] G [] (fun v G' Ho=>v=.bool (decide (Bh l))∧G'=G∧Ho=[]):=by
 refine (ie G a c l ha h1).mono fun v G' Ho _ ⟨b,e,h1,h2,h3⟩=>?_;subst e;refine ⟨?_,h2,h3⟩;congr 1;by_cases h:Bh l
 · rw [bT h];exact h1.2 h
 rw [cD h];exact nQ.2 (fun h2=>h (h1.1 h2))
theorem fd (G:A3) (k1 k2:Int) (a:Option Addr) (c:Nat) (l:List R2) (ha:Arr G a l) (hl:l.length≤1048576) (hlc:l.length≤c) :
 Does Tryz.prog 54 [.int .i64 k1,.int .i64 k2,.slice a l.length c] G [] (fun v G' Ho=>∃ pv:Value,v=.tuple #[pv,.int .i64 (tL k1 k2 l)]∧Ho=[]):=by
 refine D0 Tryz.func54 Tryz.ntmps54 fun w=>?_;refine aH 10 [] ?_;refine cF F9 (by apply bn <;> first | assumption | omega | rfl) ?_;refine aQ (fS F9) ?_;refine aC 1 [] ?_;apply dZ 4 16 20 F9;intro hg1;refine aC 3 [] ?_;refine cF F9 (by apply bn <;> first | assumption | omega | rfl) ?_;refine aC 1 [] ?_;refine aQ (fS F9) ?_;refine aC 1 [] ?_;exact dI 4 0;intro hg1;refine aC 4 [] ?_;exact dI 4 0;refine aZ 2 [] ?_;refine dB (fun hc1=>?_) fun hc1=>?_;refine bG 8 [] ?_;rotate_left;refine bL 11 [] ?_;rotate_left
 · refine iB ?_;exact ⟨_,by rw [Di (by unfold vD;omega)],F9⟩
 have hP:vD k1∧vD k2:=by unfold vD;omega
 refine iA (ι:=Nat) (fun j=>([(23,.int .i64 (j:Int)),(0,.int .i64 k1),(1,.int .i64 k2),(2,.slice a l.length c),(22,.int .i64 (l.length:Int)),(21,.slice a (List.length l) c)],[])) (fun j=>j≤l.length∧∀ i:Nat,i<j→near (l[i]?.getD default).a (l[i]?.getD default).b) (fun j=>l.length - j) (0) (⟨aN _,fun i h=>absurd h sW⟩) fun j=>fun hk=>?_;obtain ⟨hj,hno⟩:=hk;refine bL 6 [] ?_;refine dB (fun hc2=>?_) fun hc2=>?_;refine aH 6 [] ?_;refine fV (α:=R2) T.sl22 ?_;refine lP T.agg52 ?_;refine aM 0 F9 T.zero52 fun b1=>?_;refine aL 6 [0,0] ?_;refine cF F9 Ij ?_;refine aQ (fS F9) ?_;refine aZ 2 [] ?_;refine dB (fun hc3=>?_) fun hc3=>?_;refine bG 12 [] ?_;rotate_left;refine bG 7 [] ?_;rotate_left;refine aH 16 [] ?_;apply dZ 3 38 41 F9;intro hg1;refine aC 3 [] ?_;refine cF F9 (cj _ _ _ _ sX sW) ?_;refine aC 1 [] ?_;exact dI 3 0;intro hg1;refine aC 3 [] ?_;exact dI 3 0;refine aZ 2 [] ?_;refine dB (fun hc3=>?_) fun hc3=>?_;refine bG 8 [] ?_;rotate_left;refine aH 5 [] ?_;refine bS 0 F9 (be _ _ _ _ sX sW uI) fun v1 G1 Ho1 hle1 hp=>?_;obtain ⟨ti1,tj1,tb1,rfl,htb1,rfl,rfl⟩:=hp;refine aZ 15 [] ?_;refine lN F9 (fun hc4=>?_) fun hc4=>?_;refine bG 8 [] ?_;rotate_left;refine aH 7 [] ?_;refine bS 0 F9 (jl _ _ _ _ sX sW) fun v2 G2 Ho2 hle2 hp=>?_;obtain ⟨s2,d2,rfl,hs2,hsd2,rfl⟩:=hp;refine aQ (bP (cs:=[_,_,_]) T.st176 F9 F9 F9) ?_;refine eC 0 fun b1=>?_;refine aS 5 [] ?_;rotate_left
 · refine iB ?_;exact ⟨_,by rw [Zk (fun h=>absurd (h j sW) sX)],F9⟩
 · refine cE 23 F9 (show _=Value.int .i64 ((j+1:Nat):Int) from F9) ?_;refine cM (j+1) ?_ ?_
   · refine ⟨by omega,fun i hi=>?_⟩;rcases aK i j with h | h
     · exact hno i h
     have e:i=j:=sW;subst e;exact fT.1 sX
   omega
 · have hA:Es l:=fun i hi=>hno i sW;have e:tL k1 k2 l=71:=hc3.elim (fun h=>Tj hP hA h) (fun h=>Lc hP hA (.inl h));refine iB ?_;exact ⟨_,by rw [e],F9⟩
 · have hA:Es l:=fun i hi=>hno i sW;have e:tL k1 k2 l=71:=Lc hP hA (.inr (htb1.1 sX));refine iB ?_;exact ⟨_,by rw [e],F9⟩
 have hA:Es l:=fun i hi=>hno i sW;have e:tL k1 k2 l=0:=Zl hP hA (eE fun h=>hc3 (.inl h)) (fun h=>h.elim (fun h=>hc3 (.inr h)) (fun h=>absurd (htb1.2 h) (by rw [hc4];decide)));refine iB ?_;exact ⟨_,by rw [e],F9⟩
theorem c87 (G:A3) (a:Option Addr) (c:Nat) (l:List R2) (ha:Arr G a l) (hl:l.length≤1048576) (hR:uG l) :
 Does Tryz.prog 87 [.slice a l.length c] G [] (fun v G' Ho=>v=.bool (decide (1=1))∧G'=G∧Ho=[]):=by
 refine D0 Tryz.func87 Tryz.ntmps87 fun w=>?_;refine bL 14 [] ?_;refine iA (ι:=Nat) (fun j=>([(7,.int .i64 (j:Int)),(6,.int .i64 (l.length:Int)),(5,.slice a (List.length l) c),(0,.slice a (List.length l) c)],[])) (fun j=>j≤l.length) (fun j=>l.length - j) (0) (aN _) fun j=>fun (hk:j≤l.length)=>?_;refine bL 6 [] ?_;refine dB (fun hc1=>?_) fun hc1=>?_;refine aH 6 [] ?_;refine fV (α:=R2) T.sl22 ?_;refine lP T.agg52 ?_;refine aM 0 F9 T.zero52 fun b1=>?_;refine aL 6 [0,0] ?_;refine cF F9 Ij ?_;refine aQ (fS F9) ?_;refine aZ 2 [] ?_;refine dB (fun hc2=>?_) fun hc2=>?_;refine bG 11 [] ?_;rotate_left;refine bG 7 [] ?_;rotate_left;refine aH 11 [] ?_;apply bW 4 18 22 F9;intro hg1;refine aC 7 [] ?_;exact dI 4 0;intro hg1;refine aC 4 [] ?_;exact dI 4 0;refine aS 4 [] ?_;rotate_left
 · exfalso;have h:=(hR.2.2.1 j sW).1;exact absurd h sX
 · refine cE 7 F9 (show _=Value.int .i64 ((j+1:Nat):Int) from F9) ?_;refine cM (j+1) ?_ ?_
   · omega
   omega
 refine dA ?_;have h1:=hR.1;have h2:=hR.2.1;exact ⟨by rw [bT sW,bT rfl],F9,F9⟩
theorem Zt {x y:Int}:uY x y=0↔x=y:=by
 unfold uY;split
 · omega
 split <;> omega
theorem DN {a b:Int} {n:Nat} (h:near a b) (hn:n≤15):Below 2 (yE a b n):=fun z hz=>by
 rw [Wa];exact (Tf h hn).2 z hz
theorem ck (G:A3) (p:PV) (ac ao ga:Option Addr) (cc co gc:Nat) (gl:List SV) (gs:List (List Int)) (m N:Nat) (hc:Arr G ac p.code) (ho:Arr G ao p.outs) (hga:Arr G ga gl) (hgg:C0 G gl gs) (hev:C4 m N gs) (hmm:m≤1048576) (hN:N≤4096) (hR:sY p=true) (hgi:(gl.length:Int)=p.ins) (os:List (List Int)) (hf:tJ p gs=some os) :
 Does Tryz.prog 155 [.agg (I0 p ac cc ao co),.slice ga gl.length gc] G [] (fun v G' Ho=>∃ b r c',v=.tuple #[.slice b (List.length r) c',.int .i64 0,.int .i64 0]∧Arr G' b r∧C0 G' r os∧C4 (m+3*p.code.length) N os∧Ho=[]):=by
 refine (bx G p ac ao ga cc co gc gl gs m N hc ho hga hgg hev hmm hN hR hgi).mono fun v G' Ho _ h=>?_;obtain ⟨h0,⟨os2,b,r,c',h1,h2,h3,h4,h5,h6⟩ | ⟨h1,_⟩⟩:=h
 · rw [hf] at h1;obtain rfl:=kB h1;exact ⟨b,r,c',h2,h3,h5,h6,h0⟩
 rw [hf] at h1;cases h1
section
attribute [local irreducible] tA Ng pb pw uY uD p2 yE xK tJ sY uU cst xU
theorem cl (G:A3) (p:PV) (ac ao a:Option Addr) (cc co c k:Nat) (l:List R2) (hc:Arr G ac p.code) (ho:Arr G ao p.outs) (ha:Arr G a l) (hcl:p.code.length≤16384) (hol:p.outs.length≤1099511627776) (hRL:uG l) (hR:sY p=true) (hk1:1≤k) (hk8:k≤8) :
 Does Tryz.prog 108 [.agg (I0 p ac cc ao co),.int .i64 (k:Int),.slice a l.length c] G [] (fun v G' Ho=>v=.tuple #[.bool (decide (vK p (k:Int) l)),.int .i64 0]∧Ho=[]):=by
 have hl15:l.length≤15:=hRL.2.1;have hnr:∀ i:Nat,i<l.length→near (l[i]?.getD default).a (l[i]?.getD default).b:=fun i hi=>(hRL.2.2.1 i hi).1;refine D0 Tryz.func108 Tryz.ntmps108 fun w=>?_;refine aH 2 [] ?_;refine eC 0 fun b1=>?_;refine aL 10 [] ?_;refine nF 22 ?_;refine aC 6 [] ?_;refine nF 26 ?_;refine aC 3 [] ?_;refine cF F9 (c87 _ _ _ _ sX sW hRL) ?_;refine aC 1 [] ?_;refine aQ (fS F9) ?_;refine aL 9 [0,0] ?_;refine cF F9 (Ni _ p _ _ _ _ sX sX sW hol hR) ?_;refine aL 25 [0,0] ?_;apply dZ 7 43 50 F9;intro hg1;refine aC 13 [0] ?_;exact dI 7 0;intro hg1;refine aC 7 [] ?_;exact dI 7 0;refine aZ 2 [] ?_;refine dB (fun hc1=>?_) fun hc1=>?_;refine bG 8 [] ?_;rotate_left;refine bL 12 [0] ?_;rotate_left
 · refine iB ?_;exact ⟨by rw [cD (fun h=>hc1.elim (fun h2=>h2 h.1) (fun h2=>h2 (by have:=h.2.1;omega)))],F9⟩
 have hI:p.ins=(k:Int):=eE fun h=>hc1 (.inl h);have hO:p.outs.length=l.length:=eE fun h=>hc1 (.inr sW);refine iA (ι:=Nat) (fun j=>([(54,.int .i64 (j:Int)),(1,.int .i64 (k:Int)),(2,.slice a l.length c),(53,.int .i64 (↑p.code.length:Int)),(52,.slice ac p.code.length cc),(9,.int .i64 0),(3,.pointer (some ⟨b1,0,none⟩))],[(0,some b1,.cells (I0 p ac cc ao co) 26)])) (fun j=>j≤p.code.length∧∀ i:Nat,i<j→¬((p.code[i]?.getD default).op=6∨(p.code[i]?.getD default).op=8)) (fun j=>p.code.length - j) (0) (⟨aN _,fun i h=>absurd h sW⟩) fun j=>fun hk=>?_;obtain ⟨hj,hno⟩:=hk;rcases aK j p.code.length with hjl | hjl
 · refine aH 13 [1] ?_;refine fV (α:=Sl.Instr) T.sl23 ?_;refine lP T.agg91 ?_;refine aM 1 F9 T.zero91 fun b2=>?_;refine aL 9 [1,1] ?_;apply dZ 4 61 65 F9;intro hg1;refine aC 7 [1] ?_;exact dI 4 0;intro hg1;refine aC 4 [] ?_;exact dI 4 0;refine aZ 2 [] ?_;refine dB (fun hc2=>?_) fun hc2=>?_;refine bG 12 [] ?_;rotate_left;refine bG 7 [] ?_;rotate_left
   · refine iB ?_;refine ⟨by rw [cD (fun h=>h.2.2.1 (p.code[j]?.getD default) (by rw [aA hjl];exact bZ _) sX)],F9⟩
   refine cE 54 F9 (show _=Value.int .i64 ((j+1:Nat):Int) from F9) ?_;refine cM (j+1) ?_ ?_
   · refine ⟨by omega,fun i hi=>?_⟩;rcases aK i j with h | h
     · exact hno i h
     have e:i=j:=sW;subst e;assumption
   show p.code.length - (j+1)<p.code.length - j;omega
 have hND:xV p:=fun i hi=>by
  obtain ⟨t,ht,rfl⟩:=gF.1 hi;have:=hno t sW;rw [aA ht] at this;exact this
 obtain ⟨os,hf⟩:=Vw hND (vV k);have hosl:os.length=l.length:=by rw [Pj hf,hO]
 have hiff:vK p (k:Int) l↔∀ t:Nat,t<l.length→os[t]?.getD []=yE (l[t]?.getD default).a (l[t]?.getD default).b k:=by
  rw [←NX hosl];unfold vK;rw [aF,hf];exact ⟨fun h=>kB h.2.2.2,fun h=>⟨hI,hO,hND,by rw [h]⟩⟩
 refine bL 13 [0] ?_;refine dK [0] [] T.mixed [[0,0],[1]] ?_;refine bE 2 ?_;refine bS 1 F9 (jh _ k sW) fun v1 G1 Ho1 hle1 hp=>?_;obtain ⟨us1,ur1,uc1,rfl,huA1,huB1,huL1,rfl⟩:=hp;replace hc:=hc.up hle1;replace ho:=ho.up hle1;replace ha:=ha.up hle1;refine cX 3 ?_;refine bS 1 F9 (ck _ p _ _ _ _ _ _ _ (vV k) 2 k sX sX sX sX (Pq (Zj k)) sW sW hR (by rw [huB1.1,yF];omega) os hf) fun v2 G2 Ho2 hle2 hp=>?_;obtain ⟨ob2,or2,oc2,rfl,hoA2,hoB2,hoE2,rfl⟩:=hp;replace huA1:=huA1.up hle2;replace hc:=hc.up hle2;replace ho:=ho.up hle2;replace ha:=ha.up hle2;refine aT ?_;refine dP [[4],[5],[6],[7],[8],[9],[10]] ?_;refine cT ?_;refine lW 20 [0] ?_;have hol2:or2.length=l.length:=by rw [hoB2.1];exact hosl
 refine Wc.lg (ι:=Nat×A3) (fun (i,Gx)=>([(79,.int .i64 (i:Int)),(1,.int .i64 (k:Int)),(2,.slice a l.length c),(78,.int .i64 (l.length:Int)),(77,.slice a (List.length l) c),(12,.slice ob2 (List.length or2) oc2)],[(0,some b1,.cells (I0 p ac cc ao co) 26)])) (fun (i,Gx)=>Gx) (fun (i,Gx)=>i≤l.length∧G2.le Gx∧∀ t:Nat,t<i→os[t]?.getD []=yE (l[t]?.getD default).a (l[t]?.getD default).b k) (fun (i,Gx)=>l.length - i) ((0,G2)) (⟨aN _,bN _,fun t ht=>absurd ht sW⟩) fun ⟨i,Gx⟩=>fun hk=>?_;obtain ⟨hi0,hgx,hall⟩:=hk;replace ha:=ha.up hgx;replace hoA2:=hoA2.up hgx;rcases aK i l.length with hil | hil
 · have hnear:near (l[(i:Int).toNat]?.getD default).a (l[(i:Int).toNat]?.getD default).b:=hnr i hil;refine aH 14 [1] ?_;refine fV (α:=R2) T.sl22 ?_;refine lP T.agg52 ?_;refine aM 1 F9 T.zero52 fun b2=>?_;refine aL 8 [1,1] ?_;refine bS 2 F9 (bj _ _ _ k hnear sW) fun v3 G3 Ho3 hle3 hp=>?_;obtain ⟨ps3,pr3,pc3,rfl,hpA3,hpB3,hpL3,rfl⟩:=hp;replace ha:=ha.up hle3;replace hoA2:=hoA2.up hle3;refine aL 11 [] ?_;refine fV (α:=SV) T.sl237 ?_;refine jG 0 T.one68 ?_;refine aZ 5 [] ?_;obtain ⟨q,hq1,hq2,hq3,hq4⟩:=(hoB2.up (aO hgx hle3)).2 i sW;have hE:=hoE2.at (k:=i) sW;have hql:q.length=k:=hq4.1.trans hE.1;have hP:Below 2 (yE (l[i]?.getD default).a (l[i]?.getD default).b k):=DN (hnr i hil) sW;have hpl:pr3.length=k:=hpB3.1.trans (Jh _ _ _);refine iP 93 F9 (show _=Value.slice (or2[(i:Int).toNat]?.getD default).a q.length (or2[(i:Int).toNat]?.getD default).c by rw [hq1];rfl) ?_;refine iP 94 F9 (show _=Value.int .i64 (q.length:Int) by rw [hq1];rfl) ?_;refine iA (ι:=Nat) (fun j=>([(95,.int .i64 (j:Int)),(93,.slice (or2[(i:Int).toNat]?.getD default).a q.length (or2[(i:Int).toNat]?.getD default).c),(94,.int .i64 (q.length:Int)),(16,.slice ps3 pr3.length pc3),(12,.slice ob2 or2.length oc2),(1,.int .i64 (k:Int)),(2,.slice a l.length c),(77,.slice a l.length c),(78,.int .i64 (l.length:Int)),(79,.int .i64 (i:Int))],[(1,some b2,.cells (List.toArray (A2.enc (Option.getD l[Int.toNat (↑i:Int)]? default))) 52),(0,some b1,.cells (I0 p ac cc ao co) 26)])) (fun j=>j≤k∧∀ t:Nat,t<j→(os[i]?.getD [])[t]?.getD 0=(yE (l[i]?.getD default).a (l[i]?.getD default).b k)[t]?.getD 0) (fun j=>k - j) (0) (⟨aN _,fun i h=>absurd h sW⟩) fun j=>fun hk=>?_;obtain ⟨hj9,hjj⟩:=hk;rcases aK j k with hjk | hjk
   · have hx:=hq4.at (k:=(j:Int)) sW;have hy:=hpB3.at (k:=(j:Int)) sW;have hxn:=jQ hx (hE.2.at _);have hyn:=jQ hy (hP.at _);refine aH 14 [1] ?_;refine fV (α:=IV) T.sl68 ?_;refine lP T.agg125 ?_;refine aM 2 F9 T.zero125 fun b3=>?_;refine aZ 5 [2] ?_;refine dK [0,1,2] [] T.mixed [[0,2],[1],[2]] ?_;refine mT (α:=IV) 3 T.sl68 ?_;refine rT 4 T.agg125 ?_;refine bE 5 ?_;refine cF F9 (an _ _ _ _ _ hx hy sW sW) ?_;refine aT ?_;refine dP [[6]] ?_;refine cT ?_;refine cN ?_;refine dB (fun hc2=>?_) fun hc2=>?_;refine bG 16 [] ?_;rotate_left;refine bG 7 [] ?_;rotate_left
     · refine iB ?_;have hne:¬((os[i]?.getD [])[j]?.getD 0=(yE (l[i]?.getD default).a (l[i]?.getD default).b k)[j]?.getD 0):=fun h=>absurd (Zt.2 h) sX;exact ⟨by rw [cD (fun h=>hne (by rw [hiff.1 h i hil]))],F9⟩
     refine cE 95 F9 (show _=Value.int .i64 ((j+1:Nat):Int) from F9) ?_;refine cM (j+1) ?_ ?_
     · refine ⟨by omega,fun t ht=>?_⟩;rcases aK t j with h | h
       · exact hjj t h
       have e:t=j:=sW;subst e;exact Zt.1 (fT.1 sX)
     show k - (j+1)<k - j;omega
   have hjk:j=k:=sW;subst hjk;refine bG 17 [0] ?_;refine cE 79 F9 (show _=Value.int .i64 ((i+1:Nat):Int) from F9) ?_;refine cM ((i+1,G3)) ?_ ?_
   · refine ⟨by omega,aO hgx hle3,fun t ht=>?_⟩;rcases aK t i with h | h
     · exact hall t h
     have e:t=i:=sW;subst e;exact (TN hE.1 (Jh _ _ _)).2 hjj
   show l.length - (i+1)<l.length - i;omega
 refine bG 19 [0] ?_;refine iB ?_;exact ⟨by rw [bT (hiff.2 (fun t ht=>hall t sW))],F9⟩
end
theorem YD {k1 k2:Int} {l:List R2} {x y z:PV} (h:¬tL k1 k2 l=0):tW k1 k2 l x y z=(0,tL k1 k2 l):=by unfold tW;rw [aE h]
theorem TS {k1 k2:Int} {l:List R2} {x y z:PV} (h:tL k1 k2 l=0) (h1:¬sY x=true):tW k1 k2 l x y z=(1,80):=by
 unfold tW;rw [aD (fun h0=>h0 h),aE h1]
theorem TT {k1 k2:Int} {l:List R2} {x y z:PV} (h:tL k1 k2 l=0) (h1:sY x=true) (h2:¬vK x k1 l):tW k1 k2 l x y z=(1,180):=by
 unfold tW;rw [aD (fun h0=>h0 h),aD (fun h0=>h0 h1),aE h2]
theorem TU {k1 k2:Int} {l:List R2} {x y z:PV} (h:tL k1 k2 l=0) (h1:sY x=true) (h2:vK x k1 l) (h3:¬sY y=true):tW k1 k2 l x y z=(2,80):=by
 unfold tW;rw [aD (fun h0=>h0 h),aD (fun h0=>h0 h1),aD (fun h0=>h0 h2),aE h3]
theorem TV {k1 k2:Int} {l:List R2} {x y z:PV} (h:tL k1 k2 l=0) (h1:sY x=true) (h2:vK x k1 l) (h3:sY y=true) (h4:¬vK y k2 l):tW k1 k2 l x y z=(2,180):=by
 unfold tW;rw [aD (fun h0=>h0 h),aD (fun h0=>h0 h1),aD (fun h0=>h0 h2),aD (fun h0=>h0 h3),aE h4]
theorem TW {k1 k2:Int} {l:List R2} {x y z:PV} (h:tL k1 k2 l=0) (h1:sY x=true) (h2:vK x k1 l) (h3:sY y=true) (h4:vK y k2 l) (h5:¬sY z=true):tW k1 k2 l x y z=(3,80):=by
 unfold tW;rw [aD (fun h0=>h0 h),aD (fun h0=>h0 h1),aD (fun h0=>h0 h2),aD (fun h0=>h0 h3),aD (fun h0=>h0 h4),aE h5]
theorem TX {k1 k2:Int} {l:List R2} {x y z:PV} (h:tL k1 k2 l=0) (h1:sY x=true) (h2:vK x k1 l) (h3:sY y=true) (h4:vK y k2 l) (h5:sY z=true) (h6:¬uP z l):tW k1 k2 l x y z=(3,180):=by
 unfold tW;rw [aD (fun h0=>h0 h),aD (fun h0=>h0 h1),aD (fun h0=>h0 h2),aD (fun h0=>h0 h3),aD (fun h0=>h0 h4),aD (fun h0=>h0 h5),aE h6]
theorem Jm {k1 k2:Int} {l:List R2} {x y z:PV} (h:tL k1 k2 l=0) (h1:sY x=true) (h2:vK x k1 l) (h3:sY y=true) (h4:vK y k2 l) (h5:sY z=true) (h6:uP z l):tW k1 k2 l x y z=(0,0):=by
 unfold tW;rw [aD (fun h0=>h0 h),aD (fun h0=>h0 h1),aD (fun h0=>h0 h2),aD (fun h0=>h0 h3),aD (fun h0=>h0 h4),aD (fun h0=>h0 h5),aD (fun h0=>h0 h6)]
section
attribute [local irreducible] vK uP tL sY uG
end
end Go.Proofs.YtkdelpdbjfpgmaaGreatDoor
end
