/- cK of the proof (part 6): what the rows' text needs of the texts that lead to it. -/
import Derived.Test.YtfdcckcadfhpeaaGreatDoorMAe
set_option linter.unusedVariables false
set_option linter.unusedSimpArgs false
set_option linter.unusedSectionVars false
set_option maxHeartbeats 4000000
noncomputable section
set_option maxRecDepth 100000
namespace Go.Proofs.YtfdcckcadfhpeaaGreatDoor
open Go Go.Sl
structure PH where
 ins:Int
 regs:Int
 ac:Option Addr
 cn:Nat
 cc:Nat
 ao:Option Addr
 on:Nat
 oc:Nat
instance:Inhabited PH:=⟨⟨0,0,none,0,0,none,0,0⟩⟩
instance:Cells PH:=⟨4,fun x=>[.int .i64 x.ins,.int .i64 x.regs,.slice x.ac x.cn x.cc,.slice x.ao x.on x.oc],fun _=>rfl,fun _=>rfl⟩
def pY (pn:Nat) (l:List PH):Bool:=l.any (fun p=>decide (80<p.regs)) || decide (600<(l.map (·.cn)).sum) || decide (40<pn)
theorem aMR {pn:Nat} {l:List PH} {k:Nat} (hk:k<l.length) (h:80<(l[k]?.getD default).regs):pY pn l=true:=by
 have h2:l.any (fun p=>decide (80<p.regs))=true:=by
  rw [List.any_eq_true]
  rw [List.getElem?_eq_getElem hk,Option.getD_some] at h
  exact ⟨l[k],List.getElem_mem hk,decide_eq_true h⟩
 unfold pY
 rw [h2]
 rfl
theorem aQG {pn:Nat} {l:List PH} (h:∀ p∈l,¬80<p.regs):pY pn l=decide (600<(((l.map (·.cn)).sum:Nat):Int)∨40<(pn:Int)):=by
 have h2:l.any (fun p=>decide (80<p.regs))=false:=by
  rw [List.any_eq_false]
  intro p hp
  simpa using h p hp
 unfold pY
 rw [h2,Bool.false_or]
 rw [Bool.eq_iff_iff]
 simp only [Bool.or_eq_true,decide_eq_true_eq]
 omega
theorem aMS (x y z:PH) {C:Nat} (hx:x.cn≤C) (hy:y.cn≤C) (hz:z.cn≤C) (k:Nat):(([x,y,z]:List PH)[k]?.getD default).cn≤C:=by
 match k with
 | 0=>exact hx
 | 1=>exact hy
 | 2=>exact hz
 | k+3=>exact Nat.zero_le _
theorem aIO (x y z:PH) {C:Nat} (hx:x.cn≤C) (hy:y.cn≤C) (hz:z.cn≤C) (k:Nat) (hk:k≤3):((([x,y,z]:List PH).take k).map (·.cn)).sum≤3*C:=by
 match k,hk with
 | 0,_=>exact Nat.zero_le _
 | 1,_=>show x.cn+0≤3*C;omega
 | 2,_=>show x.cn+(y.cn+0)≤3*C;omega
 | 3,_=>show x.cn+(y.cn+(z.cn+0))≤3*C;omega
theorem aEF (x y z:PH) (k:Nat) (hk:k<3):((([x,y,z]:List PH).take (k+1)).map (·.cn)).sum=((([x,y,z]:List PH).take k).map (·.cn)).sum+(([x,y,z]:List PH)[k]?.getD default).cn:=by
 match k,hk with
 | 0,_=>show x.cn+0=0+x.cn;omega
 | 1,_=>show x.cn+(y.cn+0)=x.cn+0+y.cn;omega
 | 2,_=>show x.cn+(y.cn+(z.cn+0))=x.cn+(y.cn+0)+z.cn;omega
theorem aIP (x y z:PH) {q:PH→Prop} (k:Nat) (hk:k<3) (h:∀ p∈([x,y,z]:List PH).take k,q p) (h1:q (([x,y,z]:List PH)[k]?.getD default)):∀ p∈([x,y,z]:List PH).take (k+1),q p:=by
 intro p hp
 rw [List.take_add_one,List.mem_append] at hp
 rcases hp with hp | hp
 · exact h p hp
 have hk':k<([x,y,z]:List PH).length:=hk
 rw [List.getElem?_eq_getElem hk'] at hp h1
 have e:p=([x,y,z]:List PH)[k]:=by simpa using hp
 rw [e];exact h1
theorem c11 (G:Imm) (k1 k2:Int) (pa:Option Addr) (pn pc:Nat) (x y z:PH) (hx:x.cn≤1099511627776) (hy:y.cn≤1099511627776) (hz:z.cn≤1099511627776) :
 Does Tryz.prog 11 [.agg #[.int .i64 k1,.int .i64 k2,.slice pa pn pc,.int .i64 x.ins,.int .i64 x.regs,.slice x.ac x.cn x.cc,.slice x.ao x.on x.oc,.int .i64 y.ins,.int .i64 y.regs,.slice y.ac y.cn y.cc,.slice y.ao y.on y.oc,.int .i64 z.ins,.int .i64 z.regs,.slice z.ac z.cn z.cc,.slice z.ao z.on z.oc]] G [] (fun v G' Ho=>v=.bool (pY pn [x,y,z])∧G'=G∧Ho=[]):=by
 refine D0 Tryz.func11 Tryz.ntmps11 fun w=>?_
 refine Wc.gl 2 [] ?_
 refine Wl.x 0 fun b1=>?_
 refine Wl.gl 12 [] ?_
 refine Wl.p (bC 0 T.agg26 rfl rfl rfl rfl) ?_
 refine aA 1 [] ?_
 refine Wl.p (bC 0 T.agg26 rfl rfl rfl rfl) ?_
 refine aA 1 [] ?_
 refine Wl.p (bC 0 T.agg26 rfl rfl rfl rfl) ?_
 refine Wl.lit (α:=PH) 1 [⟨_,_,_,_,_,_,_,_⟩,⟨_,_,_,_,_,_,_,_⟩,⟨_,_,_,_,_,_,_,_⟩] rfl T.sl74 T.el26 rfl rfl rfl rfl rfl fun b2=>?_
 refine Wl.gc 5 [] ?_
 refine Wc.lp (ι:=Nat×Nat) (fun (k,n)=>([(14,.int .i64 (k:Int)),(3,.int .i64 (n:Int)),(13,.int .i64 (↑(List.length [PH.mk (PH.ins x) (PH.regs x) (PH.ac x) (PH.cn x) (PH.cc x) (PH.ao x) (PH.on x) (PH.oc x),PH.mk (PH.ins y) (PH.regs y) (PH.ac y) (PH.cn y) (PH.cc y) (PH.ao y) (PH.on y) (PH.oc y),PH.mk (PH.ins z) (PH.regs z) (PH.ac z) (PH.cn z) (PH.cc z) (PH.ao z) (PH.on z) (PH.oc z)]):Int)),(12,.slice (some (Addr.mk b2 0 none)) (List.length [PH.mk (PH.ins x) (PH.regs x) (PH.ac x) (PH.cn x) (PH.cc x) (PH.ao x) (PH.on x) (PH.oc x),PH.mk (PH.ins y) (PH.regs y) (PH.ac y) (PH.cn y) (PH.cc y) (PH.ao y) (PH.on y) (PH.oc y),PH.mk (PH.ins z) (PH.regs z) (PH.ac z) (PH.cn z) (PH.cc z) (PH.ao z) (PH.on z) (PH.oc z)]) 3),(1,.pointer (some ⟨b1,0,none⟩))],[(1,some b2,Row (α:=PH) 26 ([PH.mk (PH.ins x) (PH.regs x) (PH.ac x) (PH.cn x) (PH.cc x) (PH.ao x) (PH.on x) (PH.oc x),PH.mk (PH.ins y) (PH.regs y) (PH.ac y) (PH.cn y) (PH.cc y) (PH.ao y) (PH.on y) (PH.oc y),PH.mk (PH.ins z) (PH.regs z) (PH.ac z) (PH.cn z) (PH.cc z) (PH.ao z) (PH.on z) (PH.oc z)]) ([])),(0,some b1,.cells #[.int .i64 k1,.int .i64 k2,.slice pa pn pc,.int .i64 (PH.ins x),.int .i64 (PH.regs x),.slice (PH.ac x) (PH.cn x) (PH.cc x),.slice (PH.ao x) (PH.on x) (PH.oc x),.int .i64 (PH.ins y),.int .i64 (PH.regs y),.slice (PH.ac y) (PH.cn y) (PH.cc y),.slice (PH.ao y) (PH.on y) (PH.oc y),.int .i64 (PH.ins z),.int .i64 (PH.regs z),.slice (PH.ac z) (PH.cn z) (PH.cc z),.slice (PH.ao z) (PH.on z) (PH.oc z)] 28)])) (fun (k,n)=>k≤3∧n=((([x,y,z]:List PH).take k).map (·.cn)).sum∧∀ p∈([x,y,z]:List PH).take k,¬80<p.regs) (fun (k,n)=>3 - k) ((0,0)) (⟨Nat.zero_le _,rfl,fun p h=>absurd h (by simp)⟩) fun ⟨k,n⟩=>fun hk=>?_
 obtain ⟨hk3,hn,hno⟩:=hk
 refine Wc.gc 6 [] ?_
 refine Wc.i (fun hc1=>?_) fun hc1=>?_
 refine Wc.gl 6 [] ?_
 refine Wl.p (Qy.indexAddr T.sl74 rfl rfl (by omega)) ?_
 rotate_left
 refine Wc.gl 10 [] ?_
 apply aG 5 29 34 rfl
 intro hg1
 refine aA 9 [0] ?_
 exact Wl.b 5 0
 intro hg1
 refine aA 5 [] ?_
 exact Wl.b 5 0
 refine Wl.ga 4 [] ?_
 refine Ar.e1 ?_
 rotate_left
 · have hk2:k<3:=by
    have h:(k:Int)<3:=hc1
    omega
   have hcn:=aMS x y z hx hy hz ((k:Nat):Int).toNat
   have hs3:n≤3*1099511627776:=by rw [hn];exact aIO x y z hx hy hz k hk3
   refine Wl.p (xH (α:=PH) (xs:=[x,y,z]) (junk:=[]) 1 T.agg26 rfl rfl (show 0≤(k:Int)∧(k:Int)<(([x,y,z]:List PH).length:Int) from ⟨by omega,hc1⟩)) ?_
   refine Wl.alloc 2 rfl T.zero26 fun b3=>?_
   refine Wl.gc 20 [2,2,2] ?_
   refine Wc.i (fun hc2=>?_) fun hc2=>?_
   refine Wc.ga 11 [] ?_
   refine Ar.e1 ?_
   rotate_left
   refine Wc.ga 7 [] ?_
   rotate_left
   · exact ⟨congrArg Value.bool (aMR (l:=[x,y,z]) (k:=k) hk2 hc2).symm,rfl,rfl⟩
   refine Ar.re 14 rfl (show _=Value.int .i64 ((k+1:Nat):Int) from rfl) ?_
   refine Ar.re 3 rfl (show _=Value.int .i64 ((n+([x,y,z][((k:Nat):Int).toNat]?.getD default).cn:Nat):Int) from rfl) ?_
   refine aH ((k+1,n+([x,y,z][((k:Nat):Int).toNat]?.getD default).cn)) ?_ ?_
   · exact ⟨hk2,by rw [hn];exact (aEF x y z k hk2).symm,aIP x y z (q:=fun p=>¬80<p.regs) k hk2 hno hc2⟩
   show 3 - (k+1)<3 - k
   omega
 have hk2:k=3:=by
  have h:¬(k:Int)<3:=hc1
  omega
 subst hk2
 rw [show pY pn [x,y,z]=_ from aQG (pn:=pn) (l:=[x,y,z]) hno,hn]
 exact ⟨rfl,rfl,rfl⟩
def PHof (G:Imm) (p:PV) (h:PH):Prop:=h.ins=p.ins∧h.regs=p.regs∧h.cn=p.code.length∧h.on=p.outs.length∧Arr G h.ac p.code∧Arr G h.ao p.outs
theorem PHof.up {G G':Imm} {p:PV} {h:PH} (hh:PHof G p h) (hle:G.le G'):PHof G' p h:=⟨hh.1,hh.2.1,hh.2.2.1,hh.2.2.2.1,hh.2.2.2.2.1.le hle,hh.2.2.2.2.2.le hle⟩
def dE (k:Nat):List (List Int):=(List.range k).map (cY k)
theorem jN (k:Nat):(dE k).length=k:=by unfold dE;rw [List.length_map,List.length_range]
theorem aIQ (k j:Nat):(cY k j).length=k:=by unfold cY;rw [List.length_set,List.length_replicate]
theorem mW (k:Nat):Even 4 k (dE k):=fun zs hz=>by
 unfold dE at hz
 obtain ⟨j,hj,rfl⟩:=List.mem_map.1 hz
 exact ⟨aIQ k j,oN k j 4 (by omega)⟩
def xU (p:PV):Prop:=∀ i∈p.code,¬(i.op=6∨i.op=8)
instance (p:PV):Decidable (xU p):=inferInstanceAs (Decidable (∀ i∈p.code,_))
theorem aMT {i:Sl.Instr} (rs:List (List Int)) (h:¬(i.op=6∨i.op=8)):∃ x,doI i rs=some x:=by
 unfold doI
 by_cases h1:i.op=2
 · exact ⟨_,if_pos h1⟩
 by_cases h2:i.op=3
 · exact ⟨_,by simp only [h1,if_false];rw [if_pos h2]⟩
 by_cases h3:i.op=4
 · exact ⟨_,by simp only [h1,h2,if_false];rw [if_pos h3]⟩
 by_cases h4:i.op=5∨i.op=7
 · exact ⟨_,by simp only [h1,h2,h3,if_false];rw [if_pos h4]⟩
 exact ⟨_,by simp only [h1,h2,h3,h4,h,if_false];rfl⟩
theorem uR {p:PV} (h:xU p) (gs:List (List Int)):∀ k:Nat,k≤p.code.length→∃ rs,iJ p gs k=some rs
 | 0,_=>⟨_,rfl⟩
 | k+1,hk=>by
   obtain ⟨rs,h1⟩:=uR h gs k (by omega)
   have hm:p.code[((k:Nat):Int).toNat]?.getD default∈p.code:=by
    rw [Int.toNat_natCast,List.getElem?_eq_getElem (by omega)];exact List.getElem_mem _
   obtain ⟨x,h2⟩:=aMT rs (h _ hm)
   exact ⟨_,oI (x:=rs) h1 h2⟩
theorem pZ {p:PV} (h:xU p) (gs:List (List Int)):∃ os,bP p gs=some os:=by
 obtain ⟨rs,h1⟩:=uR h gs _ (Nat.le_refl _)
 exact ⟨_,by unfold bP;rw [h1];rfl⟩
def eB (p:PV) (k:Int) (l:List R2):Prop:=p.ins=k∧p.outs.length=l.length∧xU p∧bP p (dE k.toNat)=some (l.map fun q=>dQ q.a q.b k.toNat)
instance (p:PV) (k:Int) (l:List R2):Decidable (eB p k l):=inferInstanceAs (Decidable (_∧_))
theorem aCC {os:List (List Int)} {l:List R2} {k:Nat} (hl:os.length=l.length):(os=l.map fun q=>dQ q.a q.b k)↔∀ t:Nat,t<l.length→os[t]?.getD []=dQ (l[t]?.getD default).a (l[t]?.getD default).b k:=by
 constructor
 · intro h t ht
   rw [h,List.getElem?_map,List.getElem?_eq_getElem ht];rfl
 intro h
 refine List.ext_getElem? fun i=>?_
 rcases Nat.lt_or_ge i l.length with h1 | h1
 · have:=h i h1
   rw [List.getElem?_eq_getElem (by omega),Option.getD_some] at this
   rw [List.getElem?_eq_getElem (by omega),List.getElem?_map,this,List.getElem?_eq_getElem h1];rfl
 rw [List.getElem?_eq_none (by omega),List.getElem?_eq_none (by rw [List.length_map];omega)]
theorem aGE {xs ys:List Int} {k:Nat} (h1:xs.length=k) (h2:ys.length=k):xs=ys↔∀ t:Nat,t<k→xs[t]?.getD 0=ys[t]?.getD 0:=by
 constructor
 · intro h t _;rw [h]
 intro h
 refine List.ext_getElem? fun i=>?_
 rcases Nat.lt_or_ge i k with h3 | h3
 · have:=h i h3
   rw [List.getElem?_eq_getElem (by omega),List.getElem?_eq_getElem (by omega)] at this ⊢
   exact congrArg some this
 rw [List.getElem?_eq_none (by omega),List.getElem?_eq_none (by omega)]
theorem qA (a b:Int) (k:Nat):(dQ a b k).length=k:=by unfold dQ;rw [List.length_map,List.length_range]
def cK (k:Int):Prop:=1≤k∧k≤8
instance (k:Int):Decidable (cK k):=inferInstanceAs (Decidable (_∧_))
def mX (l:List R2):Prop:=∀ i:Nat,i<l.length→cD (l[i]?.getD default).a (l[i]?.getD default).b
def jO (l:List R2):Prop:=∃ i:Nat,i<l.length∧((l[i]?.getD default).a=0∧(l[i]?.getD default).b=0)
open Classical in
def cA (k1 k2:Int) (l:List R2):Int:=
 if ¬(cK k1∧cK k2) then 70 else if ¬mX l then 70 else if ¬((l.length:Int)=k1+k2 - 1) then 71 else if jO l∨Twin l then 71 else 0
theorem lV {k1 k2:Int} {l:List R2} (h:¬(cK k1∧cK k2)):cA k1 k2 l=70:=by unfold cA;rw [if_pos h]
theorem uS {k1 k2:Int} {l:List R2} (h:¬mX l):cA k1 k2 l=70:=by
 unfold cA
 by_cases h1:¬(cK k1∧cK k2)
 · rw [if_pos h1]
 rw [if_neg h1,if_pos h]
theorem rP {k1 k2:Int} {l:List R2} (h1:cK k1∧cK k2) (h2:mX l) (h:¬((l.length:Int)=k1+k2 - 1)):cA k1 k2 l=71:=by
 unfold cA;rw [if_neg (fun h=>h h1),if_neg (fun h=>h h2),if_pos h]
theorem kQ {k1 k2:Int} {l:List R2} (h1:cK k1∧cK k2) (h2:mX l) (h:jO l∨Twin l):cA k1 k2 l=71:=by
 unfold cA;rw [if_neg (fun h=>h h1),if_neg (fun h=>h h2)]
 by_cases h3:¬((l.length:Int)=k1+k2 - 1)
 · rw [if_pos h3]
 rw [if_neg h3,if_pos h]
theorem aCD {k1 k2:Int} {l:List R2} (h1:cK k1∧cK k2) (h2:mX l) (h3:(l.length:Int)=k1+k2 - 1) (h:¬(jO l∨Twin l)):cA k1 k2 l=0:=by
 unfold cA;rw [if_neg (fun h=>h h1),if_neg (fun h=>h h2),if_neg (fun h=>h h3),if_neg h]
theorem sL {k1 k2:Int} {l:List R2} (h:cA k1 k2 l=0):cK k1∧cK k2∧(l.length:Int)=k1+k2 - 1∧fC l:=by
 by_cases h1:cK k1∧cK k2
 · by_cases h2:mX l
   · by_cases h3:(l.length:Int)=k1+k2 - 1
     · by_cases h4:jO l∨Twin l
       · rw [kQ h1 h2 h4] at h;omega
       refine ⟨h1.1,h1.2,h3,?_,?_,fun i hi=>⟨h2 i hi,fun h5=>h4 (.inl ⟨i,hi,h5⟩)⟩,fun h5=>h4 (.inr h5)⟩
       · have:=h1.1.1;have:=h1.2.1;omega
       have:=h1.1.2;have:=h1.2.2;omega
     rw [rP h1 h2 h3] at h;omega
   rw [uS h2] at h;omega
 rw [lV h1] at h;omega
open Classical in
def cX (k1 k2:Int) (l:List R2) (x y z:PV):Int×Int:=
 if ¬cA k1 k2 l=0 then (0,cA k1 k2 l)
 else if ¬aP x=true then (1,80) else if ¬eB x k1 l then (1,180)
 else if ¬aP y=true then (2,80) else if ¬eB y k2 l then (2,180)
 else if ¬aP z=true then (3,80) else if ¬dF z l then (3,180) else (0,0)
structure U8 where
 v:Int
 deriving DecidableEq
instance:Inhabited U8:=⟨⟨0⟩⟩
instance:Cells U8:=⟨1,fun n=>[.int .u8 n.v],fun _=>rfl,fun _=>rfl⟩
structure RS where
 k:Nat
 wr:Bool
def Bytes (B:List U8):Prop:=∀ i:Nat,i<B.length→0≤(B[i]?.getD default).v∧(B[i]?.getD default).v≤255
def nx (B:List U8) (s:RS) (g:Int→Bool):Int×RS:=
 if s.wr=true∨s.k=B.length∨g (B[s.k]?.getD default).v=false then (0,⟨s.k,true⟩) else ((B[s.k]?.getD default).v,⟨s.k+1,false⟩)
theorem qB {B:List U8} {s:RS} {g:Int→Bool} (h:s.wr=true):nx B s g=(0,⟨s.k,true⟩):=by unfold nx;rw [if_pos (.inl h)]
theorem zG {B:List U8} {s:RS} {g:Int→Bool} (h:s.k=B.length):nx B s g=(0,⟨s.k,true⟩):=by unfold nx;rw [if_pos (.inr (.inl h))]
theorem aEG {B:List U8} {s:RS} {g:Int→Bool} (h:g (B[s.k]?.getD default).v=false):nx B s g=(0,⟨s.k,true⟩):=by unfold nx;rw [if_pos (.inr (.inr h))]
theorem aRH {B:List U8} {s:RS} {g:Int→Bool} (h1:s.wr=false) (h2:s.k≠B.length) (h3:g (B[s.k]?.getD default).v=true):nx B s g=((B[s.k]?.getD default).v,⟨s.k+1,false⟩):=by
 unfold nx;rw [if_neg]
 rintro (h | h | h)
 · rw [h1] at h;cases h
 · exact h2 h
 rw [h3] at h;cases h
theorem qC {B:List U8} {s:RS} {g:Int→Bool} (h:s.k≤B.length):(nx B s g).2.k≤B.length:=by
 unfold nx
 by_cases hc:s.wr=true∨s.k=B.length∨g (B[s.k]?.getD default).v=false
 · rw [if_pos hc];exact h
 rw [if_neg hc]
 have:s.k≠B.length:=fun h=>hc (.inr (.inl h))
 show s.k+1≤_;omega
theorem rQ {B:List U8} {s:RS} {g:Int→Bool} (hB:Bytes B) (h:s.k≤B.length):0≤(nx B s g).1∧(nx B s g).1≤255:=by
 unfold nx
 by_cases hc:s.wr=true∨s.k=B.length∨g (B[s.k]?.getD default).v=false
 · rw [if_pos hc];show (0:Int)≤0∧(0:Int)≤255;omega
 rw [if_neg hc]
 have:s.k≠B.length:=fun h=>hc (.inr (.inl h))
 exact hB s.k (by omega)
theorem aGF {B:List U8} {s:RS} {g:Int→Bool} (h:(nx B s g).2.wr=false):s.wr=false∧s.k≠B.length∧g (B[s.k]?.getD default).v=true∧nx B s g=((B[s.k]?.getD default).v,⟨s.k+1,false⟩):=by
 unfold nx at h ⊢
 by_cases hc:s.wr=true∨s.k=B.length∨g (B[s.k]?.getD default).v=false
 · rw [if_pos hc] at h;cases h
 refine ⟨Bool.eq_false_iff.2 fun h=>hc (.inl h),fun h=>hc (.inr (.inl h)),?_,if_neg hc⟩
 cases hg:g (B[s.k]?.getD default).v with
 | true=>rfl
 | false=>exact absurd (.inr (.inr hg)) hc
theorem iK {B:List U8} {s:RS} {g g':Int→Bool} (h:s.k<B.length→g (B[s.k]?.getD default).v=g' (B[s.k]?.getD default).v) (hk:s.k≤B.length):nx B s g=nx B s g':=by
 by_cases h1:s.k=B.length
 · rw [zG h1,zG h1]
 unfold nx
 rw [h (by omega)]
def wi (B:List U8) (s:RS) (lo hi:Int):Int×RS:=nx B s (fun x=>decide (lo≤x∧x≤hi))
def sg (B:List U8) (s:RS):Int×RS:=
 match nx B s (fun x=>decide (x≤16∨240≤x)) with
 | (x,t)=>(if 128≤x then x - 256 else x,t)
def fJ (op c:Int):Bool:=
 if op=5∨op=6 then decide ((c≠0∧-512≤c)∧c≤512) else if op=7∨op=8 then decide (1≤c∧c≤64) else decide (c=0)
def i16 (h l:Int):Int:=if 32768≤h*256+l then h*256+l - 65536 else h*256+l
def hiC (op h:Int):Bool:=(List.range 256).any fun l=>fJ op (i16 h (l:Int))
def oO (B:List U8) (s:RS) (op:Int):Int×RS:=
 match nx B s (hiC op) with
 | (h,t)=>match nx B t (fun l=>fJ op (i16 h l)) with
   | (l,t')=>(i16 h l,t')
def zH (B:List U8) (s:RS) (regs:Int):Sl.Instr×RS:=
 match wi B s 1 8 with
 | (op,t1)=>match wi B t1 0 (regs - 1) with
   | (to,t2)=>match wi B t2 0 (regs - 1) with
     | (a,t3)=>match (if op=3∨op=4 then wi B t3 0 (regs - 1) else ((0:Int),(wi B t3 0 0).2)) with
       | (b,t4)=>match oO B t4 op with
         | (c,t5)=>(⟨op,to,a,b,c⟩,t5)
def eO (B:List U8) (regs:Int):Nat→RS→List Sl.Instr→List Sl.Instr×RS
 | 0,s,acc=>(acc,s)
 | n+1,s,acc=>match zH B s regs with
   | (i,t)=>if t.wr=true then (acc,t) else eO B regs n t (acc++[i])
def fZ (B:List U8) (regs:Int):Nat→RS→List Int→List Int×RS
 | 0,s,acc=>(acc,s)
 | n+1,s,acc=>match wi B s 0 (regs - 1) with
   | (x,t)=>fZ B regs n t (acc++[x])
def cZ (B:List U8) (s:RS):PV×RS:=
 match wi B s 1 128 with
 | (ins,t1)=>match wi B t1 ins 128 with
   | (regs,t2)=>match nx B t2 (fun x=>decide (x*256≤16384)) with
     | (h,t3)=>match nx B t3 (fun x=>decide (h*256+x≤16384)) with
       | (l,t4)=>match eO B regs (h*256+l).toNat t4 [] with
         | (code,t5)=>match wi B t5 1 128 with
           | (n,t6)=>match fZ B regs n.toNat t6 [] with
             | (outs,t7)=>(⟨ins,regs,code,outs⟩,t7)
def kR (B:List U8):Nat→RS→List R2→List R2×RS
 | 0,s,acc=>(acc,s)
 | n+1,s,acc=>match sg B s with
   | (a,t)=>match sg B t with
     | (b,t')=>kR B n t' (acc++[⟨a,b⟩])
def eU (B:List U8):Nat→Int
 | 0=>0
 | k+1=>(eU B k+((k:Int)+1)*(B[k]?.getD default).v) % 65521
structure UV where
 k1:Int
 k2:Int
 pl:List R2
 x:PV
 y:PV
 z:PV
def nZ:Nat→Int
 | 0=>65
 | 1=>78
 | 2=>86
 | _=>49
def oA (B:List U8):Nat→RS
 | 0=>⟨0,false⟩
 | i+1=>(wi B (oA B i) (nZ i) (nZ i)).2
def wY (B:List U8) (s:RS):RS:=
 if s.wr=true then s else (wi B (wi B s (eU B s.k / 256) (eU B s.k / 256)).2 (eU B s.k % 256) (eU B s.k % 256)).2
def dS (B:List U8):UV×RS:=
 match wi B (oA B 4) 1 8 with
 | (k1,a5)=>match wi B a5 1 8 with
   | (k2,a6)=>match wi B a6 0 255 with
     | (n,a7)=>match kR B n.toNat a7 [] with
       | (pl,a8)=>match cZ B a8 with
         | (x,a9)=>match cZ B a9 with
           | (y,a10)=>match cZ B a10 with
             | (z,a11)=>(⟨k1,k2,pl,x,y,z⟩,wY B a11)
theorem wi_k {B:List U8} {s:RS} {lo hi:Int} (h:s.k≤B.length):(wi B s lo hi).2.k≤B.length:=qC h
theorem aMU {B:List U8} {s:RS} {lo hi:Int} (h:s.wr=true):wi B s lo hi=(0,⟨s.k,true⟩):=qB h
theorem aMV {B:List U8} {s:RS} {lo hi:Int} (hB:Bytes B) (h:s.k≤B.length):0≤(wi B s lo hi).1∧(wi B s lo hi).1≤255:=rQ hB h
theorem wi_in {B:List U8} {s:RS} {lo hi:Int} (h:(wi B s lo hi).2.wr=false):lo≤(wi B s lo hi).1∧(wi B s lo hi).1≤hi∧s.wr=false:=by
 obtain ⟨h1,h2,h3,h4⟩:=aGF h
 have h3:=of_decide_eq_true h3
 unfold wi
 rw [h4]
 exact ⟨h3.1,h3.2,h1⟩
theorem aGG {op h:Int} (ho:op=5∨op=6) (hh:0≤h∧h≤255):hiC op h=decide (h≤2∨254≤h):=by
 unfold hiC
 rw [Bool.eq_iff_iff,List.any_eq_true,decide_eq_true_eq]
 constructor
 · rintro ⟨l,hl,h1⟩
   rw [List.mem_range] at hl
   unfold fJ at h1
   rw [if_pos ho,decide_eq_true_eq] at h1
   unfold i16 at h1
   split at h1 <;> omega
 intro h1
 refine ⟨if h=0 then 1 else 0,by rw [List.mem_range];split <;> omega,?_⟩
 unfold fJ
 rw [if_pos ho,decide_eq_true_eq]
 unfold i16
 split <;> split <;> omega
theorem aIR {op h:Int} (ho:op=7∨op=8) (hh:0≤h∧h≤255):hiC op h=decide (h=0):=by
 unfold hiC
 rw [Bool.eq_iff_iff,List.any_eq_true,decide_eq_true_eq]
 have hn:¬(op=5∨op=6):=by omega
 constructor
 · rintro ⟨l,hl,h1⟩
   rw [List.mem_range] at hl
   unfold fJ at h1
   rw [if_neg hn,if_pos ho,decide_eq_true_eq] at h1
   unfold i16 at h1
   split at h1 <;> omega
 intro h1
 refine ⟨1,by rw [List.mem_range];omega,?_⟩
 unfold fJ
 rw [if_neg hn,if_pos ho,decide_eq_true_eq]
 unfold i16
 split <;> omega
theorem aMW {op h:Int} (ho:¬(op=5∨op=6)) (ho2:¬(op=7∨op=8)) (hh:0≤h∧h≤255):hiC op h=decide (h=0):=by
 unfold hiC
 rw [Bool.eq_iff_iff,List.any_eq_true,decide_eq_true_eq]
 constructor
 · rintro ⟨l,hl,h1⟩
   rw [List.mem_range] at hl
   unfold fJ at h1
   rw [if_neg ho,if_neg ho2,decide_eq_true_eq] at h1
   unfold i16 at h1
   split at h1 <;> omega
 intro h1
 refine ⟨0,by rw [List.mem_range];omega,?_⟩
 unfold fJ
 rw [if_neg ho,if_neg ho2,decide_eq_true_eq]
 unfold i16
 split <;> omega
end Go.Proofs.YtfdcckcadfhpeaaGreatDoor
namespace Go.Proofs.YtfdcckcadfhpeaaGreatDoor
open Go Go.Sl Go.ChangeShapes Go.WideShapes Go.RowKit Go.Joins
theorem aMX {H:Type} (d:DataW H):1≤Rows.uptoBulk d:=by
 cases d with
 | lit l=>cases l <;> simp [Rows.uptoBulk]
 | nil=>simp [Rows.uptoBulk]
 | ptr d=>simp [Rows.uptoBulk]
 | slice elems spare=>simp [Rows.uptoBulk]
 | agg parts=>simp [Rows.uptoBulk]
 | iface t d=>simp [Rows.uptoBulk]
 | map bJ=>simp [Rows.uptoBulk]
 | held h=>simp [Rows.uptoBulk]
theorem aMY {H:Type} (l:List (DataW H)):l.length≤Rows.uptoBulkAll l:=by
 induction l with
 | nil=>simp [Rows.uptoBulkAll]
 | cons x r ih=>have:=aMX x;simp only [Rows.uptoBulkAll,List.length_cons];omega
theorem aEH {H:Type} (l r:List (DataW H)):l.length≤Rows.uptoBulk (.slice l r):=by
 have:=aMY l
 simp only [Rows.uptoBulk];omega
section
variable {H:Type} {enc:TypeId×Value→H}
theorem aSF {W:World} {E:TypeId} (he:Tryz.prog.underlying E=some (.int .u8)):Dec (α:=U8) enc Tryz.prog W E (fun y _=>0≤y.v∧y.v≤255):=fun n cs x h=>by
 obtain ⟨k,rfl,rfl,hw⟩:=DataW.trod_int he h
 have hw:=(Lit.wf_int_iff _ _).1 hw
 exact ⟨⟨k⟩,rfl,hw.1,hw.2⟩
theorem aEI {W:World} {r:Reach} {b0:Nat} {v:Value} {d:DataW H} {ps:List MemPlace} (hv:Value.okWide Tryz.prog W r b0 38 v) (h:DataW.Trod enc Tryz.prog W 0 (fun _=>true) true 38 v d ps) :
 ∃ (a:Option Addr) (c:Nat) (B:List U8),v=.slice a B.length c∧Arr (pO W) a B∧B.length≤c∧Bytes B∧B.length≤Rows.uptoBulk d:=by
 obtain ⟨a0,len,cap,rfl⟩:=okWide_slice Tryz.underlying38 hv
 obtain ⟨n,h⟩:=h
 obtain ⟨a,c,xs,e,hA,hl,hd⟩:=aKR (α:=U8) Tryz.underlying38 (by kernel_rfl) (by decide) (aSF T.u5) h
 replace e:[Value.slice a0 len cap]=[.slice a xs.length c]:=e
 simp only [List.cons.injEq,and_true] at e
 refine ⟨a,c,xs,e,hA,hl,?_,?_⟩
 · rcases hd with ⟨_,rfl⟩ | ⟨l,r,_,_,hg⟩
   · intro i hi;cases hi
   intro i hi
   obtain ⟨_,_,h8⟩:=hg i hi
   exact h8
 rcases hd with ⟨_,rfl⟩ | ⟨l,r,e,hl,_⟩
 · exact Nat.zero_le _
 show _≤Rows.uptoBulk (d,ps).1
 rw [e,←hl];exact aEH l r
end
end Go.Proofs.YtfdcckcadfhpeaaGreatDoor
namespace Go.Proofs.YtfdcckcadfhpeaaGreatDoor
open Go Go.Sl
def rdR (a:Option Addr) (n c:Nat) (s:RS):Obj:=.cells #[.slice a n c,.int .i64 (s.k:Int),.int .i64 (if s.wr=true then (s.k:Int) else -1)] 108 (0,0)
theorem w64 {x:Int} (h:-9223372036854775808≤x∧x≤9223372036854775807):IntKind.i64.wrap x=x:=by
 rw [IntKind.wrap_i64];omega
theorem c61 (G:Imm) (b:Nat) (a:Option Addr) (c:Nat) (B:List U8) (s:RS) (lo hi:Int) (hA:Arr G a B) (hB:Bytes B) (hk:s.k≤B.length) (hl:B.length≤1048576) :
 Does Tryz.prog 61 [.pointer (some ⟨b,0,none⟩),.int .i64 lo,.int .i64 hi] G [(0,some b,rdR a B.length c s)] (fun v G' Ho=>v=.int .i64 (wi B s lo hi).1∧G'=G∧Ho=[(0,some b,rdR a B.length c (wi B s lo hi).2)]):=by
 refine D0 Tryz.func61 Tryz.ntmps61 fun w=>?_
 obtain ⟨k,wr⟩:=s
 replace hk:k≤B.length:=hk
 cases wr with
 | true =>
   show Wc none Tryz.prog _ ⟨_,_,_,_⟩ ⟨_,_,[(0,some b,.cells #[.slice a B.length c,.int .i64 (k:Int),.int .i64 (k:Int)] 108 (0,0))],_⟩ _
   refine Wc.ga 23 [0,1] ?_
   refine Ar.p1 [0] ?_
   unfold wi;rw [qB rfl]
   exact ⟨rfl,rfl,rfl⟩
 | false =>
   show Wc none Tryz.prog _ ⟨_,_,_,_⟩ ⟨_,_,[(0,some b,.cells #[.slice a B.length c,.int .i64 (k:Int),.int .i64 (-1)] 108 (0,0))],_⟩ _
   refine Wc.gc 20 [0,0] ?_
   refine aN [0] [] T.mixed [[0],[1],[2],[3,0],[4],[5],[6],[7,0],[8],[9],[10]] ?_
   refine Gm.cases 22 rfl (fun hg1=>?_) fun hg1=>?_
   refine Gm.r [[11],[12],[13],[14],[15],[16],[17],[18],[19],[20],[21],[22],[23],[24],[25],[26],[27],[28],[29],[30],[31],[32],[33],[34],[35],[36],[37],[38],[39]] ?_
   refine Gm.fin ?_
   refine Ar.ga 21 [1,0,0] ?_
   refine Ar.p1 [0] ?_
   rotate_left
   refine Gm.r [[11],[12],[13],[14,0],[15],[16],[17],[18,0]] ?_
   refine Gm.y 19 [] rfl (Qy.at (α:=U8) T.sl38 rfl rfl ‹_› (by omega)) ?_
   refine Gm.y 20 [0] rfl (aL T.one5 rfl (Arr.cell ‹_› (by omega) 0 rfl rfl)) ?_
   refine Gm.y 21 [] rfl (bE rfl T.u3 rfl) ?_
   refine Gm.r [[22],[23],[24],[25]] ?_
   refine Gm.cases 37 rfl (fun hg2=>?_) fun hg2=>?_
   refine Gm.r [[26],[27],[28],[29],[30],[31],[32],[33],[34],[35],[36],[37],[38],[39]] ?_
   refine Gm.fin ?_
   refine Ar.ga 21 [1,0,0] ?_
   refine Ar.p1 [0] ?_
   rotate_left
   refine Gm.r [[26],[27],[28],[29,0],[30],[31],[32],[33,0]] ?_
   refine Gm.y 34 [] rfl (Qy.at (α:=U8) T.sl38 rfl rfl ‹_› (by omega)) ?_
   refine Gm.y 35 [0] rfl (aL T.one5 rfl (Arr.cell ‹_› (by omega) 0 rfl rfl)) ?_
   refine Gm.y 36 [] rfl (bE rfl T.u3 rfl) ?_
   refine Gm.r [[37],[38],[39]] ?_
   refine Gm.fin ?_
   refine Ar.next ?_
   refine Wc.i (fun hc1=>?_) fun hc1=>?_
   refine Wc.ga 19 [0,0] ?_
   refine Ar.p1 [0] ?_
   rotate_left
   refine Wc.gc 15 [0,0] ?_
   refine aN [0] [] T.mixed [[0],[1],[2],[3,0],[4],[5],[6],[7,0],[8]] ?_
   refine Gm.at (α:=U8) 9 T.sl38 ?_
   refine gO 10 [0] 0 T.one5 ?_
   refine Gm.u 11 [] rfl (bE rfl T.u3 rfl) ?_
   refine Gm.r [[12]] ?_
   refine Gm.fin ?_
   refine Ar.ga 2 [] ?_
   refine Ar.p1 [0] ?_
   rotate_left
   · have e:wi B ⟨k,false⟩ lo hi=(0,⟨k,true⟩):=by unfold wi;exact zG (show k=B.length by omega)
     rw [e]
     exact ⟨rfl,rfl,rfl⟩
   all_goals have h8:=hB k (by omega)
   all_goals have ew:IntKind.i64.wrap (B[((k:Nat):Int).toNat]?.getD default).v=(B[k]?.getD default).v:=w64 (by show _≤(B[k]?.getD default).v∧(B[k]?.getD default).v≤_;omega)
   all_goals rw [ew] at hg2
   · have e:wi B ⟨k,false⟩ lo hi=(0,⟨k,true⟩):=by unfold wi;exact aEG (decide_eq_false (by show ¬(lo≤(B[k]?.getD default).v∧_);omega))
     rw [e]
     exact ⟨rfl,rfl,rfl⟩
   · rw [ew] at hc1
     have e:wi B ⟨k,false⟩ lo hi=(0,⟨k,true⟩):=by unfold wi;exact aEG (decide_eq_false (by show ¬(lo≤(B[k]?.getD default).v∧(B[k]?.getD default).v≤hi);omega))
     rw [e]
     exact ⟨rfl,rfl,rfl⟩
   rw [ew] at hc1
   have e:wi B ⟨k,false⟩ lo hi=((B[k]?.getD default).v,⟨k+1,false⟩):=by unfold wi;exact aRH rfl (show k≠B.length by omega) (decide_eq_true (by show lo≤(B[k]?.getD default).v∧(B[k]?.getD default).v≤hi;omega))
   rw [e]
   have e2:((k:Nat):Int)+1 - 1=((k:Nat):Int):=by omega
   rw [e2,ew]
   exact ⟨rfl,rfl,rfl⟩
theorem cP (G:Imm) (b:Nat) (a:Option Addr) (c:Nat) (B:List U8) (s:RS) (lo hi:Int) (hA:Arr G a B) (hB:Bytes B) (hk:s.k≤B.length) (hl:B.length≤1048576) :
 Does Tryz.prog 61 [.pointer (some ⟨b,0,none⟩),.int .i64 lo,.int .i64 hi] G [(0,some b,rdR a B.length c s)] (fun v G' Ho=>∃ (x:Int) (t:RS),wi B s lo hi=(x,t)∧t.k≤B.length∧(0≤x∧x≤255)∧v=.int .i64 x∧G'=G∧Ho=[(0,some b,rdR a B.length c t)]):=
 (c61 G b a c B s lo hi hA hB hk hl).mono fun v G' Ho _ ⟨h1,h2,h3⟩=>⟨_,_,rfl,wi_k hk,aMV hB hk,h1,h2,h3⟩
theorem kG {B:List U8} {s:RS} {lo hi x:Int} {t:RS} (h:wi B s lo hi=(x,t)) (hw:s.wr=true):x=0∧t=⟨s.k,true⟩:=by
 rw [aMU hw] at h
 exact ⟨(Prod.mk.inj h).1.symm,(Prod.mk.inj h).2.symm⟩
theorem aR {B:List U8} {s:RS} {lo hi x:Int} {t:RS} (h:wi B s lo hi=(x,t)) (hw:t.wr=false):lo≤x∧x≤hi∧s.wr=false:=by
 have:=wi_in (B:=B) (s:=s) (lo:=lo) (hi:=hi) (by rw [h];exact hw)
 rw [h] at this
 exact this
theorem sg_wr {B:List U8} {s:RS} (h:s.wr=true):sg B s=(0,⟨s.k,true⟩):=by
 unfold sg;rw [qB h];rfl
theorem sg_hi {B:List U8} {s:RS} {x:Int} {t:RS} (hB:Bytes B) (h:s.k<B.length) (h2:128≤(B[s.k]?.getD default).v) (e:wi B s 240 255=(x,t)):sg B s=(if 128≤x then x - 256 else x,t):=by
 have h8:=hB s.k h
 unfold sg
 rw [iK (g':=fun x=>decide (240≤x∧x≤255)) (fun _=>decide_eq_decide.mpr (by omega)) (by omega)]
 unfold wi at e
 rw [e]
theorem sg_lo {B:List U8} {s:RS} {x:Int} {t:RS} (hB:Bytes B) (h:s.k≤B.length) (h2:s.k<B.length→(B[s.k]?.getD default).v<128) (e:wi B s 0 16=(x,t)):sg B s=(if 128≤x then x - 256 else x,t):=by
 unfold sg
 rw [iK (g':=fun x=>decide (0≤x∧x≤16)) (fun h3=>decide_eq_decide.mpr (by have:=hB s.k h3;have:=h2 h3;omega)) h]
 unfold wi at e
 rw [e]
theorem c62 (G:Imm) (b:Nat) (a:Option Addr) (c:Nat) (B:List U8) (s:RS) (hA:Arr G a B) (hB:Bytes B) (hk:s.k≤B.length) (hl:B.length≤1048576) :
 Does Tryz.prog 62 [.pointer (some ⟨b,0,none⟩)] G [(0,some b,rdR a B.length c s)] (fun v G' Ho=>∃ x:Int,v=.int .i64 x∧(-256≤x∧x≤255)∧((sg B s).2.wr=false→x=(sg B s).1)∧G'=G∧Ho=[(0,some b,rdR a B.length c (sg B s).2)]):=by
 refine D0 Tryz.func62 Tryz.ntmps62 fun w=>?_
 obtain ⟨k,wr⟩:=s
 replace hk:k≤B.length:=hk
 cases wr with
 | true =>
   show Wc none Tryz.prog _ ⟨_,_,_,_⟩ ⟨_,_,[(0,some b,.cells #[.slice a B.length c,.int .i64 (k:Int),.int .i64 (k:Int)] 108 (0,0))],_⟩ _
   refine Wc.gc 7 [] ?_
   refine aN [0] [] T.mixed [[0],[1],[2],[3,0],[4],[5]] ?_
   refine uA 8 rfl (by first | assumption | omega) ?_
   refine Gm.r [[6],[7],[8],[9],[10],[11],[12],[13],[14],[15],[16],[17],[18],[19],[20],[21],[22],[23],[24],[25],[26],[27],[28],[29]] ?_
   refine Gm.fin ?_
   refine Ar.gl 7 [0] ?_
   refine Wl.k 0 rfl (cP _ _ a c B ⟨k,true⟩ _ _ hA hB hk hl) fun v1 G1 Ho1 hle1 hp=>?_
   obtain ⟨x1,t1,ht1,hk1,hx1,rfl,rfl,rfl⟩:=hp
   refine Wl.ga 4 [] ?_
   refine Ar.p1 [0] ?_
   obtain ⟨rfl,rfl⟩:=kG ht1 rfl
   rw [sg_wr rfl]
   exact ⟨0,rfl,by omega,fun _=>rfl,rfl,rfl⟩
 | false =>
   show Wc none Tryz.prog _ ⟨_,_,_,_⟩ ⟨_,_,[(0,some b,.cells #[.slice a B.length c,.int .i64 (k:Int),.int .i64 (-1)] 108 (0,0))],_⟩ _
   refine Wc.gc 7 [] ?_
   refine aN [0] [] T.mixed [[0],[1],[2],[3,0],[4],[5]] ?_
   refine rA 8 rfl (by first | assumption | omega) ?_
   refine Gm.r [[6],[7],[8],[9,0],[10],[11],[12],[13,0],[14],[15],[16],[17]] ?_
   refine Gm.cases 20 rfl (fun hg1=>?_) fun hg1=>?_
   refine Gm.r [[18],[19],[20],[21,0],[22],[23],[24],[25,0]] ?_
   refine Gm.y 26 [] rfl (Qy.at (α:=U8) T.sl38 rfl rfl ‹_› (by omega)) ?_
   refine Gm.y 27 [0] rfl (aL T.one5 rfl (Arr.cell ‹_› (by omega) 0 rfl rfl)) ?_
   refine Gm.r [[28],[29]] ?_
   refine Gm.fin ?_
   refine Ar.next ?_
   refine Wc.i (fun hc1=>?_) fun hc1=>?_
   refine Wc.gl 3 [] ?_
   refine Wl.k 0 rfl (cP _ _ a c B ⟨k,false⟩ _ _ hA hB hk hl) fun v1 G1 Ho1 hle1 hp=>?_
   obtain ⟨x1,t1,ht1,hk1,hx1,rfl,rfl,rfl⟩:=hp
   refine Wl.ga 6 [] ?_
   refine Ar.p1 [0] ?_
   rotate_left
   refine Wc.gl 5 [] ?_
   refine Wl.k 0 rfl (cP _ _ a c B ⟨k,false⟩ _ _ hA hB hk hl) fun v1 G1 Ho1 hle1 hp=>?_
   obtain ⟨x1,t1,ht1,hk1,hx1,rfl,rfl,rfl⟩:=hp
   refine Wl.ga 4 [] ?_
   refine Ar.p1 [0] ?_
   rotate_left
   refine Gm.r [[18],[19],[20],[21],[22],[23],[24],[25],[26],[27],[28],[29]] ?_
   refine Gm.fin ?_
   refine Ar.gl 7 [0] ?_
   refine Wl.k 0 rfl (cP _ _ a c B ⟨k,false⟩ _ _ hA hB hk hl) fun v1 G1 Ho1 hle1 hp=>?_
   obtain ⟨x1,t1,ht1,hk1,hx1,rfl,rfl,rfl⟩:=hp
   refine Wl.ga 4 [] ?_
   refine Ar.p1 [0] ?_
   rotate_left
   · rw [sg_hi (s:=⟨k,false⟩) hB (show k<B.length by omega) hc1 ht1]
     refine ⟨x1 - 256,rfl,by omega,fun h=>?_,rfl,rfl⟩
     have h9:=aR ht1 h
     show x1 - 256=if 128≤x1 then x1 - 256 else x1
     rw [if_pos (by omega)]
   all_goals have h7:k<B.length→(B[k]?.getD default).v<128:=fun h=>by first | (exact Int.not_le.1 ‹_›) | omega
   all_goals rw [sg_lo (s:=⟨k,false⟩) hB hk h7 ht1]
   all_goals refine ⟨x1,rfl,by omega,fun h=>?_,rfl,rfl⟩
   all_goals have h9:=aR ht1 h
   all_goals show x1=if 128≤x1 then x1 - 256 else x1
   all_goals rw [if_neg (by omega)]
theorem aRI {B:List U8} {s:RS} {op:Int} (hB:Bytes B) (hk:s.k<B.length) (h2:128≤(B[s.k]?.getD default).v) (ho:op=5∨op=6):nx B s (hiC op)=wi B s 254 255:=by
 unfold wi
 refine iK (fun h3=>?_) (by omega)
 have h8:=hB s.k h3
 rw [aGG ho h8]
 exact decide_eq_decide.mpr (by omega)
theorem mA {B:List U8} {s:RS} {op:Int} (hB:Bytes B) (hk:s.k≤B.length) (h2:s.k<B.length→(B[s.k]?.getD default).v<128) (ho:op=5∨op=6):nx B s (hiC op)=wi B s 0 2:=by
 unfold wi
 refine iK (fun h3=>?_) hk
 have h8:=hB s.k h3
 have h7:=h2 h3
 rw [aGG ho h8]
 exact decide_eq_decide.mpr (by omega)
theorem aGH {B:List U8} {s:RS} {op:Int} (hB:Bytes B) (hk:s.k≤B.length) (ho:¬(op=5∨op=6)):nx B s (hiC op)=wi B s 0 0:=by
 unfold wi
 refine iK (fun h3=>?_) hk
 have h8:=hB s.k h3
 by_cases h2:op=7∨op=8
 · rw [aIR h2 h8]
   exact decide_eq_decide.mpr (by omega)
 rw [aMW ho h2 h8]
 exact decide_eq_decide.mpr (by omega)
theorem aSG {B:List U8} {t:RS} {op h lo hi:Int} (hB:Bytes B) (hk:t.k≤B.length) (hh:∀ l:Int,0≤l→l≤255→(fJ op (i16 h l)=true↔lo≤l∧l≤hi)):nx B t (fun l=>fJ op (i16 h l))=wi B t lo hi:=by
 unfold wi
 refine iK (fun h3=>?_) hk
 have h8:=hB t.k h3
 have:=hh _ h8.1 h8.2
 rw [Bool.eq_iff_iff,this,decide_eq_true_eq]
theorem dK {op c:Int} (ho:op=5∨op=6):fJ op c=true↔(c≠0∧-512≤c)∧c≤512:=by
 unfold fJ;rw [if_pos ho,decide_eq_true_eq]
theorem aEJ {op c:Int} (ho:op=7∨op=8):fJ op c=true↔1≤c∧c≤64:=by
 unfold fJ;rw [if_neg (by omega),if_pos ho,decide_eq_true_eq]
theorem aIS {op c:Int} (ho:¬(op=5∨op=6)) (ho2:¬(op=7∨op=8)):fJ op c=true↔c=0:=by
 unfold fJ;rw [if_neg ho,if_neg ho2,decide_eq_true_eq]
theorem dG {B:List U8} {s t t':RS} {op h l lo hi:Int} (hB:Bytes B) (hk:t.k≤B.length) (e1:nx B s (hiC op)=(h,t)) (e2:wi B t lo hi=(l,t')) (hh:t.wr=false→∀ l:Int,0≤l→l≤255→(fJ op (i16 h l)=true↔lo≤l∧l≤hi)):(oO B s op).2=t'∧(t'.wr=false→t.wr=false∧oO B s op=(i16 h l,t')):=by
 unfold oO
 rw [e1]
 cases hw:t.wr with
 | true =>
   obtain ⟨r1,r2⟩:=kG e2 hw
   have e3:nx B t (fun l=>fJ op (i16 h l))=(0,⟨t.k,true⟩):=qB hw
   simp only [e3]
   exact ⟨r2.symm,fun h=>by rw [r2] at h;cases h⟩
 | false =>
   have e3:=aSG (op:=op) (h:=h) hB hk (hh hw)
   simp only [e3,e2]
   exact ⟨trivial,fun _=>⟨trivial,trivial⟩⟩
theorem c122 (G:Imm) (b:Nat) (a:Option Addr) (c:Nat) (B:List U8) (s:RS) (op:Int) (hA:Arr G a B) (hB:Bytes B) (hk:s.k≤B.length) (hl:B.length≤1048576) :
 Does Tryz.prog 122 [.pointer (some ⟨b,0,none⟩),.int .i64 op] G [(0,some b,rdR a B.length c s)] (fun v G' Ho=>∃ x:Int,v=.int .i64 x∧(-65536≤x∧x≤65536)∧((oO B s op).2.wr=false→x=(oO B s op).1)∧G'=G∧Ho=[(0,some b,rdR a B.length c (oO B s op).2)]):=by
 refine D0 Tryz.func122 Tryz.ntmps122 fun w=>?_
 by_cases ho:op=5∨op=6
 · obtain ⟨k,wr⟩:=s
   replace hk:k≤B.length:=hk
   cases wr with
   | true =>
     show Wc none Tryz.prog _ ⟨_,_,_,_⟩ ⟨_,_,[(0,some b,.cells #[.slice a B.length c,.int .i64 (k:Int),.int .i64 (k:Int)] 108 (0,0))],_⟩ _
     have hop:op=5∨op=6:=ho
     rcases hop with h5 | h5
     all_goals skip
     · skip
       refine Wc.gc 30 [1,1] ?_
       refine aN [0] [] T.mixed [[0],[1],[2],[3,0],[4],[5]] ?_
       refine uA 15 rfl (by first | assumption | omega) ?_
       refine Gm.r [[6],[7],[8],[9],[10],[11],[12],[13],[14],[15],[16],[17],[18],[19],[20],[21],[22],[23],[24],[25],[26],[27],[28],[29]] ?_
       refine Gm.fin ?_
       refine Ar.gl 7 [0] ?_
       refine Wl.k 0 rfl (cP _ _ a c B (⟨k,true⟩:RS) _ _ hA hB ‹_› hl) fun v1 G1 Ho1 hle1 hp=>?_
       obtain ⟨x1,t1,ht1,hk1,hx1,rfl,rfl,rfl⟩:=hp
       refine Wl.gc 16 [] ?_
       refine Wc.i (fun hc1=>?_) fun hc1=>?_
       refine Wc.gl 3 [] ?_
       rotate_left
       refine Wc.gc 6 [] ?_
       refine Wc.i (fun hc2=>?_) fun hc2=>?_
       refine Wc.gl 3 [] ?_
       rotate_left
       refine Wc.gl 6 [] ?_
       rotate_left
       · obtain ⟨rfl,rfl⟩:=kG ht1 rfl
         refine Wl.k 0 rfl (cP _ _ a c B (⟨k,true⟩:RS) _ _ hA hB ‹_› hl) fun v2 G2 Ho2 hle2 hp=>?_
         obtain ⟨x2,t2,ht2,hk2,hx2,rfl,rfl,rfl⟩:=hp
         refine Wl.ga 8 [] ?_
         refine Ar.p1 [0] ?_
         obtain ⟨rfl,rfl⟩:=kG ht2 rfl
         obtain ⟨q1,q2⟩:=dG (s:=⟨k,true⟩) (op:=op) hB (show k≤B.length from hk) (qB rfl) ht2 (fun hw=>by cases hw)
         rw [q1]
         exact ⟨_,rfl,by omega,(fun h=>by cases h),rfl,rfl⟩
       · obtain ⟨rfl,rfl⟩:=kG ht1 rfl
         exfalso;omega
       obtain ⟨rfl,rfl⟩:=kG ht1 rfl
       exfalso;omega
     · skip
       refine Wc.gc 33 [0,1] ?_
       refine aN [0] [] T.mixed [[0],[1],[2],[3,0],[4],[5]] ?_
       refine uA 15 rfl (by first | assumption | omega) ?_
       refine Gm.r [[6],[7],[8],[9],[10],[11],[12],[13],[14],[15],[16],[17],[18],[19],[20],[21],[22],[23],[24],[25],[26],[27],[28],[29]] ?_
       refine Gm.fin ?_
       refine Ar.gl 7 [0] ?_
       refine Wl.k 0 rfl (cP _ _ a c B (⟨k,true⟩:RS) _ _ hA hB ‹_› hl) fun v1 G1 Ho1 hle1 hp=>?_
       obtain ⟨x1,t1,ht1,hk1,hx1,rfl,rfl,rfl⟩:=hp
       refine Wl.gc 16 [] ?_
       refine Wc.i (fun hc1=>?_) fun hc1=>?_
       refine Wc.gl 3 [] ?_
       rotate_left
       refine Wc.gc 6 [] ?_
       refine Wc.i (fun hc2=>?_) fun hc2=>?_
       refine Wc.gl 3 [] ?_
       rotate_left
       refine Wc.gl 6 [] ?_
       rotate_left
       · obtain ⟨rfl,rfl⟩:=kG ht1 rfl
         refine Wl.k 0 rfl (cP _ _ a c B (⟨k,true⟩:RS) _ _ hA hB ‹_› hl) fun v2 G2 Ho2 hle2 hp=>?_
         obtain ⟨x2,t2,ht2,hk2,hx2,rfl,rfl,rfl⟩:=hp
         refine Wl.ga 8 [] ?_
         refine Ar.p1 [0] ?_
         obtain ⟨rfl,rfl⟩:=kG ht2 rfl
         obtain ⟨q1,q2⟩:=dG (s:=⟨k,true⟩) (op:=op) hB (show k≤B.length from hk) (qB rfl) ht2 (fun hw=>by cases hw)
         rw [q1]
         exact ⟨_,rfl,by omega,(fun h=>by cases h),rfl,rfl⟩
       · obtain ⟨rfl,rfl⟩:=kG ht1 rfl
         exfalso;omega
       · obtain ⟨rfl,rfl⟩:=kG ht1 rfl
         exfalso;omega
   | false =>
     show Wc none Tryz.prog _ ⟨_,_,_,_⟩ ⟨_,_,[(0,some b,.cells #[.slice a B.length c,.int .i64 (k:Int),.int .i64 (-1)] 108 (0,0))],_⟩ _
     have hop:op=5∨op=6:=ho
     rcases hop with h5 | h5
     · skip
       refine Wc.gc 30 [1,1] ?_
       refine aN [0] [] T.mixed [[0],[1],[2],[3,0],[4],[5]] ?_
       refine rA 15 rfl (by first | assumption | omega) ?_
       refine Gm.r [[6],[7],[8],[9,0],[10],[11],[12],[13,0],[14],[15],[16],[17]] ?_
       refine Gm.cases 27 rfl (fun hg1=>?_) fun hg1=>?_
       refine Gm.r [[18],[19],[20],[21,0],[22],[23],[24],[25,0]] ?_
       refine Gm.y 26 [] rfl (Qy.at (α:=U8) T.sl38 rfl rfl ‹_› (by omega)) ?_
       refine Gm.y 27 [0] rfl (aL T.one5 rfl (Arr.cell ‹_› (by omega) 0 rfl rfl)) ?_
       refine Gm.r [[28],[29]] ?_
       refine Gm.fin ?_
       refine Ar.next ?_
       refine Wc.i (fun hc1=>?_) fun hc1=>?_
       refine Wc.gl 3 [] ?_
       refine Wl.k 0 rfl (cP _ _ a c B (⟨k,false⟩:RS) _ _ hA hB ‹_› hl) fun v1 G1 Ho1 hle1 hp=>?_
       obtain ⟨x1,t1,ht1,hk1,hx1,rfl,rfl,rfl⟩:=hp
       refine Wl.gl 6 [] ?_
       refine Wl.p (Qy.mul rfl rfl (by omega)) ?_
       refine aA 1 [] ?_
       rotate_left
       refine Wc.gl 5 [] ?_
       refine Wl.k 0 rfl (cP _ _ a c B (⟨k,false⟩:RS) _ _ hA hB ‹_› hl) fun v1 G1 Ho1 hle1 hp=>?_
       obtain ⟨x1,t1,ht1,hk1,hx1,rfl,rfl,rfl⟩:=hp
       refine Wl.gc 16 [] ?_
       refine Wc.i (fun hc2=>?_) fun hc2=>?_
       refine Wc.gl 3 [] ?_
       rotate_left
       refine Wc.gc 6 [] ?_
       refine Wc.i (fun hc3=>?_) fun hc3=>?_
       refine Wc.gl 3 [] ?_
       rotate_left
       refine Wc.gl 6 [] ?_
       rotate_left
       refine Gm.r [[18],[19],[20],[21],[22],[23],[24],[25],[26],[27],[28],[29]] ?_
       refine Gm.fin ?_
       refine Ar.gl 7 [0] ?_
       refine Wl.k 0 rfl (cP _ _ a c B (⟨k,false⟩:RS) _ _ hA hB ‹_› hl) fun v1 G1 Ho1 hle1 hp=>?_
       obtain ⟨x1,t1,ht1,hk1,hx1,rfl,rfl,rfl⟩:=hp
       refine Wl.gc 16 [] ?_
       refine Wc.i (fun hc1=>?_) fun hc1=>?_
       refine Wc.gl 3 [] ?_
       rotate_left
       refine Wc.gc 6 [] ?_
       refine Wc.i (fun hc2=>?_) fun hc2=>?_
       refine Wc.gl 3 [] ?_
       rotate_left
       refine Wc.gl 6 [] ?_
       rotate_left
       · refine Wl.k 0 rfl (cP _ _ a c B _ _ _ hA hB ‹_› hl) fun v2 G2 Ho2 hle2 hp=>?_
         obtain ⟨x2,t2,ht2,hk2,hx2,rfl,rfl,rfl⟩:=hp
         refine Wl.ga 9 [] ?_
         refine Ar.p1 [0] ?_
         all_goals obtain ⟨q1,q2⟩:=dG (s:=⟨k,false⟩) (op:=op) hB ‹_› ((aRI (s:=⟨k,false⟩) hB (show k<B.length by omega) ‹_› ho).trans ht1) ht2 (fun hw l h0 h1=>by
          rw [dK ho];have:=aR ht1 hw;unfold i16;split <;> omega)
         all_goals rw [q1]
         all_goals refine ⟨_,rfl,by omega,fun h=>?_,rfl,rfl⟩
         all_goals obtain ⟨r1,r2⟩:=q2 h
         all_goals rw [r2]
         all_goals have:=aR ht1 r1
         all_goals have:=aR ht2 h
         all_goals show _=i16 x1 x2
         all_goals unfold i16
         all_goals split <;> omega
       · refine Wl.k 0 rfl (cP _ _ a c B _ _ _ hA hB ‹_› hl) fun v2 G2 Ho2 hle2 hp=>?_
         obtain ⟨x2,t2,ht2,hk2,hx2,rfl,rfl,rfl⟩:=hp
         refine Wl.ga 8 [] ?_
         refine Ar.p1 [0] ?_
         all_goals obtain ⟨q1,q2⟩:=dG (s:=⟨k,false⟩) (op:=op) hB ‹_› ((mA (s:=⟨k,false⟩) hB hk (fun _=>Int.not_le.1 ‹_›) ho).trans ht1) ht2 (fun hw l h0 h1=>by
          rw [dK ho];have:=aR ht1 hw;unfold i16;split <;> omega)
         all_goals rw [q1]
         all_goals refine ⟨_,rfl,by omega,fun h=>?_,rfl,rfl⟩
         all_goals obtain ⟨r1,r2⟩:=q2 h
         all_goals rw [r2]
         all_goals have:=aR ht1 r1
         all_goals have:=aR ht2 h
         all_goals show _=i16 x1 x2
         all_goals unfold i16
         all_goals split <;> omega
       · refine Wl.k 0 rfl (cP _ _ a c B _ _ _ hA hB ‹_› hl) fun v2 G2 Ho2 hle2 hp=>?_
         obtain ⟨x2,t2,ht2,hk2,hx2,rfl,rfl,rfl⟩:=hp
         refine Wl.ga 9 [] ?_
         refine Ar.p1 [0] ?_
         all_goals obtain ⟨q1,q2⟩:=dG (s:=⟨k,false⟩) (op:=op) hB ‹_› ((mA (s:=⟨k,false⟩) hB hk (fun _=>Int.not_le.1 ‹_›) ho).trans ht1) ht2 (fun hw l h0 h1=>by
          rw [dK ho];have:=aR ht1 hw;unfold i16;split <;> omega)
         all_goals rw [q1]
         all_goals refine ⟨_,rfl,by omega,fun h=>?_,rfl,rfl⟩
         all_goals obtain ⟨r1,r2⟩:=q2 h
         all_goals rw [r2]
         all_goals have:=aR ht1 r1
         all_goals have:=aR ht2 h
         all_goals show _=i16 x1 x2
         all_goals unfold i16
         all_goals split <;> omega
       · refine Wl.k 0 rfl (cP _ _ a c B _ _ _ hA hB ‹_› hl) fun v2 G2 Ho2 hle2 hp=>?_
         obtain ⟨x2,t2,ht2,hk2,hx2,rfl,rfl,rfl⟩:=hp
         refine Wl.ga 7 [] ?_
         refine Ar.p1 [0] ?_
         all_goals obtain ⟨q1,q2⟩:=dG (s:=⟨k,false⟩) (op:=op) hB ‹_› ((mA (s:=⟨k,false⟩) hB hk (fun _=>Int.not_le.1 ‹_›) ho).trans ht1) ht2 (fun hw l h0 h1=>by
          rw [dK ho];have:=aR ht1 hw;unfold i16;split <;> omega)
         all_goals rw [q1]
         all_goals refine ⟨_,rfl,by omega,fun h=>?_,rfl,rfl⟩
         all_goals obtain ⟨r1,r2⟩:=q2 h
         all_goals rw [r2]
         all_goals have:=aR ht1 r1
         all_goals have:=aR ht2 h
         all_goals show _=i16 x1 x2
         all_goals unfold i16
         all_goals split <;> omega
       · refine Wl.k 0 rfl (cP _ _ a c B _ _ _ hA hB ‹_› hl) fun v2 G2 Ho2 hle2 hp=>?_
         obtain ⟨x2,t2,ht2,hk2,hx2,rfl,rfl,rfl⟩:=hp
         refine Wl.ga 8 [] ?_
         refine Ar.p1 [0] ?_
         all_goals obtain ⟨q1,q2⟩:=dG (s:=⟨k,false⟩) (op:=op) hB ‹_› ((mA (s:=⟨k,false⟩) hB hk (fun h=>absurd (show k<B.length from h) (by omega)) ho).trans ht1) ht2 (fun hw l h0 h1=>by
          rw [dK ho];have:=aR ht1 hw;unfold i16;split <;> omega)
         all_goals rw [q1]
         all_goals refine ⟨_,rfl,by omega,fun h=>?_,rfl,rfl⟩
         all_goals obtain ⟨r1,r2⟩:=q2 h
         all_goals rw [r2]
         all_goals have:=aR ht1 r1
         all_goals have:=aR ht2 h
         all_goals show _=i16 x1 x2
         all_goals unfold i16
         all_goals split <;> omega
       · refine Wl.k 0 rfl (cP _ _ a c B _ _ _ hA hB ‹_› hl) fun v2 G2 Ho2 hle2 hp=>?_
         obtain ⟨x2,t2,ht2,hk2,hx2,rfl,rfl,rfl⟩:=hp
         refine Wl.ga 9 [] ?_
         refine Ar.p1 [0] ?_
         all_goals obtain ⟨q1,q2⟩:=dG (s:=⟨k,false⟩) (op:=op) hB ‹_› ((mA (s:=⟨k,false⟩) hB hk (fun h=>absurd (show k<B.length from h) (by omega)) ho).trans ht1) ht2 (fun hw l h0 h1=>by
          rw [dK ho];have:=aR ht1 hw;unfold i16;split <;> omega)
         all_goals rw [q1]
         all_goals refine ⟨_,rfl,by omega,fun h=>?_,rfl,rfl⟩
         all_goals obtain ⟨r1,r2⟩:=q2 h
         all_goals rw [r2]
         all_goals have:=aR ht1 r1
         all_goals have:=aR ht2 h
         all_goals show _=i16 x1 x2
         all_goals unfold i16
         all_goals split <;> omega
       refine Wl.k 0 rfl (cP _ _ a c B _ _ _ hA hB ‹_› hl) fun v2 G2 Ho2 hle2 hp=>?_
       obtain ⟨x2,t2,ht2,hk2,hx2,rfl,rfl,rfl⟩:=hp
       refine Wl.ga 7 [] ?_
       refine Ar.p1 [0] ?_
       all_goals obtain ⟨q1,q2⟩:=dG (s:=⟨k,false⟩) (op:=op) hB ‹_› ((mA (s:=⟨k,false⟩) hB hk (fun h=>absurd (show k<B.length from h) (by omega)) ho).trans ht1) ht2 (fun hw l h0 h1=>by
        rw [dK ho];have:=aR ht1 hw;unfold i16;split <;> omega)
       all_goals rw [q1]
       all_goals refine ⟨_,rfl,by omega,fun h=>?_,rfl,rfl⟩
       all_goals obtain ⟨r1,r2⟩:=q2 h
       all_goals rw [r2]
       all_goals have:=aR ht1 r1
       all_goals have:=aR ht2 h
       all_goals show _=i16 x1 x2
       all_goals unfold i16
       all_goals split <;> omega
     skip
     refine Wc.gc 33 [0,1] ?_
     refine aN [0] [] T.mixed [[0],[1],[2],[3,0],[4],[5]] ?_
     refine rA 15 rfl (by first | assumption | omega) ?_
     refine Gm.r [[6],[7],[8],[9,0],[10],[11],[12],[13,0],[14],[15],[16],[17]] ?_
     refine Gm.cases 27 rfl (fun hg1=>?_) fun hg1=>?_
     refine Gm.r [[18],[19],[20],[21,0],[22],[23],[24],[25,0]] ?_
     refine Gm.y 26 [] rfl (Qy.at (α:=U8) T.sl38 rfl rfl ‹_› (by omega)) ?_
     refine Gm.y 27 [0] rfl (aL T.one5 rfl (Arr.cell ‹_› (by omega) 0 rfl rfl)) ?_
     refine Gm.r [[28],[29]] ?_
     refine Gm.fin ?_
     refine Ar.next ?_
     refine Wc.i (fun hc1=>?_) fun hc1=>?_
     refine Wc.gl 3 [] ?_
     refine Wl.k 0 rfl (cP _ _ a c B (⟨k,false⟩:RS) _ _ hA hB ‹_› hl) fun v1 G1 Ho1 hle1 hp=>?_
     obtain ⟨x1,t1,ht1,hk1,hx1,rfl,rfl,rfl⟩:=hp
     refine Wl.gl 6 [] ?_
     refine Wl.p (Qy.mul rfl rfl (by omega)) ?_
     refine aA 1 [] ?_
     rotate_left
     refine Wc.gl 5 [] ?_
     refine Wl.k 0 rfl (cP _ _ a c B (⟨k,false⟩:RS) _ _ hA hB ‹_› hl) fun v1 G1 Ho1 hle1 hp=>?_
     obtain ⟨x1,t1,ht1,hk1,hx1,rfl,rfl,rfl⟩:=hp
     refine Wl.gc 16 [] ?_
     refine Wc.i (fun hc2=>?_) fun hc2=>?_
     refine Wc.gl 3 [] ?_
     rotate_left
     refine Wc.gc 6 [] ?_
     refine Wc.i (fun hc3=>?_) fun hc3=>?_
     refine Wc.gl 3 [] ?_
     rotate_left
     refine Wc.gl 6 [] ?_
     rotate_left
     refine Gm.r [[18],[19],[20],[21],[22],[23],[24],[25],[26],[27],[28],[29]] ?_
     refine Gm.fin ?_
     refine Ar.gl 7 [0] ?_
     refine Wl.k 0 rfl (cP _ _ a c B (⟨k,false⟩:RS) _ _ hA hB ‹_› hl) fun v1 G1 Ho1 hle1 hp=>?_
     obtain ⟨x1,t1,ht1,hk1,hx1,rfl,rfl,rfl⟩:=hp
     refine Wl.gc 16 [] ?_
     refine Wc.i (fun hc1=>?_) fun hc1=>?_
     refine Wc.gl 3 [] ?_
     rotate_left
     refine Wc.gc 6 [] ?_
     refine Wc.i (fun hc2=>?_) fun hc2=>?_
     refine Wc.gl 3 [] ?_
     rotate_left
     refine Wc.gl 6 [] ?_
     rotate_left
     · refine Wl.k 0 rfl (cP _ _ a c B _ _ _ hA hB ‹_› hl) fun v2 G2 Ho2 hle2 hp=>?_
       obtain ⟨x2,t2,ht2,hk2,hx2,rfl,rfl,rfl⟩:=hp
       refine Wl.ga 9 [] ?_
       refine Ar.p1 [0] ?_
       all_goals obtain ⟨q1,q2⟩:=dG (s:=⟨k,false⟩) (op:=op) hB ‹_› ((aRI (s:=⟨k,false⟩) hB (show k<B.length by omega) ‹_› ho).trans ht1) ht2 (fun hw l h0 h1=>by
        rw [dK ho];have:=aR ht1 hw;unfold i16;split <;> omega)
       all_goals rw [q1]
       all_goals refine ⟨_,rfl,by omega,fun h=>?_,rfl,rfl⟩
       all_goals obtain ⟨r1,r2⟩:=q2 h
       all_goals rw [r2]
       all_goals have:=aR ht1 r1
       all_goals have:=aR ht2 h
       all_goals show _=i16 x1 x2
       all_goals unfold i16
       all_goals split <;> omega
     · refine Wl.k 0 rfl (cP _ _ a c B _ _ _ hA hB ‹_› hl) fun v2 G2 Ho2 hle2 hp=>?_
       obtain ⟨x2,t2,ht2,hk2,hx2,rfl,rfl,rfl⟩:=hp
       refine Wl.ga 8 [] ?_
       refine Ar.p1 [0] ?_
       all_goals obtain ⟨q1,q2⟩:=dG (s:=⟨k,false⟩) (op:=op) hB ‹_› ((mA (s:=⟨k,false⟩) hB hk (fun _=>Int.not_le.1 ‹_›) ho).trans ht1) ht2 (fun hw l h0 h1=>by
        rw [dK ho];have:=aR ht1 hw;unfold i16;split <;> omega)
       all_goals rw [q1]
       all_goals refine ⟨_,rfl,by omega,fun h=>?_,rfl,rfl⟩
       all_goals obtain ⟨r1,r2⟩:=q2 h
       all_goals rw [r2]
       all_goals have:=aR ht1 r1
       all_goals have:=aR ht2 h
       all_goals show _=i16 x1 x2
       all_goals unfold i16
       all_goals split <;> omega
     · refine Wl.k 0 rfl (cP _ _ a c B _ _ _ hA hB ‹_› hl) fun v2 G2 Ho2 hle2 hp=>?_
       obtain ⟨x2,t2,ht2,hk2,hx2,rfl,rfl,rfl⟩:=hp
       refine Wl.ga 9 [] ?_
       refine Ar.p1 [0] ?_
       all_goals obtain ⟨q1,q2⟩:=dG (s:=⟨k,false⟩) (op:=op) hB ‹_› ((mA (s:=⟨k,false⟩) hB hk (fun _=>Int.not_le.1 ‹_›) ho).trans ht1) ht2 (fun hw l h0 h1=>by
        rw [dK ho];have:=aR ht1 hw;unfold i16;split <;> omega)
       all_goals rw [q1]
       all_goals refine ⟨_,rfl,by omega,fun h=>?_,rfl,rfl⟩
       all_goals obtain ⟨r1,r2⟩:=q2 h
       all_goals rw [r2]
       all_goals have:=aR ht1 r1
       all_goals have:=aR ht2 h
       all_goals show _=i16 x1 x2
       all_goals unfold i16
       all_goals split <;> omega
     · refine Wl.k 0 rfl (cP _ _ a c B _ _ _ hA hB ‹_› hl) fun v2 G2 Ho2 hle2 hp=>?_
       obtain ⟨x2,t2,ht2,hk2,hx2,rfl,rfl,rfl⟩:=hp
       refine Wl.ga 7 [] ?_
       refine Ar.p1 [0] ?_
       all_goals obtain ⟨q1,q2⟩:=dG (s:=⟨k,false⟩) (op:=op) hB ‹_› ((mA (s:=⟨k,false⟩) hB hk (fun _=>Int.not_le.1 ‹_›) ho).trans ht1) ht2 (fun hw l h0 h1=>by
        rw [dK ho];have:=aR ht1 hw;unfold i16;split <;> omega)
       all_goals rw [q1]
       all_goals refine ⟨_,rfl,by omega,fun h=>?_,rfl,rfl⟩
       all_goals obtain ⟨r1,r2⟩:=q2 h
       all_goals rw [r2]
       all_goals have:=aR ht1 r1
       all_goals have:=aR ht2 h
       all_goals show _=i16 x1 x2
       all_goals unfold i16
       all_goals split <;> omega
     · refine Wl.k 0 rfl (cP _ _ a c B _ _ _ hA hB ‹_› hl) fun v2 G2 Ho2 hle2 hp=>?_
       obtain ⟨x2,t2,ht2,hk2,hx2,rfl,rfl,rfl⟩:=hp
       refine Wl.ga 8 [] ?_
       refine Ar.p1 [0] ?_
       all_goals obtain ⟨q1,q2⟩:=dG (s:=⟨k,false⟩) (op:=op) hB ‹_› ((mA (s:=⟨k,false⟩) hB hk (fun h=>absurd (show k<B.length from h) (by omega)) ho).trans ht1) ht2 (fun hw l h0 h1=>by
        rw [dK ho];have:=aR ht1 hw;unfold i16;split <;> omega)
       all_goals rw [q1]
       all_goals refine ⟨_,rfl,by omega,fun h=>?_,rfl,rfl⟩
       all_goals obtain ⟨r1,r2⟩:=q2 h
       all_goals rw [r2]
       all_goals have:=aR ht1 r1
       all_goals have:=aR ht2 h
       all_goals show _=i16 x1 x2
       all_goals unfold i16
       all_goals split <;> omega
     · refine Wl.k 0 rfl (cP _ _ a c B _ _ _ hA hB ‹_› hl) fun v2 G2 Ho2 hle2 hp=>?_
       obtain ⟨x2,t2,ht2,hk2,hx2,rfl,rfl,rfl⟩:=hp
       refine Wl.ga 9 [] ?_
       refine Ar.p1 [0] ?_
       all_goals obtain ⟨q1,q2⟩:=dG (s:=⟨k,false⟩) (op:=op) hB ‹_› ((mA (s:=⟨k,false⟩) hB hk (fun h=>absurd (show k<B.length from h) (by omega)) ho).trans ht1) ht2 (fun hw l h0 h1=>by
        rw [dK ho];have:=aR ht1 hw;unfold i16;split <;> omega)
       all_goals rw [q1]
       all_goals refine ⟨_,rfl,by omega,fun h=>?_,rfl,rfl⟩
       all_goals obtain ⟨r1,r2⟩:=q2 h
       all_goals rw [r2]
       all_goals have:=aR ht1 r1
       all_goals have:=aR ht2 h
       all_goals show _=i16 x1 x2
       all_goals unfold i16
       all_goals split <;> omega
     refine Wl.k 0 rfl (cP _ _ a c B _ _ _ hA hB ‹_› hl) fun v2 G2 Ho2 hle2 hp=>?_
     obtain ⟨x2,t2,ht2,hk2,hx2,rfl,rfl,rfl⟩:=hp
     refine Wl.ga 7 [] ?_
     refine Ar.p1 [0] ?_
     all_goals obtain ⟨q1,q2⟩:=dG (s:=⟨k,false⟩) (op:=op) hB ‹_› ((mA (s:=⟨k,false⟩) hB hk (fun h=>absurd (show k<B.length from h) (by omega)) ho).trans ht1) ht2 (fun hw l h0 h1=>by
      rw [dK ho];have:=aR ht1 hw;unfold i16;split <;> omega)
     all_goals rw [q1]
     all_goals refine ⟨_,rfl,by omega,fun h=>?_,rfl,rfl⟩
     all_goals obtain ⟨r1,r2⟩:=q2 h
     all_goals rw [r2]
     all_goals have:=aR ht1 r1
     all_goals have:=aR ht2 h
     all_goals show _=i16 x1 x2
     all_goals unfold i16
     all_goals split <;> omega
 skip
 by_cases ho2:op=7∨op=8
 · refine Wc.gc 33 [0,0] ?_
   refine Wc.i (fun hc1=>?_) fun hc1=>?_
   refine Wc.gl 6 [1] ?_
   refine Wl.k 0 rfl (cP _ _ a c B _ _ _ hA hB ‹_› hl) fun v1 G1 Ho1 hle1 hp=>?_
   obtain ⟨x1,t1,ht1,hk1,hx1,rfl,rfl,rfl⟩:=hp
   refine Wl.gl 5 [] ?_
   refine Wl.k 0 rfl (cP _ _ a c B _ _ _ hA hB ‹_› hl) fun v2 G2 Ho2 hle2 hp=>?_
   obtain ⟨x2,t2,ht2,hk2,hx2,rfl,rfl,rfl⟩:=hp
   refine Wl.ga 6 [] ?_
   refine Ar.p1 [0] ?_
   rotate_left
   refine Wc.gl 9 [1] ?_
   refine Wl.k 0 rfl (cP _ _ a c B _ _ _ hA hB ‹_› hl) fun v1 G1 Ho1 hle1 hp=>?_
   obtain ⟨x1,t1,ht1,hk1,hx1,rfl,rfl,rfl⟩:=hp
   refine Wl.gl 5 [] ?_
   refine Wl.k 0 rfl (cP _ _ a c B _ _ _ hA hB ‹_› hl) fun v2 G2 Ho2 hle2 hp=>?_
   obtain ⟨x2,t2,ht2,hk2,hx2,rfl,rfl,rfl⟩:=hp
   refine Wl.ga 6 [] ?_
   refine Ar.p1 [0] ?_
   rotate_left
   all_goals obtain ⟨q1,q2⟩:=dG (op:=op) hB ‹_› ((aGH hB hk ho).trans ht1) ht2 (fun hw l h0 h1=>by
    rw [aEJ ho2];have:=aR ht1 hw;unfold i16;split <;> omega)
   all_goals rw [q1]
   all_goals refine ⟨_,rfl,by omega,fun h=>?_,rfl,rfl⟩
   all_goals obtain ⟨r1,r2⟩:=q2 h
   all_goals rw [r2]
   all_goals have:=aR ht1 r1
   all_goals have:=aR ht2 h
   all_goals show x2=i16 x1 x2
   all_goals unfold i16
   all_goals split <;> omega
 refine Wc.gl 46 [0,0,0,0] ?_
 refine Wl.k 0 rfl (cP _ _ a c B _ _ _ hA hB ‹_› hl) fun v1 G1 Ho1 hle1 hp=>?_
 obtain ⟨x1,t1,ht1,hk1,hx1,rfl,rfl,rfl⟩:=hp
 refine Wl.gl 5 [] ?_
 refine Wl.k 0 rfl (cP _ _ a c B _ _ _ hA hB ‹_› hl) fun v2 G2 Ho2 hle2 hp=>?_
 obtain ⟨x2,t2,ht2,hk2,hx2,rfl,rfl,rfl⟩:=hp
 refine Wl.ga 4 [] ?_
 refine Ar.p1 [0] ?_
 all_goals obtain ⟨q1,q2⟩:=dG (op:=op) hB ‹_› ((aGH hB hk ho).trans ht1) ht2 (fun hw l h0 h1=>by
  rw [aIS ho ho2];have:=aR ht1 hw;unfold i16;split <;> omega)
 all_goals rw [q1]
 all_goals refine ⟨_,rfl,by omega,fun h=>?_,rfl,rfl⟩
 all_goals obtain ⟨r1,r2⟩:=q2 h
 all_goals rw [r2]
 all_goals have:=aR ht1 r1
 all_goals have:=aR ht2 h
 all_goals show x2=i16 x1 x2
 all_goals unfold i16
 all_goals split <;> omega
theorem aMZ (G:Imm) (c:Int) (h:0≤c∧c≤64) :
 Does Tryz.prog 221 [.int .i64 c] G [] (fun v G' Ho=>∃ r:IV,v=.agg (Cells.enc r).toArray∧Big G' r (p2 c.toNat)∧Ho=[]):=by
 obtain ⟨n,rfl⟩:=Int.eq_ofNat_of_zero_le h.1
 rw [Int.toNat_natCast]
 exact c221 G n (by omega)
section
attribute [local irreducible] aB pb bL bK p2 cst
end
section
attribute [local irreducible] aB pb bL bK
theorem rR {G:Imm} {l:List IV} {zs:List Int} {r:IV} {z:Int} (h:Bigs G l zs) (hr:Big G r z):Bigs G (l++[r]) (zs++[z]):=by
 have e1:=h.1
 refine ⟨by rw [List.length_append,List.length_append,e1];rfl,fun i hi=>?_⟩
 rw [List.length_append,List.length_singleton] at hi
 rcases Nat.lt_or_ge i l.length with h3 | h3
 · rw [List.getElem?_append_left h3,List.getElem?_append_left (by omega)];exact h.2 i h3
 have h4:i=l.length:=by omega
 subst h4
 rw [List.getElem?_append_right (Nat.le_refl _),List.getElem?_append_right (by omega),e1,Nat.sub_self];exact hr
def upP (P:Nat→Int) (n:Nat):List Int:=(List.range n).map P
theorem uT (P:Nat→Int) (n:Nat):upP P (n+1)=upP P n++[P n]:=by unfold upP;rw [List.range_succ,List.map_append];rfl
theorem aRJ (G:Imm) (a:Option Addr) (c:Nat) (xs:List IV) (g:Nat) (fst:List Value) (P:Nat→Int) (hg:dP Tryz.prog g) (ha:Arr G a xs) (hl:xs.length≤1048576)
 (hf:∀ k:Nat,k<xs.length→∀ G',G.le G'→Does Tryz.prog g (fst++[.agg (Cells.enc (xs[((k:Nat):Int).toNat]?.getD default)).toArray]++[]) G' [] (fun v G'' Ho=>∃ r:IV,v=.agg (Cells.enc r).toArray∧Big G'' r (P k)∧Ho=[])) :
 Does Tryz.prog 265 [.slice a xs.length c,.func (.func g) fst.toArray #[]] G [] (fun v G' Ho=>∃ (s:Option Addr) (r:List IV) (d:Nat),v=.slice s r.length d∧Arr G' s r∧r.length≤d∧Bigs G' r (upP P xs.length)∧Ho=[]):=by
 refine D0 Tryz.func265 Tryz.ntmps265 fun w=>?_
 refine bF 9 (Row 125 ([]:List IV) []) ?_
 refine Wc.gc 19 [] ?_
 refine cS (ι:=Nat×Imm×List IV×(Option Addr×Nat×List Value)) (fun (k,Gx,r,(o,d,j))=>([(10,.int .i64 (k:Int)),(5,.slice o r.length d),(9,.int .i64 (xs.length:Int)),(8,.slice a (List.length xs) c),(4,.slice none 0 0),(1,.func (Go.Fn.func g) (List.toArray fst) #[])],[(9,o.map (·.block),Row 125 r j)])) (fun (k,Gx,r,(o,d,j))=>Gx) (fun (k,Gx,r,(o,d,j))=>k≤xs.length∧G.le Gx∧r.length=k∧Bigs Gx r (upP P k)∧OwnA o d r j) (fun (k,Gx,r,(o,d,j))=>xs.length - k) ((0,G,[],(none,0,[]))) (⟨Nat.zero_le _,Imm.le_refl _,rfl,⟨rfl,fun i h=>absurd h (by simp)⟩,OwnA.nil⟩) rfl ⟨rfl,rfl,rfl,rfl,rfl,rfl,trivial⟩ ⟨rfl,trivial⟩ fun ⟨k,Gx,r,(o,d,j)⟩=>fun hk=>?_
 obtain ⟨hk1,hk2,hk3,hk4,hk5⟩:=hk
 replace ha:=ha.up hk2
 rcases Nat.lt_or_ge k xs.length with hkl | hkl
 · refine Wc.gl 13 [1] ?_
   refine Wl.at (α:=IV) T.sl68 ?_
   refine Wl.le T.agg125 ?_
   refine Wl.alloc 10 rfl T.zero125 fun b1=>?_
   refine Wl.gl 7 [10,10] ?_
   refine bN (fst:=fst) (cap:=[]) 20 rfl hg rfl rfl (hf k hkl _ hk2) (bO trivial) fun v1 G1 Ho1 hle1 hp=>?_
   obtain ⟨r1,rfl,hr1,rfl⟩:=hp
   refine Wl.lit (α:=IV) 11 [(r1)] rfl T.sl68 T.el125 rfl rfl rfl rfl rfl fun b2=>?_
   refine Wl.ap (α:=IV) 9 T.sl68 T.el125 (Src.row 11 rfl) fun a1 c1 junk1 ho1=>?_
   refine Wl.ga 8 [] ?_
   refine Ar.re 10 rfl (show _=Value.int .i64 ((k+1:Nat):Int) from rfl) ?_
   refine aH ((k+1,G1,r++[r1],(a1,c1,junk1))) ?_ ?_
   · refine ⟨hkl,Imm.le_trans hk2 hle1,by rw [List.length_append,hk3];rfl,?_,ho1⟩
     rw [uT];exact rR (hk4.up hle1) hr1
   show xs.length - (k+1)<xs.length - k
   omega
 have hkl:k=xs.length:=by omega
 subst hkl
 refine Wc.ga 19 [0] ?_
 refine Ar.freezeRow 9 rfl hk5 fun G8 hle8 hA8=>?_
 refine Ar.e1 ?_
 exact ⟨o,r,d,rfl,hA8,hk5.le,hk4.up hle8,rfl⟩
theorem c265S (G:Imm) (a:Option Addr) (c:Nat) (xs:List IV) (g bk:Nat) (cap:List Value) (P:Nat→Int) (hg:dP Tryz.prog g) (ha:Arr G a xs) (hl:xs.length≤1048576)
 (hf:∀ k:Nat,k<xs.length→∀ G',G.le G'→Does Tryz.prog g ([]++[.agg (Cells.enc (xs[((k:Nat):Int).toNat]?.getD default)).toArray]++cap) G' [(0,some bk,.cells #[.int .i64 ((k:Int) - 1)] 3)] (fun v G'' Ho=>∃ r:IV,v=.agg (Cells.enc r).toArray∧Big G'' r (P k)∧Ho=[(0,some bk,.cells #[.int .i64 (((k+1:Nat):Int) - 1)] 3)])) :
 Does Tryz.prog 265 [.slice a xs.length c,.func (.func g) #[] cap.toArray] G [(0,some bk,.cells #[.int .i64 (-1)] 3)] (fun v G' Ho=>∃ (s:Option Addr) (r:List IV) (d:Nat),v=.slice s r.length d∧Arr G' s r∧r.length≤d∧Bigs G' r (upP P xs.length)∧Ho=[(0,some bk,.cells #[.int .i64 ((xs.length:Int) - 1)] 3)]):=by
 refine D0 Tryz.func265 Tryz.ntmps265 fun w=>?_
 refine bF 9 (Row 125 ([]:List IV) []) ?_
 refine Wc.gc 19 [] ?_
 refine Wc.reH 0 (.cells #[.int .i64 (((0:Nat):Int) - 1)] 3) rfl rfl ?_
 refine cS (ι:=Nat×Imm×List IV×(Option Addr×Nat×List Value)) (fun (k,Gx,r,(o,d,j))=>([(10,.int .i64 (k:Int)),(5,.slice o r.length d),(9,.int .i64 (xs.length:Int)),(8,.slice a (List.length xs) c),(4,.slice none 0 0),(1,.func (Go.Fn.func g) #[] (List.toArray cap))],[(0,some bk,.cells #[.int .i64 ((k:Int) - 1)] 3),(9,o.map (·.block),Row 125 r j)])) (fun (k,Gx,r,(o,d,j))=>Gx) (fun (k,Gx,r,(o,d,j))=>k≤xs.length∧G.le Gx∧r.length=k∧Bigs Gx r (upP P k)∧OwnA o d r j) (fun (k,Gx,r,(o,d,j))=>xs.length - k) ((0,G,[],(none,0,[]))) (⟨Nat.zero_le _,Imm.le_refl _,rfl,⟨rfl,fun i h=>absurd h (by simp)⟩,OwnA.nil⟩) rfl ⟨rfl,rfl,rfl,rfl,rfl,rfl,trivial⟩ ⟨rfl,rfl,trivial⟩ fun ⟨k,Gx,r,(o,d,j)⟩=>fun hk=>?_
 obtain ⟨hk1,hk2,hk3,hk4,hk5⟩:=hk
 replace ha:=ha.up hk2
 rcases Nat.lt_or_ge k xs.length with hkl | hkl
 · refine Wc.gl 13 [1] ?_
   refine Wl.at (α:=IV) T.sl68 ?_
   refine Wl.le T.agg125 ?_
   refine Wl.alloc 10 rfl T.zero125 fun b1=>?_
   refine Wl.gl 7 [10,10] ?_
   refine bN (fst:=[]) (cap:=cap) 0 rfl hg rfl rfl (hf k hkl _ hk2) (bO ⟨rfl,trivial⟩) fun v1 G1 Ho1 hle1 hp=>?_
   obtain ⟨r1,rfl,hr1,rfl⟩:=hp
   refine Wl.lit (α:=IV) 11 [(r1)] rfl T.sl68 T.el125 rfl rfl rfl rfl rfl fun b2=>?_
   refine Wl.ap (α:=IV) 9 T.sl68 T.el125 (Src.row 11 rfl) fun a1 c1 junk1 ho1=>?_
   refine Wl.ga 8 [] ?_
   refine Ar.re 10 rfl (show _=Value.int .i64 ((k+1:Nat):Int) from rfl) ?_
   refine aH ((k+1,G1,r++[r1],(a1,c1,junk1))) ?_ ?_
   · refine ⟨hkl,Imm.le_trans hk2 hle1,by rw [List.length_append,hk3];rfl,?_,ho1⟩
     rw [uT];exact rR (hk4.up hle1) hr1
   show xs.length - (k+1)<xs.length - k
   omega
 have hkl:k=xs.length:=by omega
 subst hkl
 refine Wc.ga 19 [0] ?_
 refine Ar.freezeRow 9 rfl hk5 fun G8 hle8 hA8=>?_
 refine aT (.inr rfl) (Ho:=[(0,some bk,.cells #[.int .i64 ((xs.length:Int) - 1)] 3)]) rfl (.tmp rfl) ⟨rfl,trivial⟩ ?_
 exact ⟨o,r,d,rfl,hA8,hk5.le,hk4.up hle8,rfl⟩
end
section
attribute [local irreducible] aB pb bL bK
theorem xV {G:Imm} {b:Nat} {cs:List Value} {T:TypeId} {fz:Nat×Nat} (h:G b=some (.cells cs.toArray T fz)) (k:Nat) {v:Value} (hv:cs[k]?=some v):G.cell b k=some v:=by
 simp only [Imm.cell,h];simpa using hv
theorem zI (xs:List Int) (f:Int→Int):upP (fun k=>f (xs[k]?.getD 0)) xs.length=xs.map f:=by
 unfold upP
 apply List.ext_getElem
 · rw [List.length_map,List.length_map,List.length_range]
 intro i h1 h2
 rw [List.length_map] at h2
 rw [List.getElem_map,List.getElem_range,List.getElem_map,List.getElem?_eq_getElem h2];rfl
theorem aGI (xs ys:List Int) (f:Int→Int→Int) (h:xs.length=ys.length):upP (fun k=>f (xs[k]?.getD 0) (ys[k]?.getD 0)) xs.length=List.zipWith f xs ys:=by
 unfold upP
 apply List.ext_getElem
 · rw [List.length_map,List.length_range,List.length_zipWith,h,Nat.min_self]
 intro i h1 h2
 rw [List.length_zipWith] at h2
 rw [List.getElem_map,List.getElem_range,List.getElem_zipWith,List.getElem?_eq_getElem (show i<xs.length by omega),List.getElem?_eq_getElem (show i<ys.length by omega)];rfl
def qD (G':Imm) (v:Value) (zs:List Int):Prop:=∃ (s:Option Addr) (r:List IV) (d:Nat),v=.slice s r.length d∧Arr G' s r∧r.length≤d∧Bigs G' r zs
theorem oP {G:Imm} {l:List IV} {xs:List Int} {m:Nat} (h:Bigs G l xs) (hm:Below m xs) {k:Nat} (hk:k<l.length):(l[k]?.getD default).n≤m:=Big.len (h.2 k hk) (hm.at k)
theorem c236 (G:Imm) (a:Option Addr) (c:Nat) (l:List IV) (xs:List Int) (m:Nat) (ha:Arr G a l) (hb:Bigs G l xs) (hm:Below m xs) (hmm:m≤268435456) (hl:l.length≤1048576) :
 Does Tryz.prog 236 [.slice a l.length c] G [] (fun v G' Ho=>qD G' v (xs.map fun x=>-x)∧Ho=[]):=by
 have hf:∀ k:Nat,k<l.length→∀ G',G.le G'→Does Tryz.prog 176 ([]++[.agg (Cells.enc (l[((k:Nat):Int).toNat]?.getD default)).toArray]++[]) G' [] (fun v G'' Ho=>∃ r:IV,v=.agg (Cells.enc r).toArray∧Big G'' r (-(xs[k]?.getD 0))∧Ho=[]):=fun k hk G' hG=>by
  have h1:=oP hb hm hk
  exact (c176 G' _ _ ((hb.2 k hk).up hG) (by omega)).mono fun v G'' Ho _ ⟨r,e1,e2,e3,e4⟩=>⟨r,e1,e2,e4⟩
 have h180:=aRJ G a c l 176 [] (fun k=>-(xs[k]?.getD 0)) T.fn176 ha hl hf
 rw [hb.1,zI xs (fun x=>-x),←hb.1] at h180
 refine D0 Tryz.func236 Tryz.ntmps236 fun w=>?_
 refine Wc.gl 8 [] ?_
 refine Wl.k 0 rfl (h180) fun v1 G1 Ho1 hle1 hp=>?_
 obtain ⟨s1,r1,d1,rfl,hA1,hl81,hB1,rfl⟩:=hp
 replace ha:=ha.up hle1
 replace hb:=hb.up hle1
 refine Wl.ga 4 [] ?_
 refine Ar.e1 ?_
 exact ⟨⟨_,_,_,rfl,hA1,hl81,hB1⟩,rfl⟩
theorem c276 (G:Imm) (bk bf bb h:Nat) (x:IV) (k:Nat) (a':Option Addr) (c':Nat) (ys:List IV) (R:Int) (hgh:dP Tryz.prog h) (hy:Arr G a' ys) (hk:k<ys.length) (hkl:k≤1048576) (hf:G bf=some (.cells [.func (.func h) #[] #[]].toArray 203)) (hb:G bb=some (.cells [.slice a' ys.length c'].toArray 68))
 (hh:Does Tryz.prog h ([]++[.agg (Cells.enc x).toArray,.agg (Cells.enc (ys[((k:Nat):Int).toNat]?.getD default)).toArray]++[]) G [] (fun v G'' Ho=>∃ r:IV,v=.agg (Cells.enc r).toArray∧Big G'' r R∧Ho=[])) :
 Does Tryz.prog 276 [.agg (Cells.enc x).toArray,.pointer (some ⟨bk,0,none⟩),.pointer (some ⟨bf,0,none⟩),.pointer (some ⟨bb,0,none⟩)] G [(0,some bk,.cells #[.int .i64 ((k:Int) - 1)] 3)]
  (fun v G' Ho=>∃ r:IV,v=.agg (Cells.enc r).toArray∧Big G' r R∧Ho=[(0,some bk,.cells #[.int .i64 (((k+1:Nat):Int) - 1)] 3)]):=by
 have hfc:=xV hf 0 rfl
 have hbc:=xV hb 0 rfl
 have e:((k:Nat):Int).toNat=(((k:Int) - 1)+1).toNat:=by omega
 rw [e] at hh
 refine D0 Tryz.func276 Tryz.ntmps276 fun w=>?_
 refine Wc.gl 2 [] ?_
 refine Wl.x 1 fun b1=>?_
 refine Wl.alloc 2 rfl T.zero125 fun b2=>?_
 refine Wl.gc 10 [0,0] ?_
 refine Wc.draw [1,2,0] [(2,7),(0,6),(2,6),(1,6)] T.mixed rfl ?_
 refine Gm.u 0 [] rfl (aL T.one203 rfl ‹_›) ?_
 refine Gm.r [[1,1]] ?_
 refine Gm.u 2 [] rfl (aL T.one68 rfl ‹_›) ?_
 refine Gm.o1 3 ?_
 refine aA 1 [0] ?_
 refine aO ?_
 refine Gm.at (α:=IV) 4 T.sl68 ?_
 refine Gm.le 5 T.agg125 ?_
 refine Gm.o1 6 ?_
 refine bN (fst:=[]) (cap:=[]) 20 rfl hgh rfl rfl hh (bO trivial) fun v1 G1 Ho1 hle1 hp=>?_
 obtain ⟨r1,rfl,hr1,rfl⟩:=hp
 refine Wl.o1 7 ?_
 refine aA 1 [2] ?_
 refine aZ ?_
 refine Ar.ga 2 [] ?_
 refine Ar.reH 0 (.cells #[.int .i64 (((k+1:Nat):Int) - 1)] 3) rfl (by rw [show (((k+1:Nat):Int) - 1)=(k:Int) - 1+1 by omega];rfl) ?_
 refine aT (.inr rfl) (Ho:=[(0,some bk,.cells #[.int .i64 (((k+1:Nat):Int) - 1)] 3)]) rfl (.agg 2 rfl rfl T.agg125) ⟨rfl,trivial⟩ ?_
 exact ⟨r1,rfl,hr1,rfl⟩
theorem c266 (G:Imm) (h:Nat) (a a':Option Addr) (c c':Nat) (l l':List IV) (F:Nat→Int) (hgh:dP Tryz.prog h) (ha:Arr G a l) (ha':Arr G a' l') (hlen:l.length=l'.length) (hl:l.length≤1048576)
 (hh:∀ k:Nat,k<l.length→∀ G',G.le G'→Does Tryz.prog h ([]++[.agg (Cells.enc (l[((k:Nat):Int).toNat]?.getD default)).toArray,.agg (Cells.enc (l'[((k:Nat):Int).toNat]?.getD default)).toArray]++[]) G' [] (fun v G'' Ho=>∃ r:IV,v=.agg (Cells.enc r).toArray∧Big G'' r (F k)∧Ho=[])) :
 Does Tryz.prog 266 [.slice a l.length c,.slice a' l'.length c',.func (.func h) #[] #[]] G [] (fun v G' Ho=>∃ (s:Option Addr) (r:List IV) (d:Nat),v=.tuple #[.slice s r.length d,.int .i64 0]∧Arr G' s r∧r.length≤d∧Bigs G' r (upP F l.length)∧Ho=[]):=by
 refine D0 Tryz.func266 Tryz.ntmps266 fun w=>?_
 refine Wc.gl 2 [] ?_
 refine Wl.x 0 fun b1=>?_
 refine Wl.x 1 fun b2=>?_
 refine Wl.gl 19 [0,0] ?_
 refine Wl.alloc 2 rfl T.zero3 fun b3=>?_
 refine Wl.gl 6 [2] ?_
 refine Wl.p (Qy.makeFunc rfl rfl) ?_
 refine Wl.freeze 1 rfl fun G1 hg1 hb1=>?_
 refine Wl.freeze 0 rfl fun G2 hg2 hb2=>?_
 replace hb1:=hg2 _ _ hb1
 have hG:=Imm.le_trans hg1 hg2
 replace ha:=ha.up hG
 replace ha':=ha'.up hG
 refine Wl.reH 2 (.cells #[.int .i64 (-1)] 3) rfl rfl ?_
 refine Wl.call 2 rfl T.fn265 rfl (c265S _ a c l 276 b3 [.pointer (some ⟨b3,0,none⟩),.pointer (some ⟨b2,0,none⟩),.pointer (some ⟨b1,0,none⟩)] F T.fn276 ha hl
  (fun k hk G' hG'=>c276 G' b3 b2 b1 h _ k a' c' l' (F k) hgh (ha'.up hG') (by omega) (by omega) (hG' _ _ hb1) (hG' _ _ hb2) (hh k hk G' (Imm.le_trans hG hG')))) (bO ⟨rfl,trivial⟩) (fun v1 G3 Ho1 hle1 hp=>?_)
 obtain ⟨s,r,d,rfl,hA,hd,hB,rfl⟩:=hp
 refine Wl.ga 5 [] ?_
 refine Ar.e2 ?_
 exact ⟨s,r,d,rfl,hA,hd,hB,rfl⟩
theorem c238 (G:Imm) (a a':Option Addr) (c c':Nat) (l l':List IV) (xs ys:List Int) (m:Nat) (ha:Arr G a l) (ha':Arr G a' l') (hb:Bigs G l xs) (hb':Bigs G l' ys) (hm:Below m xs) (hm':Below m ys) (hmm:m≤268435456) (hlen:l.length=l'.length) (hl:l.length≤1048576) :
 Does Tryz.prog 238 [.slice a l.length c,.slice a' l'.length c'] G [] (fun v G' Ho=>∃ (s:Option Addr) (r:List IV) (d:Nat),v=.tuple #[.slice s r.length d,.int .i64 0]∧Arr G' s r∧r.length≤d∧Bigs G' r (List.zipWith (·+·) xs ys)∧Ho=[]):=by
 have h181:=c266 G 138 a a' c c' l l' (fun k=>xs[k]?.getD 0+ys[k]?.getD 0) T.fn138 ha ha' hlen hl (fun k hk G' hG=>by
  have h1:=oP hb hm hk
  have h2:=oP hb' hm' (show k<l'.length by omega)
  exact c138 G' _ _ _ _ ((hb.2 k hk).up hG) ((hb'.2 k (by omega)).up hG) (by rw [Int.toNat_natCast];omega) (by rw [Int.toNat_natCast];omega))
 rw [hb.1,aGI xs ys (·+·) (by rw [←hb.1,←hb'.1,hlen]),←hb.1] at h181
 refine D0 Tryz.func238 Tryz.ntmps238 fun w=>?_
 refine Wc.gl 10 [] ?_
 refine Wl.k 0 rfl (h181) fun v1 G1 Ho1 hle1 hp=>?_
 obtain ⟨s1,r1,d1,rfl,hA1,hl81,hB1,rfl⟩:=hp
 replace ha:=ha.up hle1
 replace ha':=ha'.up hle1
 replace hb:=hb.up hle1
 replace hb':=hb'.up hle1
 refine Wl.ga 7 [] ?_
 refine Ar.e2 ?_
 exact ⟨_,_,_,rfl,hA1,hl81,hB1,rfl⟩
theorem c240 (G:Imm) (a a':Option Addr) (c c':Nat) (l l':List IV) (xs ys:List Int) (m:Nat) (ha:Arr G a l) (ha':Arr G a' l') (hb:Bigs G l xs) (hb':Bigs G l' ys) (hm:Below m xs) (hm':Below m ys) (hmm:m≤268435456) (hlen:l.length=l'.length) (hl:l.length≤1048576) :
 Does Tryz.prog 240 [.slice a l.length c,.slice a' l'.length c'] G [] (fun v G' Ho=>∃ (s:Option Addr) (r:List IV) (d:Nat),v=.tuple #[.slice s r.length d,.int .i64 0]∧Arr G' s r∧r.length≤d∧Bigs G' r (List.zipWith (· - ·) xs ys)∧Ho=[]):=by
 have h181:=c266 G 177 a a' c c' l l' (fun k=>xs[k]?.getD 0 - ys[k]?.getD 0) T.fn177 ha ha' hlen hl (fun k hk G' hG=>by
  have h1:=oP hb hm hk
  have h2:=oP hb' hm' (show k<l'.length by omega)
  exact c177 G' _ _ _ _ ((hb.2 k hk).up hG) ((hb'.2 k (by omega)).up hG) (by rw [Int.toNat_natCast];omega) (by rw [Int.toNat_natCast];omega))
 rw [hb.1,aGI xs ys (· - ·) (by rw [←hb.1,←hb'.1,hlen]),←hb.1] at h181
 refine D0 Tryz.func240 Tryz.ntmps240 fun w=>?_
 refine Wc.gl 10 [] ?_
 refine Wl.k 0 rfl (h181) fun v1 G1 Ho1 hle1 hp=>?_
 obtain ⟨s1,r1,d1,rfl,hA1,hl81,hB1,rfl⟩:=hp
 replace ha:=ha.up hle1
 replace ha':=ha'.up hle1
 replace hb:=hb.up hle1
 replace hb':=hb'.up hle1
 refine Wl.ga 7 [] ?_
 refine Ar.e2 ?_
 exact ⟨_,_,_,rfl,hA1,hl81,hB1,rfl⟩
theorem c241 (G:Imm) (a:Option Addr) (c:Nat) (l:List IV) (xs:List Int) (y:IV) (z:Int) (m:Nat) (ha:Arr G a l) (hb:Bigs G l xs) (hm:Below m xs) (hmm:m≤268435456) (hl:l.length≤1048576) (hy:Big G y z) (hyn:y.n≤268435456) :
 Does Tryz.prog 241 [.slice a l.length c,.agg (Cells.enc y).toArray] G [] (fun v G' Ho=>qD G' v (xs.map fun x=>z*x)∧Ho=[]):=by
 have hf:∀ k:Nat,k<l.length→∀ G',G.le G'→Does Tryz.prog 75 ([.agg (Cells.enc y).toArray]++[.agg (Cells.enc (l[((k:Nat):Int).toNat]?.getD default)).toArray]++[]) G' [] (fun v G'' Ho=>∃ r:IV,v=.agg (Cells.enc r).toArray∧Big G'' r (z*xs[k]?.getD 0)∧Ho=[]):=fun k hk G' hG=>by
  have h1:=oP hb hm hk
  exact c75 G' _ _ _ _ (hy.up hG) ((hb.2 k hk).up hG) (by omega) (by rw [Int.toNat_natCast];omega)
 have h180:=aRJ G a c l 75 [.agg (Cells.enc y).toArray] (fun k=>z*xs[k]?.getD 0) T.fn75 ha hl hf
 rw [hb.1,zI xs (fun x=>z*x),←hb.1] at h180
 refine D0 Tryz.func241 Tryz.ntmps241 fun w=>?_
 refine Wc.gl 2 [] ?_
 refine Wl.x 0 fun b1=>?_
 refine Wl.gl 7 [0] ?_
 refine Wl.p (Qy.makeFunc rfl rfl) ?_
 refine Wl.k 1 rfl (h180) fun v1 G1 Ho1 hle1 hp=>?_
 obtain ⟨s1,r1,d1,rfl,hA1,hl81,hB1,rfl⟩:=hp
 replace ha:=ha.up hle1
 replace hb:=hb.up hle1
 replace hy:=hy.up hle1
 refine Wl.ga 4 [] ?_
 refine Ar.e1 ?_
 exact ⟨⟨_,_,_,rfl,hA1,hl81,hB1⟩,rfl⟩
theorem aQH (xs:List Int) (z:Int):upP (fun k=>xs[k]?.getD 0 / z) xs.length=xs.map (· / z):=zI xs (· / z)
theorem c243 (G:Imm) (a:Option Addr) (c:Nat) (l:List IV) (xs:List Int) (y:IV) (z:Int) (m:Nat) (ha:Arr G a l) (hb:Bigs G l xs) (hm:Below m xs) (hmm:m≤268435456) (hl:l.length≤1048576) (hy:Big G y z) (hyn:y.n≤268435456) (hy0:z≠0) :
 Does Tryz.prog 243 [.slice a l.length c,.agg (Cells.enc y).toArray] G [] (fun v G' Ho=>((∀ i:Nat,i<xs.length→xs[i]?.getD 0 % z=0)→∃ (s:Option Addr) (r:List IV) (d:Nat),v=.tuple #[.slice s r.length d,.int .i64 0]∧Arr G' s r∧r.length≤d∧Bigs G' r (xs.map (· / z)))∧
  (¬(∀ i:Nat,i<xs.length→xs[i]?.getD 0 % z=0)→v=.tuple #[.slice none 0 0,.int .i64 20])∧Ho=[]):=by
 have hxl:=hb.1
 refine D0 Tryz.func243 Tryz.ntmps243 fun w=>?_
 refine bF 9 (Row 125 ([]:List IV) []) ?_
 have hz0:¬sgZ z=0:=fun h=>hy0 (uP.1 h)
 refine Wc.gl 2 [] ?_
 refine Wl.x 10 fun b1=>?_
 refine Wl.gl 8 [10] ?_
 refine Wl.k0 rfl (aBG _ y z hy (Nat.le_trans hyn (by decide))) ?_
 refine Wl.gc 20 [0] ?_
 refine cS (ι:=Nat×Imm×List IV×(Option Addr×Nat×List Value)) (fun (k,Gx,r,(o,d,j))=>([(17,.int .i64 (k:Int)),(6,.slice o r.length d),(16,.int .i64 (l.length:Int)),(15,.slice a (List.length l) c),(3,.pointer (some ⟨b1,0,none⟩))],[(9,o.map (·.block),Row 125 r j),(10,some b1,.cells (List.toArray (Cells.enc y)) 125)])) (fun (k,Gx,r,(o,d,j))=>Gx) (fun (k,Gx,r,(o,d,j))=>k≤l.length∧G.le Gx∧r.length=k∧Bigs Gx r (upP (fun k=>xs[k]?.getD 0 / z) k)∧OwnA o d r j∧(∀ i:Nat,i<k→xs[i]?.getD 0 % z=0)) (fun (k,Gx,r,(o,d,j))=>l.length - k) ((0,G,[],(none,0,[]))) (⟨Nat.zero_le _,Imm.le_refl _,rfl,⟨rfl,fun i h=>absurd h (by simp)⟩,OwnA.nil,fun i h=>absurd h (by omega)⟩) rfl ⟨rfl,rfl,rfl,rfl,rfl,trivial⟩ ⟨rfl,rfl,trivial⟩ fun ⟨k,Gx,r,(o,d,j)⟩=>fun hk=>?_
 obtain ⟨hk1,hk2,hk3,hk4,hk5,hk6⟩:=hk
 replace ha:=ha.up hk2
 replace hb:=hb.up hk2
 replace hy:=hy.up hk2
 rcases Nat.lt_or_ge k l.length with hkl | hkl
 · have hx:=hb.2 k hkl
   have hxn:(l[((k:Nat):Int).toNat]?.getD default).n≤268435456:=by rw [Int.toNat_natCast];exact Nat.le_trans (oP hb hm hkl) hmm
   have hx:Big Gx (l[((k:Nat):Int).toNat]?.getD default) (xs[k]?.getD 0):=by rw [Int.toNat_natCast];exact hx
   have hlt:((xs[k]?.getD 0 % z).natAbs:Int)<pb y.n:=by
    have e2:=aEE (x:=xs[k]?.getD 0) hy0
    have e3:=Big.lt hy
    omega
   refine Wc.gl 13 [1] ?_
   refine Wl.at (α:=IV) T.sl68 ?_
   refine Wl.le T.agg125 ?_
   refine Wl.alloc 11 rfl T.zero125 fun b2=>?_
   refine Wl.gl 7 [11,11,10] ?_
   refine Wl.k 12 rfl (c179 _ _ _ _ _ hx hy hxn hyn hy0) fun v1 G1 Ho1 hle1 hp=>?_
   obtain ⟨q1,r1,rfl,hq1,hr1,rfl⟩:=hp
   replace hk4:=hk4.up hle1
   replace ha:=ha.up hle1
   replace hb:=hb.up hle1
   replace hy:=hy.up hle1
   replace hx:=hx.up hle1
   refine aA 4 [] ?_
   refine Wl.alloc 12 rfl T.zero125 fun b3=>?_
   refine Wl.alloc 13 rfl T.zero125 fun b4=>?_
   refine Wl.gl 9 [12,13,13] ?_
   refine Wl.k0 rfl (aBG _ r1 (xs[k]?.getD 0 % z) hr1 (Nat.le_trans (Big.len hr1 hlt) (Nat.le_trans hyn (by decide)))) ?_
   refine Wl.gc 3 [] ?_
   refine Wc.i (fun hc1=>?_) fun hc1=>?_
   refine Wc.ga 13 [] ?_
   rotate_left
   refine Wc.gl 5 [12] ?_
   refine Wl.lit (α:=IV) 14 [(q1)] rfl T.sl68 T.el125 rfl rfl rfl rfl rfl fun b5=>?_
   refine Wl.ap (α:=IV) 9 T.sl68 T.el125 (Src.row 14 rfl) fun a1 c1 junk1 ho1=>?_
   refine Wl.ga 8 [] ?_
   rotate_left
   · refine Ar.e2 ?_
     have hno:¬(∀ i:Nat,i<xs.length→xs[i]?.getD 0 % z=0):=fun h=>hc1 (uP.2 (h k (by omega)))
     exact ⟨fun h=>absurd h hno,fun _=>rfl,rfl⟩
   have hdz:xs[k]?.getD 0 % z=0:=uP.1 (Classical.byContradiction fun h=>hc1 h)
   refine Ar.re 17 rfl (show _=Value.int .i64 ((k+1:Nat):Int) from rfl) ?_
   refine aH ((k+1,_,r++[q1],(a1,c1,junk1))) ?_ ?_
   · refine ⟨hkl,Imm.le_trans hk2 hle1,by rw [List.length_append,hk3];rfl,?_,ho1,fun i hi=>?_⟩
     · rw [uT];exact rR hk4 hq1
     rcases Nat.lt_or_ge i k with h | h
     · exact hk6 i h
     have e:i=k:=by omega
     rw [e];exact hdz
   show l.length - (k+1)<l.length - k
   omega
 have hkl:k=l.length:=by omega
 subst hkl
 refine Wc.ga 20 [0] ?_
 refine Ar.freezeRow 9 rfl hk5 fun G8 hle8 hA8=>?_
 refine Ar.e2 ?_
 rw [hxl] at hk6
 refine ⟨fun _=>⟨o,r,d,rfl,hA8,hk5.le,?_⟩,fun h=>absurd hk6 h,rfl⟩
 rw [←aQH,←hxl];exact hk4.up hle8
theorem c237 (G:Imm) (a a':Option Addr) (c c':Nat) (l l':List IV) (xs ys:List Int) (m:Nat) (ha:Arr G a l) (ha':Arr G a' l') (hb:Bigs G l xs) (hb':Bigs G l' ys) (hm:Below m xs) (hm':Below m ys) (hmm:m≤268435456) (hlen:l.length=l'.length) (hl:l.length≤1048576) :
 Does Tryz.prog 237 [.slice a l.length c,.slice a' l'.length c'] G [] (fun v G' Ho=>qD G' v (List.zipWith (·+·) xs ys)∧Ho=[]):=by
 refine D0 Tryz.func237 Tryz.ntmps237 fun w=>?_
 refine Wc.gl 9 [] ?_
 refine Wl.k 0 rfl (c238 _ a a' c c' l l' xs ys m ha ha' hb hb' hm hm' hmm hlen hl) fun v1 G1 Ho1 hle1 hp=>?_
 obtain ⟨s1,r1,d1,rfl,hA1,hl81,hB1,rfl⟩:=hp
 replace ha:=ha.up hle1
 replace ha':=ha'.up hle1
 replace hb:=hb.up hle1
 replace hb':=hb'.up hle1
 refine Wl.ga 14 [] ?_
 refine Ar.e1 ?_
 exact ⟨⟨_,_,_,rfl,hA1,hl81,hB1⟩,rfl⟩
theorem c239 (G:Imm) (a a':Option Addr) (c c':Nat) (l l':List IV) (xs ys:List Int) (m:Nat) (ha:Arr G a l) (ha':Arr G a' l') (hb:Bigs G l xs) (hb':Bigs G l' ys) (hm:Below m xs) (hm':Below m ys) (hmm:m≤268435456) (hlen:l.length=l'.length) (hl:l.length≤1048576) :
 Does Tryz.prog 239 [.slice a l.length c,.slice a' l'.length c'] G [] (fun v G' Ho=>qD G' v (List.zipWith (· - ·) xs ys)∧Ho=[]):=by
 refine D0 Tryz.func239 Tryz.ntmps239 fun w=>?_
 refine Wc.gl 9 [] ?_
 refine Wl.k 0 rfl (c240 _ a a' c c' l l' xs ys m ha ha' hb hb' hm hm' hmm hlen hl) fun v1 G1 Ho1 hle1 hp=>?_
 obtain ⟨s1,r1,d1,rfl,hA1,hl81,hB1,rfl⟩:=hp
 replace ha:=ha.up hle1
 replace ha':=ha'.up hle1
 replace hb:=hb.up hle1
 replace hb':=hb'.up hle1
 refine Wl.ga 14 [] ?_
 refine Ar.e1 ?_
 exact ⟨⟨_,_,_,rfl,hA1,hl81,hB1⟩,rfl⟩
theorem c242 (G:Imm) (a:Option Addr) (c:Nat) (l:List IV) (xs:List Int) (y:IV) (z:Int) (m:Nat) (ha:Arr G a l) (hb:Bigs G l xs) (hm:Below m xs) (hmm:m≤268435456) (hl:l.length≤1048576) (hy:Big G y z) (hyn:y.n≤268435456) (hy0:z≠0) :
 Does Tryz.prog 242 [.slice a l.length c,.agg (Cells.enc y).toArray] G [] (fun v G' Ho=>((∀ i:Nat,i<xs.length→xs[i]?.getD 0 % z=0)→∃ (s:Option Addr) (r:List IV) (d:Nat),v=.tuple #[.slice s r.length d,.bool true]∧Arr G' s r∧r.length≤d∧Bigs G' r (xs.map (· / z)))∧
  (¬(∀ i:Nat,i<xs.length→xs[i]?.getD 0 % z=0)→v=.tuple #[.slice none 0 0,.bool false])∧Ho=[]):=by
 have h:=c243 G a c l xs y z m ha hb hm hmm hl hy hyn hy0
 by_cases hd:∀ i:Nat,i<xs.length→xs[i]?.getD 0 % z=0
 · have h1:=h.mono fun v G' Ho _ ⟨p1,p2,p3⟩=>(⟨p1 hd,p3⟩:(∃ (s:Option Addr) (r:List IV) (d:Nat),v=Value.tuple #[.slice s r.length d,.int .i64 0]∧Arr G' s r∧r.length≤d∧Bigs G' r (xs.map (· / z)))∧Ho=[])
   refine D0 Tryz.func242 Tryz.ntmps242 fun w=>?_
   refine Wc.gl 2 [] ?_
   refine Wl.x 0 fun b1=>?_
   refine Wl.gl 8 [0] ?_
   refine Wl.k 1 rfl (h1) fun v1 G1 Ho1 hle1 hp=>?_
   obtain ⟨⟨s1,r1,d1,rfl,hA1,hl81,hB1⟩,rfl⟩:=hp
   replace ha:=ha.up hle1
   replace hb:=hb.up hle1
   replace hy:=hy.up hle1
   refine Wl.ga 17 [] ?_
   refine Ar.e2 ?_
   exact ⟨fun _=>⟨_,_,_,rfl,hA1,hl81,hB1⟩,fun h=>absurd hd h,rfl⟩
 have h1:=h.mono fun v G' Ho _ ⟨p1,p2,p3⟩=>(⟨p2 hd,p3⟩:v=Value.tuple #[.slice none 0 0,.int .i64 20]∧Ho=[])
 refine D0 Tryz.func242 Tryz.ntmps242 fun w=>?_
 refine Wc.gl 2 [] ?_
 refine Wl.x 0 fun b1=>?_
 refine Wl.gl 8 [0] ?_
 refine Wl.k 1 rfl (h1) fun v1 G1 Ho1 hle1 hp=>?_
 obtain ⟨rfl,rfl⟩:=hp
 replace ha:=ha.up hle1
 replace hb:=hb.up hle1
 replace hy:=hy.up hle1
 refine Wl.ga 17 [] ?_
 refine Ar.e2 ?_
 exact ⟨fun h=>absurd h hd,fun _=>rfl,rfl⟩
def aNA:Value:=.agg #[.func (.func 236) #[] #[],.func (.func 237) #[] #[],.func (.func 239) #[] #[],.func (.func 241) #[] #[],.func (.func 242) #[] #[]]
theorem c204 (G:Imm):Does Tryz.prog 204 [] G [] (fun v G' Ho=>v=aNA∧G'=G∧Ho=[]):=by
 refine D0 Tryz.func204 Tryz.ntmps204 fun w=>?_
 refine Wc.gl 2 [] ?_
 refine Wl.alloc 0 rfl T.zero281 fun b1=>?_
 refine Wl.gl 4 [] ?_
 refine Wl.p (Qy.build (cs:=[_,_,_,_,_]) T.st281 rfl rfl rfl) ?_
 refine Wl.ga 4 [0] ?_
 refine aT (.inr rfl) (Ho:=[]) rfl (.agg 0 rfl rfl T.agg281) trivial ?_
 exact ⟨rfl,rfl,rfl⟩
end
section
attribute [local irreducible] aB pb bL bK p2 cst
def EvenB (m N:Nat) (rs:List (List Int)):Prop:=∀ zs∈rs,zs.length=N∧Below m zs
theorem EvenB.at {m N:Nat} {rs:List (List Int)} (h:EvenB m N rs) {k:Nat} (hk:k<rs.length):(rs[k]?.getD []).length=N∧Below m (rs[k]?.getD []):=by
 rw [List.getElem?_eq_getElem hk];exact h _ (List.getElem_mem hk)
def zJ (i:Sl.Instr) (rs:List (List Int)) (H0:Hp) (v:Value) (G':Imm) (Ho:Hp):Prop:=
 ∃ s:SV,v=.tuple #[.slice s.a s.n s.c,.bool (decide (doI i rs≠none))]∧(∀ z,doI i rs=some z→BRow G' s z)∧Ho=H0
theorem iL {i:Sl.Instr} {rs:List (List Int)} {H0:Hp} {s:SV} {G':Imm} {z:List Int} (h:doI i rs=some z) (hx:BRow G' s z):zJ i rs H0 (.tuple #[.slice s.a s.n s.c,.bool true]) G' H0:=
 ⟨s,by rw [decide_eq_true (show doI i rs≠none from fun e=>by rw [e] at h;cases h)],fun z' h'=>by rw [h] at h';cases h';exact hx,rfl⟩
theorem aCE {i:Sl.Instr} {rs:List (List Int)} {H0:Hp} {G':Imm} (h:doI i rs=none):zJ i rs H0 (.tuple #[.slice none 0 0,.bool false]) G' H0:=
 ⟨⟨none,0,0⟩,by rw [decide_eq_false (show ¬doI i rs≠none from fun e=>e h)],(fun z hz=>by rw [h] at hz;cases hz),rfl⟩
theorem hD {G:Imm} {s:Option Addr} {r:List IV} {d:Nat} {zs:List Int} (hA:Arr G s r) (hd:r.length≤d) (hB:Bigs G r zs):BRow G ⟨s,r.length,d⟩ zs:=⟨r,rfl,hd,hA,hB⟩
theorem aNB (xs:List Int):(xs.map fun x=>-1*x)=xs.map fun x=>-x:=by
 congr 1;funext x;rw [Int.neg_mul,Int.one_mul]
theorem aNC (xs ys:List Int):List.zipWith (fun x y=>x+1*y) xs ys=List.zipWith (·+·) xs ys:=by
 congr 1;funext x y;rw [Int.one_mul]
theorem aND (xs ys:List Int):List.zipWith (fun x y=>x+(-1)*y) xs ys=List.zipWith (· - ·) xs ys:=by
 congr 1;funext x y;rw [Int.neg_mul,Int.one_mul];rfl
theorem c235 (G:Imm) (i:Sl.Instr) (o:Option Addr) (d:Nat) (r:List SV) (j:List Value) (rs:List (List Int)) (m N:Nat) (hob:OwnA o d r j) (hg:BGrid G r rs) (hm:EvenB m N rs) (hN:N≤1048576) (hm2:m≤268435456)
 (hop:1≤i.op∧i.op≤8) (ha:0≤i.a∧i.a<r.length) (hb:0≤i.b∧i.b<r.length)
 (hcst:i.op≠1→i.op≠2→i.op≠3→i.op≠4→cst i≠0∧((cst i).natAbs:Int)<pb 3)
 (hc1:i.op=5∨i.op=6→-9223372036854775808≤i.c∧i.c≤9223372036854775807) (hc2:¬(i.op=5∨i.op=6)→0≤i.c∧i.c≤64) :
 Does Tryz.prog 235 [aNA,.slice o r.length d,.agg (Cells.enc i).toArray] G [(0,o.map (·.block),Row 68 r j)] (fun v G' Ho=>zJ i rs [(0,o.map (·.block),Row 68 r j)] v G' Ho):=by
 have hca:=hob.le
 obtain ⟨la,a1,a2,a3,a4⟩:=hg.2 i.a.toNat (by omega)
 obtain ⟨lb,b1,b2,b3,b4⟩:=hg.2 i.b.toNat (by omega)
 have hrl:=hg.1
 obtain ⟨na,ma⟩:=hm.at (k:=i.a.toNat) (by omega)
 obtain ⟨nb,mb⟩:=hm.at (k:=i.b.toNat) (by omega)
 have hla:la.length≤1048576:=by rw [a4.1,na];exact hN
 have hlab:la.length=lb.length:=by rw [a4.1,b4.1,na,nb]
 refine D0 Tryz.func235 Tryz.ntmps235 fun w=>?_
 have h118:=c236 G _ (r[i.a.toNat]?.getD default).c la _ m a3 a4 ma hm2 hla
 have h119:=c237 G _ _ (r[i.a.toNat]?.getD default).c (r[i.b.toNat]?.getD default).c la lb _ _ m a3 b3 a4 b4 ma mb hm2 hlab hla
 have h121:=c239 G _ _ (r[i.a.toNat]?.getD default).c (r[i.b.toNat]?.getD default).c la lb _ _ m a3 b3 a4 b4 ma mb hm2 hlab hla
 rw [a1] at h118
 rw [a1,b1] at h119 h121
 have h123:∀ G1 y z,G.le G1→Big G1 y z→y.n≤268435456→Does Tryz.prog 241 [.slice (r[i.a.toNat]?.getD default).a (r[i.a.toNat]?.getD default).n (r[i.a.toNat]?.getD default).c,.agg (Cells.enc y).toArray] G1 [] (fun v G' Ho=>qD G' v ((rs[i.a.toNat]?.getD []).map fun x=>z*x)∧Ho=[]):=fun G1 y z hG hy hyn=>by
  have h:=c241 G1 _ (r[i.a.toNat]?.getD default).c la _ y z m (a3.up hG) (a4.up hG) ma hm2 hla hy hyn
  rw [a1] at h;exact h
 have h124:∀ G1 y z,G.le G1→Big G1 y z→y.n≤268435456→z≠0→Does Tryz.prog 242 [.slice (r[i.a.toNat]?.getD default).a (r[i.a.toNat]?.getD default).n (r[i.a.toNat]?.getD default).c,.agg (Cells.enc y).toArray] G1 [] (fun v G' Ho=>(dH z (rs[i.a.toNat]?.getD [])→∃ (s:Option Addr) (r':List IV) (d:Nat),v=.tuple #[.slice s r'.length d,.bool true]∧Arr G' s r'∧r'.length≤d∧Bigs G' r' ((rs[i.a.toNat]?.getD []).map (· / z)))∧
  (¬dH z (rs[i.a.toNat]?.getD [])→v=.tuple #[.slice none 0 0,.bool false])∧Ho=[]):=fun G1 y z hG hy hyn hz=>by
  have h:=c242 G1 _ (r[i.a.toNat]?.getD default).c la _ y z m (a3.up hG) (a4.up hG) ma hm2 hla hy hyn hz
  rw [a1] at h;exact h
 by_cases h2:i.op=2
 · refine Wc.gl 2 [] ?_
   refine Wl.x 1 fun b5=>?_
   refine Wl.x 2 fun b6=>?_
   refine Wl.gc 5 [] ?_
   refine aN [0,1,2] [] T.mixed [[0],[1],[2,2]] ?_
   refine eM (α:=SV) 3 T.sl237 ?_
   refine Gm.lo 4 0 0 T.one68 ?_
   refine Gm.r [[5],[6],[7,2]] ?_
   refine eM (α:=SV) 8 T.sl237 ?_
   refine Gm.lo 9 0 0 T.one68 ?_
   refine Gm.r [[10],[11]] ?_
   refine Gm.fin ?_
   refine Ar.gl 21 [2,1,1] ?_
   refine bN (fst:=[]) (cap:=[]) 3 rfl T.fn236 rfl rfl (h118) (bO trivial) fun v1 G1 Ho1 hle1 hp=>?_
   obtain ⟨⟨s1,r1,d1,rfl,hA1,hl81,hB1⟩,rfl⟩:=hp
   replace a3:=a3.up hle1
   replace a4:=a4.up hle1
   replace b3:=b3.up hle1
   replace b4:=b4.up hle1
   refine Wl.ga 7 [] ?_
   refine Ar.p2 [0] ?_
   exact iL (by unfold doI;simp only [h2,if_true];rw [aNB]) (hD hA1 hl81 hB1)
 by_cases h3:i.op=3
 · refine Wc.gl 2 [] ?_
   refine Wl.x 1 fun b5=>?_
   refine Wl.x 2 fun b6=>?_
   refine Wl.gc 5 [] ?_
   refine aN [0,1,2] [] T.mixed [[0],[1],[2,2]] ?_
   refine eM (α:=SV) 3 T.sl237 ?_
   refine Gm.lo 4 0 0 T.one68 ?_
   refine Gm.r [[5],[6],[7,2]] ?_
   refine eM (α:=SV) 8 T.sl237 ?_
   refine Gm.lo 9 0 0 T.one68 ?_
   refine Gm.r [[10],[11]] ?_
   refine Gm.fin ?_
   refine Ar.gl 29 [2,0,1,1] ?_
   refine bN (fst:=[]) (cap:=[]) 3 rfl T.fn237 rfl rfl (h119) (bO trivial) fun v1 G1 Ho1 hle1 hp=>?_
   obtain ⟨⟨s1,r1,d1,rfl,hA1,hl81,hB1⟩,rfl⟩:=hp
   replace a3:=a3.up hle1
   replace a4:=a4.up hle1
   replace b3:=b3.up hle1
   replace b4:=b4.up hle1
   refine Wl.ga 7 [] ?_
   refine Ar.p2 [0] ?_
   exact iL (by unfold doI;simp only [h3,if_true];rw [if_neg (by decide),aNC]) (hD hA1 hl81 hB1)
 by_cases h4:i.op=4
 · refine Wc.gl 2 [] ?_
   refine Wl.x 1 fun b5=>?_
   refine Wl.x 2 fun b6=>?_
   refine Wl.gc 5 [] ?_
   refine aN [0,1,2] [] T.mixed [[0],[1],[2,2]] ?_
   refine eM (α:=SV) 3 T.sl237 ?_
   refine Gm.lo 4 0 0 T.one68 ?_
   refine Gm.r [[5],[6],[7,2]] ?_
   refine eM (α:=SV) 8 T.sl237 ?_
   refine Gm.lo 9 0 0 T.one68 ?_
   refine Gm.r [[10],[11]] ?_
   refine Gm.fin ?_
   refine Ar.gl 36 [2,0,0,1,1] ?_
   refine bN (fst:=[]) (cap:=[]) 3 rfl T.fn239 rfl rfl (h121) (bO trivial) fun v1 G1 Ho1 hle1 hp=>?_
   obtain ⟨⟨s1,r1,d1,rfl,hA1,hl81,hB1⟩,rfl⟩:=hp
   replace a3:=a3.up hle1
   replace a4:=a4.up hle1
   replace b3:=b3.up hle1
   replace b4:=b4.up hle1
   refine Wl.ga 7 [] ?_
   refine Ar.p2 [0] ?_
   exact iL (by unfold doI;simp only [h4,if_true];rw [if_neg (by decide),if_neg (by decide),aND]) (hD hA1 hl81 hB1)
 by_cases h1:i.op=1
 · refine Wc.gl 2 [] ?_
   refine Wl.x 1 fun b5=>?_
   refine Wl.x 2 fun b6=>?_
   refine Wl.gc 5 [] ?_
   refine aN [0,1,2] [] T.mixed [[0],[1],[2,2]] ?_
   refine eM (α:=SV) 3 T.sl237 ?_
   refine Gm.lo 4 0 0 T.one68 ?_
   refine Gm.r [[5],[6],[7,2]] ?_
   refine eM (α:=SV) 8 T.sl237 ?_
   refine Gm.lo 9 0 0 T.one68 ?_
   refine Gm.r [[10],[11]] ?_
   refine Gm.fin ?_
   refine Ar.ga 69 [2,0,0,0,0,0,0,0] ?_
   refine Ar.p2 [0] ?_
   exact iL (by unfold doI;simp only [h1];rfl) ⟨la,a1,a2,a3,a4⟩
 obtain ⟨hk0,hk3⟩:=hcst h1 h2 h3 h4
 by_cases h5:i.op=5
 · have hc9:=hc1 (.inl h5)
   have e5:cst i=i.c:=aBN (.inl h5)
   rw [e5] at hk3
   refine Wc.gl 2 [] ?_
   refine Wl.x 1 fun b5=>?_
   refine Wl.x 2 fun b6=>?_
   refine Wl.gc 5 [] ?_
   refine aN [0,1,2] [] T.mixed [[0],[1],[2,2]] ?_
   refine eM (α:=SV) 3 T.sl237 ?_
   refine Gm.lo 4 0 0 T.one68 ?_
   refine Gm.r [[5],[6],[7,2]] ?_
   refine eM (α:=SV) 8 T.sl237 ?_
   refine Gm.lo 9 0 0 T.one68 ?_
   refine Gm.r [[10],[11]] ?_
   refine Gm.fin ?_
   refine Ar.gc 38 [2,0,0,0,1] ?_
   refine aN [0,1,2] [(2,6),(1,6),(0,6)] T.mixed [[0],[1,1],[2],[3]] ?_
   refine Gm.o1 4 ?_
   refine aA 1 [2] ?_
   refine Wl.o1 5 ?_
   refine Wl.k 3 rfl (c78 _ i.c hc9) fun v1 G1 Ho1 hle1 hp=>?_
   obtain ⟨rk,rfl,hrk,rfl⟩:=hp
   replace a3:=a3.up hle1
   replace a4:=a4.up hle1
   replace b3:=b3.up hle1
   replace b4:=b4.up hle1
   refine Wl.o1 6 ?_
   refine bN (fst:=[]) (cap:=[]) 3 rfl T.fn241 rfl rfl (h123 _ rk _ ‹_› hrk (Nat.le_trans (Big.len hrk hk3) (by decide))) (bO trivial) fun v2 G2 Ho2 hle2 hp=>?_
   obtain ⟨⟨s2,r2,d2,rfl,hA2,hl82,hB2⟩,rfl⟩:=hp
   replace hrk:=hrk.up hle2
   replace a3:=a3.up hle2
   replace a4:=a4.up hle2
   replace b3:=b3.up hle2
   replace b4:=b4.up hle2
   refine aO ?_
   refine Gm.r [[7],[8]] ?_
   refine Gm.fin ?_
   refine Ar.ga 4 [] ?_
   refine Ar.p2 [0] ?_
   all_goals exact iL (by unfold doI;simp only [h5,true_or,if_true];rw [if_neg (by decide),if_neg (by decide),if_neg (by decide),e5]) (hD ‹_› ‹_› ‹_›)
 by_cases h6:i.op=6
 · have hc9:=hc1 (.inr h6)
   have e5:cst i=i.c:=aBN (.inr h6)
   rw [e5] at hk3 hk0
   have h124Y:dH (i.c) (rs[i.a.toNat]?.getD [])→∀ G1 y,G.le G1→Big G1 y (i.c)→y.n≤268435456→Does Tryz.prog 242 [.slice (r[i.a.toNat]?.getD default).a (r[i.a.toNat]?.getD default).n (r[i.a.toNat]?.getD default).c,.agg (Cells.enc y).toArray] G1 [] (fun v G' Ho=>(∃ (s:Option Addr) (r':List IV) (d:Nat),v=.tuple #[.slice s r'.length d,.bool true]∧Arr G' s r'∧r'.length≤d∧Bigs G' r' ((rs[i.a.toNat]?.getD []).map (· / (i.c))))∧Ho=[]):=
    fun hd G1 y hG hy hyn=>(h124 G1 y _ hG hy hyn hk0).mono fun v G' Ho _ ⟨p1,p2,p3⟩=>⟨p1 hd,p3⟩
   have h124N:¬dH (i.c) (rs[i.a.toNat]?.getD [])→∀ G1 y,G.le G1→Big G1 y (i.c)→y.n≤268435456→Does Tryz.prog 242 [.slice (r[i.a.toNat]?.getD default).a (r[i.a.toNat]?.getD default).n (r[i.a.toNat]?.getD default).c,.agg (Cells.enc y).toArray] G1 [] (fun v G' Ho=>v=.tuple #[.slice none 0 0,.bool false]∧Ho=[]):=
    fun hd G1 y hG hy hyn=>(h124 G1 y _ hG hy hyn hk0).mono fun v G' Ho _ ⟨p1,p2,p3⟩=>⟨p2 hd,p3⟩
   by_cases hd:dH (i.c) (rs[i.a.toNat]?.getD [])
   · skip
     refine Wc.gl 2 [] ?_
     refine Wl.x 1 fun b5=>?_
     refine Wl.x 2 fun b6=>?_
     refine Wl.gc 5 [] ?_
     refine aN [0,1,2] [] T.mixed [[0],[1],[2,2]] ?_
     refine eM (α:=SV) 3 T.sl237 ?_
     refine Gm.lo 4 0 0 T.one68 ?_
     refine Gm.r [[5],[6],[7,2]] ?_
     refine eM (α:=SV) 8 T.sl237 ?_
     refine Gm.lo 9 0 0 T.one68 ?_
     refine Gm.r [[10],[11]] ?_
     refine Gm.fin ?_
     refine Ar.gc 52 [2,0,0,0,0,0,1] ?_
     refine aN [0,1,2] [(2,6),(1,6),(0,6)] T.mixed [[0],[1,1],[2],[3]] ?_
     refine Gm.o1 4 ?_
     refine aA 1 [2] ?_
     refine Wl.o1 5 ?_
     refine Wl.k 3 rfl (c78 _ i.c hc9) fun v1 G1 Ho1 hle1 hp=>?_
     obtain ⟨rk,rfl,hrk,rfl⟩:=hp
     replace a3:=a3.up hle1
     replace a4:=a4.up hle1
     replace b3:=b3.up hle1
     replace b4:=b4.up hle1
     refine Wl.o1 6 ?_
     refine bN (fst:=[]) (cap:=[]) 3 rfl T.fn242 rfl rfl (h124Y hd _ rk ‹_› hrk (Nat.le_trans (Big.len hrk hk3) (by decide))) (bO trivial) fun v2 G2 Ho2 hle2 hp=>?_
     obtain ⟨⟨s2,r2,d2,rfl,hA2,hl82,hB2⟩,rfl⟩:=hp
     replace hrk:=hrk.up hle2
     replace a3:=a3.up hle2
     replace a4:=a4.up hle2
     replace b3:=b3.up hle2
     replace b4:=b4.up hle2
     refine aO ?_
     refine Gm.r [[7],[8],[9],[10]] ?_
     refine Gm.fin ?_
     refine Ar.ga 4 [] ?_
     refine Ar.p2 [0] ?_
     all_goals exact iL (by unfold doI;simp only [h6,true_or,if_true];first | (rw [if_neg (by decide),if_neg (by decide),if_neg (by decide),if_neg (by decide),e5,if_pos hd]) | (rw [if_neg (by decide),if_neg (by decide),if_neg (by decide),if_neg (by decide)];exact (by rw [e5];exact if_pos hd))) (hD ‹_› ‹_› ‹_›)
   skip
   refine Wc.gl 2 [] ?_
   refine Wl.x 1 fun b5=>?_
   refine Wl.x 2 fun b6=>?_
   refine Wl.gc 5 [] ?_
   refine aN [0,1,2] [] T.mixed [[0],[1],[2,2]] ?_
   refine eM (α:=SV) 3 T.sl237 ?_
   refine Gm.lo 4 0 0 T.one68 ?_
   refine Gm.r [[5],[6],[7,2]] ?_
   refine eM (α:=SV) 8 T.sl237 ?_
   refine Gm.lo 9 0 0 T.one68 ?_
   refine Gm.r [[10],[11]] ?_
   refine Gm.fin ?_
   refine Ar.gc 52 [2,0,0,0,0,0,1] ?_
   refine aN [0,1,2] [(2,6),(1,6),(0,6)] T.mixed [[0],[1,1],[2],[3]] ?_
   refine Gm.o1 4 ?_
   refine aA 1 [2] ?_
   refine Wl.o1 5 ?_
   refine Wl.k 3 rfl (c78 _ i.c hc9) fun v1 G1 Ho1 hle1 hp=>?_
   obtain ⟨rk,rfl,hrk,rfl⟩:=hp
   replace a3:=a3.up hle1
   replace a4:=a4.up hle1
   replace b3:=b3.up hle1
   replace b4:=b4.up hle1
   refine Wl.o1 6 ?_
   refine bN (fst:=[]) (cap:=[]) 3 rfl T.fn242 rfl rfl (h124N hd _ rk ‹_› hrk (Nat.le_trans (Big.len hrk hk3) (by decide))) (bO trivial) fun v2 G2 Ho2 hle2 hp=>?_
   obtain ⟨rfl,rfl⟩:=hp
   replace hrk:=hrk.up hle2
   replace a3:=a3.up hle2
   replace a4:=a4.up hle2
   replace b3:=b3.up hle2
   replace b4:=b4.up hle2
   refine aO ?_
   refine Gm.r [[7],[8],[9],[10]] ?_
   refine Gm.fin ?_
   refine Ar.ga 4 [] ?_
   refine Ar.p2 [0] ?_
   all_goals exact aCE (by unfold doI;simp only [h6,true_or,if_true];rw [if_neg (by decide),if_neg (by decide),if_neg (by decide),if_neg (by decide),e5,if_neg hd])
 have hc64:=hc2 (fun h=>h.elim h5 h6)
 have e5:cst i=p2 i.c.toNat:=aLV (fun h=>h.elim h5 h6)
 rw [e5] at hk3 hk0
 by_cases h7:i.op=7
 · refine Wc.gl 2 [] ?_
   refine Wl.x 1 fun b5=>?_
   refine Wl.x 2 fun b6=>?_
   refine Wl.gc 5 [] ?_
   refine aN [0,1,2] [] T.mixed [[0],[1],[2,2]] ?_
   refine eM (α:=SV) 3 T.sl237 ?_
   refine Gm.lo 4 0 0 T.one68 ?_
   refine Gm.r [[5],[6],[7,2]] ?_
   refine eM (α:=SV) 8 T.sl237 ?_
   refine Gm.lo 9 0 0 T.one68 ?_
   refine Gm.r [[10],[11]] ?_
   refine Gm.fin ?_
   refine Ar.gc 45 [2,0,0,0,0,1] ?_
   refine aN [0,1,2] [(2,6),(1,6),(0,6)] T.mixed [[0],[1,1],[2],[3]] ?_
   refine Gm.o1 4 ?_
   refine aA 1 [2] ?_
   refine Wl.o1 5 ?_
   refine Wl.k 3 rfl (aMZ _ i.c hc64) fun v1 G1 Ho1 hle1 hp=>?_
   obtain ⟨rk,rfl,hrk,rfl⟩:=hp
   replace a3:=a3.up hle1
   replace a4:=a4.up hle1
   replace b3:=b3.up hle1
   replace b4:=b4.up hle1
   refine Wl.o1 6 ?_
   refine bN (fst:=[]) (cap:=[]) 3 rfl T.fn241 rfl rfl (h123 _ rk _ ‹_› hrk (Nat.le_trans (Big.len hrk hk3) (by decide))) (bO trivial) fun v2 G2 Ho2 hle2 hp=>?_
   obtain ⟨⟨s2,r2,d2,rfl,hA2,hl82,hB2⟩,rfl⟩:=hp
   replace hrk:=hrk.up hle2
   replace a3:=a3.up hle2
   replace a4:=a4.up hle2
   replace b3:=b3.up hle2
   replace b4:=b4.up hle2
   refine aO ?_
   refine Gm.r [[7],[8]] ?_
   refine Gm.fin ?_
   refine Ar.ga 4 [] ?_
   refine Ar.p2 [0] ?_
   all_goals exact iL (by unfold doI;simp only [h7,or_true,if_true];rw [if_neg (by decide),if_neg (by decide),if_neg (by decide),e5]) (hD ‹_› ‹_› ‹_›)
 have h8:i.op=8:=by omega
 have h124Y:dH (p2 i.c.toNat) (rs[i.a.toNat]?.getD [])→∀ G1 y,G.le G1→Big G1 y (p2 i.c.toNat)→y.n≤268435456→Does Tryz.prog 242 [.slice (r[i.a.toNat]?.getD default).a (r[i.a.toNat]?.getD default).n (r[i.a.toNat]?.getD default).c,.agg (Cells.enc y).toArray] G1 [] (fun v G' Ho=>(∃ (s:Option Addr) (r':List IV) (d:Nat),v=.tuple #[.slice s r'.length d,.bool true]∧Arr G' s r'∧r'.length≤d∧Bigs G' r' ((rs[i.a.toNat]?.getD []).map (· / (p2 i.c.toNat))))∧Ho=[]):=
  fun hd G1 y hG hy hyn=>(h124 G1 y _ hG hy hyn hk0).mono fun v G' Ho _ ⟨p1,p2,p3⟩=>⟨p1 hd,p3⟩
 have h124N:¬dH (p2 i.c.toNat) (rs[i.a.toNat]?.getD [])→∀ G1 y,G.le G1→Big G1 y (p2 i.c.toNat)→y.n≤268435456→Does Tryz.prog 242 [.slice (r[i.a.toNat]?.getD default).a (r[i.a.toNat]?.getD default).n (r[i.a.toNat]?.getD default).c,.agg (Cells.enc y).toArray] G1 [] (fun v G' Ho=>v=.tuple #[.slice none 0 0,.bool false]∧Ho=[]):=
  fun hd G1 y hG hy hyn=>(h124 G1 y _ hG hy hyn hk0).mono fun v G' Ho _ ⟨p1,p2,p3⟩=>⟨p2 hd,p3⟩
 by_cases hd:dH (p2 i.c.toNat) (rs[i.a.toNat]?.getD [])
 · skip
   refine Wc.gl 2 [] ?_
   refine Wl.x 1 fun b5=>?_
   refine Wl.x 2 fun b6=>?_
   refine Wl.gc 5 [] ?_
   refine aN [0,1,2] [] T.mixed [[0],[1],[2,2]] ?_
   refine eM (α:=SV) 3 T.sl237 ?_
   refine Gm.lo 4 0 0 T.one68 ?_
   refine Gm.r [[5],[6],[7,2]] ?_
   refine eM (α:=SV) 8 T.sl237 ?_
   refine Gm.lo 9 0 0 T.one68 ?_
   refine Gm.r [[10],[11]] ?_
   refine Gm.fin ?_
   refine Ar.gc 59 [2,0,0,0,0,0,0,1] ?_
   refine aN [0,1,2] [(2,6),(1,6),(0,6)] T.mixed [[0],[1,1],[2],[3]] ?_
   refine Gm.o1 4 ?_
   refine aA 1 [2] ?_
   refine Wl.o1 5 ?_
   refine Wl.k 3 rfl (aMZ _ i.c hc64) fun v1 G1 Ho1 hle1 hp=>?_
   obtain ⟨rk,rfl,hrk,rfl⟩:=hp
   replace a3:=a3.up hle1
   replace a4:=a4.up hle1
   replace b3:=b3.up hle1
   replace b4:=b4.up hle1
   refine Wl.o1 6 ?_
   refine bN (fst:=[]) (cap:=[]) 3 rfl T.fn242 rfl rfl (h124Y hd _ rk ‹_› hrk (Nat.le_trans (Big.len hrk hk3) (by decide))) (bO trivial) fun v2 G2 Ho2 hle2 hp=>?_
   obtain ⟨⟨s2,r2,d2,rfl,hA2,hl82,hB2⟩,rfl⟩:=hp
   replace hrk:=hrk.up hle2
   replace a3:=a3.up hle2
   replace a4:=a4.up hle2
   replace b3:=b3.up hle2
   replace b4:=b4.up hle2
   refine aO ?_
   refine Gm.r [[7],[8],[9],[10]] ?_
   refine Gm.fin ?_
   refine Ar.ga 4 [] ?_
   refine Ar.p2 [0] ?_
   all_goals exact iL (by unfold doI;simp only [h8,or_true,if_true];first | (rw [if_neg (by decide),if_neg (by decide),if_neg (by decide),if_neg (by decide),e5,if_pos hd]) | (rw [if_neg (by decide),if_neg (by decide),if_neg (by decide),if_neg (by decide)];exact (by rw [e5];exact if_pos hd))) (hD ‹_› ‹_› ‹_›)
 skip
 refine Wc.gl 2 [] ?_
 refine Wl.x 1 fun b5=>?_
 refine Wl.x 2 fun b6=>?_
 refine Wl.gc 5 [] ?_
 refine aN [0,1,2] [] T.mixed [[0],[1],[2,2]] ?_
 refine eM (α:=SV) 3 T.sl237 ?_
 refine Gm.lo 4 0 0 T.one68 ?_
 refine Gm.r [[5],[6],[7,2]] ?_
 refine eM (α:=SV) 8 T.sl237 ?_
 refine Gm.lo 9 0 0 T.one68 ?_
 refine Gm.r [[10],[11]] ?_
 refine Gm.fin ?_
 refine Ar.gc 59 [2,0,0,0,0,0,0,1] ?_
 refine aN [0,1,2] [(2,6),(1,6),(0,6)] T.mixed [[0],[1,1],[2],[3]] ?_
 refine Gm.o1 4 ?_
 refine aA 1 [2] ?_
 refine Wl.o1 5 ?_
 refine Wl.k 3 rfl (aMZ _ i.c hc64) fun v1 G1 Ho1 hle1 hp=>?_
 obtain ⟨rk,rfl,hrk,rfl⟩:=hp
 replace a3:=a3.up hle1
 replace a4:=a4.up hle1
 replace b3:=b3.up hle1
 replace b4:=b4.up hle1
 refine Wl.o1 6 ?_
 refine bN (fst:=[]) (cap:=[]) 3 rfl T.fn242 rfl rfl (h124N hd _ rk ‹_› hrk (Nat.le_trans (Big.len hrk hk3) (by decide))) (bO trivial) fun v2 G2 Ho2 hle2 hp=>?_
 obtain ⟨rfl,rfl⟩:=hp
 replace hrk:=hrk.up hle2
 replace a3:=a3.up hle2
 replace a4:=a4.up hle2
 replace b3:=b3.up hle2
 replace b4:=b4.up hle2
 refine aO ?_
 refine Gm.r [[7],[8],[9],[10]] ?_
 refine Gm.fin ?_
 refine Ar.ga 4 [] ?_
 refine Ar.p2 [0] ?_
 all_goals exact aCE (by unfold doI;simp only [h8,or_true,if_true];rw [if_neg (by decide),if_neg (by decide),if_neg (by decide),if_neg (by decide),e5,if_neg hd])
end
theorem aQI:pw 5≤pb 3:=by unfold pw pb;decide
theorem aIT {m k:Nat} {x y:Int} (hx:(x.natAbs:Int)<pb m) (hy:(y.natAbs:Int)<pb k):((x*y).natAbs:Int)<pb (m+k):=by
 rw [Int.natAbs_mul,Int.natCast_mul,aDT]
 have h1:=Int.mul_le_mul_of_nonneg_left (Int.le_of_lt hy) (show (0:Int)≤x.natAbs by omega)
 have h2:=Int.mul_lt_mul_of_pos_right hx (gG k)
 omega
theorem Below.mono {m k:Nat} {zs:List Int} (h:Below m zs) (hk:m≤k):Below k zs:=fun z hz=>Int.lt_of_lt_of_le (h z hz) (xN hk)
section
attribute [local irreducible] aB pb bL bK p2 cst
end
theorem oQ {m k:Nat} {xs:List Int} {f:Int→Int} (h:∀ x:Int,(x.natAbs:Int)<pb m→((f x).natAbs:Int)<pb k) (hx:Below m xs):Below k (xs.map f):=fun z hz=>by
 obtain ⟨x,h1,rfl⟩:=List.mem_map.1 hz
 exact h x (hx x h1)
theorem uU {m k:Nat} {xs ys:List Int} {f:Int→Int→Int} (h:∀ x y:Int,(x.natAbs:Int)<pb m→(y.natAbs:Int)<pb m→((f x y).natAbs:Int)<pb k) (hx:Below m xs) (hy:Below m ys):Below k (List.zipWith f xs ys):=fun z hz=>by
 rw [List.mem_iff_getElem] at hz
 obtain ⟨n,hn,rfl⟩:=hz
 rw [List.getElem_zipWith]
 exact h _ _ (hx _ (List.getElem_mem _)) (hy _ (List.getElem_mem _))
theorem aIU {i:Sl.Instr} {rs:List (List Int)} {m N:Nat} {x:List Int} (he:EvenB m N rs) (ha:0≤i.a∧i.a<rs.length) (hb:i.op=3∨i.op=4→0≤i.b∧i.b<rs.length)
 (hz:i.op=5∨i.op=7→((cst i).natAbs:Int)<pb 3) (h:doI i rs=some x):x.length=N∧Below (m+3) x:=by
 obtain ⟨haL,haB⟩:=he.at (k:=i.a.toNat) (by omega)
 have hp:=gG m
 have h4:4294967296*pb m≤pb (m+3):=by rw [←fP];exact xN (by omega)
 unfold doI at h
 simp only at h
 split at h
 · cases h
   exact ⟨by rw [List.length_map];exact haL,oQ (fun x hx=>by omega) haB⟩
 split at h
 · rename_i h3
   obtain ⟨hbL,hbB⟩:=he.at (k:=i.b.toNat) (by have:=hb (.inl h3);omega)
   cases h
   exact ⟨by rw [List.length_zipWith,haL,hbL,Nat.min_self],uU (fun x y hx hy=>by omega) haB hbB⟩
 split at h
 · rename_i h4
   obtain ⟨hbL,hbB⟩:=he.at (k:=i.b.toNat) (by have:=hb (.inr h4);omega)
   cases h
   exact ⟨by rw [List.length_zipWith,haL,hbL,Nat.min_self],uU (fun x y hx hy=>by omega) haB hbB⟩
 split at h
 · rename_i h57
   cases h
   exact ⟨by rw [List.length_map];exact haL,oQ (fun x hx=>by rw [Nat.add_comm];exact aIT (hz h57) hx) haB⟩
 split at h
 · split at h
   · cases h
     refine ⟨by rw [List.length_map];exact haL,oQ (fun x hx=>?_) haB⟩
     have h1:(x / cst i).natAbs≤x.natAbs:=Int.natAbs_ediv_le_natAbs _ _
     omega
   cases h
 cases h
 exact ⟨haL,haB.mono (by omega)⟩
theorem EvenB.mono {m k N:Nat} {rs:List (List Int)} (h:EvenB m N rs) (hk:m≤k):EvenB k N rs:=fun zs hz=>⟨(h zs hz).1,(h zs hz).2.mono hk⟩
theorem aIV {m N:Nat} {rs:List (List Int)} {x:List Int} (h:EvenB m N rs) (hx:x.length=N∧Below m x) (k:Nat):EvenB m N (rs.set k x):=fun zs hz=>by
 rcases List.mem_or_eq_of_mem_set hz with h1 | h1
 · exact h zs h1
 rw [h1];exact hx
theorem BGrid.set {G:Imm} {r:List SV} {rs:List (List Int)} (h:BGrid G r rs) {s:SV} {x:List Int} (hs:BRow G s x) (k:Nat):BGrid G (r.set k s) (rs.set k x):=by
 refine ⟨by rw [List.length_set,List.length_set];exact h.1,fun i hi=>?_⟩
 rw [List.length_set] at hi
 have hrl:=h.1
 rw [List.getElem?_set,List.getElem?_set]
 by_cases e:k=i
 · subst e
   rw [if_pos rfl,if_pos rfl,if_pos hi,if_pos (by omega)]
   exact hs
 rw [if_neg e,if_neg e]
 exact h.2 i hi
section
attribute [local irreducible] aB pb bL bK p2 cst doI
theorem c205 (G:Imm) (k:Int) (s:SV):Does Tryz.prog 205 [.int .i64 k,.slice s.a s.n s.c] G [] (fun v G' Ho=>v=.bool true∧G'=G∧Ho=[]):=by
 refine D0 Tryz.func205 Tryz.ntmps205 fun w=>?_
 refine Wc.ga 11 [] ?_
 refine Ar.e1 ?_
 exact ⟨rfl,rfl,rfl⟩
def aNE (p:PV) (gs:List (List Int)) (m N:Nat) (o:Option Addr) (d:Nat) (r:List SV) (j:List Value) (v:Value) (G':Imm) (Ho:Hp):Prop:=
 ∃ (r':List SV) (k:Int),v=.int .i64 k∧Ho=[(0,o.map (·.block),Row 68 r' j)]∧r'.length=r.length∧OwnA o d r' j∧
  ((∃ rs',iJ p gs p.code.length=some rs'∧k=-1∧BGrid G' r' rs'∧EvenB (m+3*p.code.length) N rs')∨(bP p gs=none∧0≤k))
theorem c203 (G:Imm) (p:PV) (gs:List (List Int)) (ac ao:Option Addr) (cc co:Nat) (o:Option Addr) (d:Nat) (r:List SV) (j:List Value) (m N:Nat) (hc:Arr G ac p.code) (hob:OwnA o d r j) (hg:BGrid G r (fY p gs)) (hm:EvenB m N (fY p gs)) (hN:N≤1048576)
 (hmm:m+3*p.code.length≤268435456) (hlen:p.code.length≤16384) (hr:(r.length:Int)=p.regs) (hrr:r.length≤128) (hmay:∀ i∈p.code,gP i p.regs=true) :
 Does Tryz.prog 203 [aNA,.agg #[.int .i64 p.ins,.int .i64 p.regs,.slice ac p.code.length cc,.slice ao p.outs.length co],.slice o r.length d,.func (.func 205) #[] #[]] G [(0,o.map (·.block),Row 68 r j)] (aNE p gs m N o d r j):=by
 refine D0 Tryz.func203 Tryz.ntmps203 fun w=>?_
 refine Wc.gl 2 [] ?_
 refine Wl.x 1 fun b1=>?_
 refine Wl.x 2 fun b2=>?_
 refine Wl.gc 3 [] ?_
 refine Wc.scope ?_
 refine Wc.gc 13 [2] ?_
 refine Wc.lg (ι:=Nat×Imm×List SV×List (List Int)) (fun (i,Gx,r2,rs)=>([(16,.int .i64 (i:Int)),(2,.slice o r2.length d),(15,.int .i64 (↑(List.length (PV.code p)):Int)),(14,.slice ac (List.length (PV.code p)) cc),(4,.pointer (some ⟨b1,0,none⟩)),(3,.func (Go.Fn.func 205) #[] #[])],[(0,o.map (·.block),Row 68 r2 j),(2,some b2,.cells #[.int .i64 (PV.ins p),.int .i64 (PV.regs p),.slice ac (List.length (PV.code p)) cc,.slice ao (List.length (PV.outs p)) co] 26),(1,some b1,.cells #[.func (Go.Fn.func 236) #[] #[],.func (Go.Fn.func 237) #[] #[],.func (Go.Fn.func 239) #[] #[],.func (Go.Fn.func 241) #[] #[],.func (Go.Fn.func 242) #[] #[]] 281)])) (fun (i,Gx,r2,rs)=>Gx) (fun (i,Gx,r2,rs)=>i≤p.code.length∧G.le Gx∧r2.length=r.length∧OwnA o d r2 j∧BGrid Gx r2 rs∧EvenB (m+3*i) N rs∧iJ p gs i=some rs) (fun (i,Gx,r2,rs)=>p.code.length - i) ((0,G,r,fY p gs)) (⟨Nat.zero_le _,Imm.le_refl _,rfl,hob,hg,hm,rfl⟩) fun ⟨i,Gx,r2,rs⟩=>fun hk=>?_
 obtain ⟨hi0,hgx,hr2,ho2,hg2,hb2,hrun⟩:=hk
 replace hc:=hc.up hgx
 have hrl:=hg2.1
 rcases Nat.lt_or_ge i p.code.length with hic | hic
 · have hmem:(p.code[((i:Nat):Int).toNat]?.getD default)∈p.code:=by
    rw [Int.toNat_natCast,List.getElem?_eq_getElem hic];exact List.getElem_mem hic
   have hmi:=hmay _ hmem
   obtain ⟨m1,m2,m3,m4,m5,m6,m7,m8⟩:=rI hmi
   have m9:(p.code[((i:Nat):Int).toNat]?.getD default).a<rs.length:=by omega
   have hbz:(p.code[((i:Nat):Int).toNat]?.getD default).op=3∨(p.code[((i:Nat):Int).toNat]?.getD default).op=4∨(p.code[((i:Nat):Int).toNat]?.getD default).b=0:=by
    unfold gP at hmi
    rw [Bool.and_eq_true,Bool.and_eq_true,decide_eq_true_eq] at hmi
    exact hmi.1.1.2.2.2.2
   have mb:0≤(p.code[((i:Nat):Int).toNat]?.getD default).b∧(p.code[((i:Nat):Int).toNat]?.getD default).b<r2.length:=by
    rcases hbz with h | h | h
    · have:=m4 (.inl h);omega
    · have:=m4 (.inr h);omega
    omega
   have mt:0≤(p.code[((i:Nat):Int).toNat]?.getD default).to∧(p.code[((i:Nat):Int).toNat]?.getD default).to<r2.length:=by omega
   have ma:0≤(p.code[((i:Nat):Int).toNat]?.getD default).a∧(p.code[((i:Nat):Int).toNat]?.getD default).a<r2.length:=by omega
   have hmi9:m+3*i≤268435456:=by omega
   have hk3:(p.code[((i:Nat):Int).toNat]?.getD default).op≠1→(p.code[((i:Nat):Int).toNat]?.getD default).op≠2→(p.code[((i:Nat):Int).toNat]?.getD default).op≠3→(p.code[((i:Nat):Int).toNat]?.getD default).op≠4→cst (p.code[((i:Nat):Int).toNat]?.getD default)≠0∧((cst (p.code[((i:Nat):Int).toNat]?.getD default)).natAbs:Int)<pb 3:=fun a b c d=>⟨(m6 a b c d).1,Int.lt_of_lt_of_le (m6 a b c d).2 aQI⟩
   refine Wc.gl 14 [1] ?_
   refine Wl.at (α:=Sl.Instr) T.sl23 ?_
   refine Wl.le T.agg91 ?_
   refine Wl.alloc 3 rfl T.zero91 fun b3=>?_
   refine Wl.gl 9 [3,1,3] ?_
   refine Wl.k 0 rfl (c235 _ (p.code[((i:Nat):Int).toNat]?.getD default) o d r2 j rs (m+3*i) N ho2 hg2 hb2 hN hmi9 m1 ma mb hk3 m7 m8) fun v1 G1 Ho1 hle1 hp=>?_
   obtain ⟨x,rfl,hx,rfl⟩:=hp
   replace hc:=hc.up hle1
   replace hg2:=hg2.up hle1
   by_cases hd:doI (p.code[((i:Nat):Int).toNat]?.getD default) rs=none
   · have hd2:¬doI (p.code[((i:Nat):Int).toNat]?.getD default) rs≠none:=fun h=>h hd
     refine Wl.gl 11 [] ?_
     refine Wl.p (aW rfl) ?_
     refine Wl.ga 16 [1] ?_
     refine iW ?_
     refine Ar.p1 [0] ?_
     exact ⟨r2,(i:Int),rfl,rfl,hr2,ho2,.inr ⟨uN hrun hd hic,by omega⟩⟩
   obtain ⟨z,hz⟩:=Option.ne_none_iff_exists'.1 hd
   have hxz:=hx z hz
   have hok:doI (p.code[((i:Nat):Int).toNat]?.getD default) rs≠none:=hd
   refine Wl.gl 11 [] ?_
   refine Wl.p (aW rfl) ?_
   refine Wl.gc 2 [] ?_
   refine Wc.i (fun hc1=>?_) fun hc1=>?_
   refine Wc.ga 13 [] ?_
   refine iW ?_
   refine Ar.p1 [0] ?_
   rotate_left
   refine Wc.gl 8 [3] ?_
   refine bR (α:=SV) T.sl237 ?_
   refine bG (z:=_) 0 T.size68 rfl rfl rfl ‹_› (by omega) rfl fun ho1=>?_
   refine Wl.gl 7 [] ?_
   refine bN (fst:=[]) (cap:=[]) 4 rfl T.fn205 rfl rfl (c205 _ _ _) (bO trivial) fun v2 G2 Ho2 hle2 hp=>?_
   obtain ⟨rfl,rfl,rfl⟩:=hp
   refine Wl.ga 11 [0] ?_
   rotate_left
   · exact absurd hok hc1
   refine Ar.re 2 rfl (show _=Value.slice o (r2.set (p.code[((i:Nat):Int).toNat]?.getD default).to.toNat x).length d by rw [List.length_set]) ?_
   refine aH ((i+1,_,r2.set (p.code[((i:Nat):Int).toNat]?.getD default).to.toNat x,rs.set (p.code[((i:Nat):Int).toNat]?.getD default).to.toNat z)) ?_ ?_
   · refine ⟨by omega,Imm.le_trans hgx hle1,by rw [List.length_set];exact hr2,by assumption,hg2.set hxz _,?_,oI (x:=rs) hrun hz⟩
     have hs:=aIU (i:=p.code[((i:Nat):Int).toNat]?.getD default) hb2 (by rw [←hrl];exact ma) (fun _=>by rw [←hrl];exact mb) (fun h=>(hk3 (fun e=>by rw [e] at h;omega) (fun e=>by rw [e] at h;omega) (fun e=>by rw [e] at h;omega) (fun e=>by rw [e] at h;omega)).2) hz
     rw [show m+3*(i+1)=m+3*i+3 by omega]
     exact aIV (hb2.mono (by omega)) hs _
   show p.code.length - (i+1)<p.code.length - i
   omega
 have hii:i=p.code.length:=by omega
 subst hii
 refine Wc.ga 18 [0] ?_
 refine iW ?_
 refine Ar.p1 [0] ?_
 exact ⟨r2,-1,rfl,rfl,hr2,ho2,.inl ⟨rs,hrun,rfl,hg2,hb2⟩⟩
end
theorem aCF (G:Imm) (p:PV) (ac ao:Option Addr) (cc co:Nat) (hc:Arr G ac p.code) (ho:Arr G ao p.outs) (h1:p.code.length≤1099511627776) (h2:p.outs.length≤1099511627776) (hR:aP p=true) :
 Does Tryz.prog 56 [.agg #[.int .i64 p.ins,.int .i64 p.regs,.slice ac p.code.length cc,.slice ao p.outs.length co]] G [] (fun v G' Ho=>v=.tuple #[.int .i64 (dM p).1,.int .i64 0]∧G'=G∧Ho=[]):=by
 have hf:(dM p).2=false:=by unfold aP at hR;simpa using hR
 have h:=c56 G p ac ao cc co hc ho h1 h2
 rw [hf] at h
 exact h
theorem aIW {x y:Int} (h:bL x y=0):x=y:=by
 unfold bL at h
 split at h
 · omega
 split at h <;> omega
theorem aIX {za zb:List Int} {i:Nat} (h:za.take i=zb.take i) (h1:i<za.length) (h2:i<zb.length) (he:za[i]?.getD 0=zb[i]?.getD 0):za.take (i+1)=zb.take (i+1):=by
 rw [List.getElem?_eq_getElem h1,List.getElem?_eq_getElem h2] at he
 rw [List.take_add_one,List.take_add_one,h,List.getElem?_eq_getElem h1,List.getElem?_eq_getElem h2]
 have e:za[i]=zb[i]:=he
 rw [e]
theorem aCG (m n:Nat):Below m (List.replicate n 0):=fun z hz=>by rw [List.eq_of_mem_replicate hz];exact gG m
section
attribute [local irreducible] aB pb bL bK p2 cst dM
theorem c129 (G:Imm) (p:PV) (ac ao:Option Addr) (cc co:Nat) (hc:Arr G ac p.code) (ho:Arr G ao p.outs) (h1:p.code.length≤1099511627776) (h2:p.outs.length≤1099511627776) (hR:aP p=true) (n:Int) (hn:n=p.ins) :
 Does Tryz.prog 129 [.agg #[.int .i64 p.ins,.int .i64 p.regs,.slice ac p.code.length cc,.slice ao p.outs.length co],.int .i64 n] G [] (fun v G' Ho=>v=.int .i64 0∧G'=G∧Ho=[]):=by
 refine D0 Tryz.func129 Tryz.ntmps129 fun w=>?_
 refine Wc.gl 2 [] ?_
 refine Wl.x 0 fun b1=>?_
 refine Wl.gl 6 [0] ?_
 refine Wl.k0 rfl (aCF _ p _ _ _ _ hc ho h1 h2 hR) ?_
 refine Wl.ga 36 [0,0,0] ?_
 refine Ar.e1 ?_
 exact ⟨rfl,rfl,rfl⟩
theorem c209 (G:Imm) (a b:Option Addr) (ca cb:Nat) (la lb:List IV) (za zb:List Int) (ha:Arr G a la) (hb:Arr G b lb) (hA:Bigs G la za) (hB:Bigs G lb zb) (h1:la.length≤1048576) (h2:lb.length≤1048576) (m:Nat) (hm:m≤268435456) (ba:Below m za) (bb:Below m zb) :
 Does Tryz.prog 209 [.slice a la.length ca,.slice b lb.length cb] G [] (fun v G' Ho=>∃ k:Int,v=.int .i64 k∧(k=0↔za=zb)∧G'=G∧Ho=[]):=by
 have e1:=hA.1
 have e2:=hB.1
 refine D0 Tryz.func209 Tryz.ntmps209 fun w=>?_
 by_cases hn:la.length=lb.length
 · refine Wc.gc 41 [0,0] ?_
   refine Wc.lp (ι:=Nat) (fun i=>([(22,.int .i64 (i:Int)),(21,.int .i64 (la.length:Int)),(20,.slice a (List.length la) ca),(1,.slice b (List.length lb) cb)],[])) (fun i=>i≤la.length∧za.take i=zb.take i) (fun i=>la.length - i) (0) (⟨Nat.zero_le _,rfl⟩) fun i=>fun hk=>?_
   obtain ⟨hi,hz⟩:=hk
   rcases Nat.lt_or_ge i la.length with hia | hia
   · have hx9:=hA.at (k:=(i:Int)) (by omega)
     have hy9:=hB.at (k:=(i:Int)) (by omega)
     have hx5:=Nat.le_trans (Big.len hx9 (ba.at _)) (Nat.le_trans hm (show 268435456≤1073741824 by decide))
     have hy5:=Nat.le_trans (Big.len hy9 (bb.at _)) (Nat.le_trans hm (show 268435456≤1073741824 by decide))
     refine Wc.gl 14 [1] ?_
     refine Wl.at (α:=IV) T.sl68 ?_
     refine Wl.le T.agg125 ?_
     refine Wl.alloc 0 rfl T.zero125 fun b1=>?_
     refine Wl.gc 5 [0] ?_
     refine aN [0] [] T.mixed [[0,0],[1],[2]] ?_
     refine Gm.at (α:=IV) 3 T.sl68 ?_
     refine Gm.le 4 T.agg125 ?_
     refine Gm.o1 5 ?_
     refine Wl.k0 rfl (c137 _ _ _ _ _ hx9 hy9 hx5 hy5) ?_
     refine aO ?_
     refine Gm.r [[6]] ?_
     refine Gm.fin ?_
     refine Ar.gc 7 [] ?_
     refine Wc.i (fun hc1=>?_) fun hc1=>?_
     refine Wc.ga 12 [] ?_
     refine Ar.e1 ?_
     rotate_left
     refine Wc.ga 7 [] ?_
     rotate_left
     · exact ⟨_,rfl,⟨fun h=>absurd h hc1,fun h=>absurd (nK (by rw [h])) hc1⟩,rfl,rfl⟩
     refine aH (i+1) ?_ ?_
     · exact ⟨by omega,aIX hz (by omega) (by omega) (aIW (Decidable.not_not.1 hc1))⟩
     omega
   have hii:i=la.length:=by omega
   subst hii
   refine Wc.ga 18 [0] ?_
   refine Ar.e1 ?_
   refine ⟨0,rfl,⟨fun _=>?_,fun _=>rfl⟩,rfl,rfl⟩
   rw [List.take_of_length_le (by omega),List.take_of_length_le (by omega)] at hz
   exact hz
 have hne:za≠zb:=fun h=>hn (by rw [e1,e2,h])
 by_cases hlt:la.length<lb.length
 · refine Wc.ga 26 [1] ?_
   refine Ar.e1 ?_
   exact ⟨-1,rfl,⟨fun h=>absurd h (by decide),fun h=>absurd h hne⟩,rfl,rfl⟩
 refine Wc.ga 37 [0,1] ?_
 refine Ar.e1 ?_
 exact ⟨1,rfl,⟨fun h=>absurd h (by decide),fun h=>absurd h hne⟩,rfl,rfl⟩
theorem c160 (G:Imm) (a b:Option Addr) (ca cb:Nat) (la lb:List IV) (za zb:List Int) (ha:Arr G a la) (hb:Arr G b lb) (hA:Bigs G la za) (hB:Bigs G lb zb) (h1:la.length≤1048576) (h2:lb.length≤1048576) (m:Nat) (hm:m≤268435456) (ba:Below m za) (bb:Below m zb) :
 Does Tryz.prog 160 [.slice a la.length ca,.slice b lb.length cb] G [] (fun v G' Ho=>v=.bool (decide (za=zb))∧G'=G∧Ho=[]):=by
 refine D0 Tryz.func160 Tryz.ntmps160 fun w=>?_
 refine Wc.gl 9 [] ?_
 refine Wl.k 0 rfl (c209 G _ _ _ _ _ _ za zb ha hb hA hB h1 h2 m hm ba bb) fun v1 G1 Ho1 hle1 hp=>?_
 obtain ⟨k1,rfl,hk1,rfl,rfl⟩:=hp
 refine Wl.ga 5 [] ?_
 refine Ar.e1 ?_
 exact ⟨by rw [decide_eq_decide.2 hk1],rfl,rfl⟩
end
theorem xW {G:Imm} {r:List SV} {rs:List (List Int)} {k:Nat} {s:SV} (h:∀ q:Nat,q<k→BRow G (r[q]?.getD default) (rs[q]?.getD [])) (hk:k<r.length) (hs:BRow G s (rs[k]?.getD [])):∀ q:Nat,q<k+1→BRow G ((r.set k s)[q]?.getD default) (rs[q]?.getD []):=fun q hq=>by
 rw [List.getElem?_set]
 by_cases he:k=q
 · subst he;rw [if_pos rfl,if_pos hk];exact hs
 rw [if_neg he];exact h q (by omega)
theorem aCH {G G':Imm} {r:List SV} {rs:List (List Int)} {k:Nat} (h:∀ q:Nat,q<k→BRow G (r[q]?.getD default) (rs[q]?.getD [])) (hl:G.le G'):∀ q:Nat,q<k→BRow G' (r[q]?.getD default) (rs[q]?.getD []):=fun q hq=>(h q hq).up hl
section
attribute [local irreducible] aB pb bL bK p2 cst doI
theorem c202 (G:Imm) (p:PV) (ac ao ga:Option Addr) (cc co gc:Nat) (gl:List SV) (gs:List (List Int)) (m N:Nat) (hc:Arr G ac p.code) (ho:Arr G ao p.outs) (hga:Arr G ga gl) (hgg:BGrid G gl gs) (hev:EvenB m N gs) (hN:N≤4096) (hR:aP p=true) (hgi:(gl.length:Int)=p.ins) :
 Does Tryz.prog 202 [.agg #[.int .i64 p.ins,.int .i64 p.regs,.slice ac p.code.length cc,.slice ao p.outs.length co],.slice ga gl.length gc] G [] (fun v G' Ho=>∃ b r,v=.tuple #[.slice (some ⟨b,0,none⟩) r.length p.regs.toNat,.int .i64 0]∧BGrid G' r (fY p gs)∧r.length=p.regs.toNat∧Ho=[(1,some b,Row 68 r [])]):=by
 obtain ⟨f1,f2,f3,f4,f5,f6,f7,f8⟩:=fX hR
 have h1:p.code.length≤1099511627776:=by omega
 have h2:p.outs.length≤1099511627776:=by omega
 have hgl:=hgg.1
 obtain ⟨R,hRR⟩:∃ R:Nat,p.regs=(R:Int):=⟨p.regs.toNat,by omega⟩
 refine D0 Tryz.func202 Tryz.ntmps202 fun w=>?_
 have hM:p.regs.toNat=R:=by omega
 have hrl0:=nN p gs
 rw [hM] at hrl0
 have hgl0:0<gl.length:=by omega
 obtain ⟨h0L,h0B⟩:=hev.at (k:=0) (by omega)
 obtain ⟨l0,e1,e2,e3,e4⟩:=hgg.2 0 (by omega)
 have h0n:(gl[(0:Int).toNat]?.getD default).n=N:=by
  show (gl[0]?.getD default).n=N
  rw [←e1,e4.1,h0L]
 refine Wc.gl 2 [] ?_
 refine Wl.x 0 fun b1=>?_
 refine Wl.gl 10 [0] ?_
 refine Wl.k0 rfl (c129 _ p _ _ _ _ ‹_› ‹_› h1 h2 hR _ hgi) ?_
 refine Wl.gl 15 [0] ?_
 refine Wl.at (α:=SV) T.sl237 ?_
 refine Wl.q rfl (aL T.one68 rfl (Arr.cell ‹_› (by omega) 0 rfl rfl)) ?_
 refine Wl.gl 8 [0] ?_
 refine Wl.make (α:=SV) 1 rfl T.sl237 T.el68 rfl rfl (by omega) (by omega) fun b2=>?_
 refine Wl.gc 12 [] ?_
 rw [hM]
 have hown:∀ r:List SV,r.length=R→OwnA (some ⟨b2,0,none⟩) R r []:=fun r hr=>.inr ⟨b2,rfl,by rw [hr];rfl,by omega,by simp only [maxLen];omega⟩
 refine Wc.re 8 rfl (show _=Value.slice (some ⟨b2,0,none⟩) (List.replicate R (default:SV)).length R by rw [List.length_replicate]) ?_
 refine Wc.re 7 rfl (show _=Value.int .i64 (N:Int) by rw [h0n]) ?_
 refine Wc.re 25 rfl (show _=Value.int .i64 (R:Int) by rw [List.length_replicate]) ?_
 refine Wc.lg (ι:=Nat×Imm×List SV) (fun (k,Gx,r)=>([(26,.int .i64 (k:Int)),(8,.slice (some ⟨b2,0,none⟩) r.length R),(25,.int .i64 (↑R:Int)),(7,.int .i64 (↑N:Int)),(1,.slice ga (List.length gl) gc)],[(1,some b2,Row 68 r []),(0,some b1,.cells #[.int .i64 (PV.ins p),.int .i64 (PV.regs p),.slice ac (List.length (PV.code p)) cc,.slice ao (List.length (PV.outs p)) co] 26)])) (fun (k,Gx,r)=>Gx) (fun (k,Gx,r)=>k≤R∧G.le Gx∧r.length=R∧∀ q:Nat,q<k→BRow Gx (r[q]?.getD default) ((fY p gs)[q]?.getD [])) (fun (k,Gx,r)=>R - k) ((0,G,List.replicate R (default:SV))) (⟨Nat.zero_le _,Imm.le_refl _,List.length_replicate,fun q hq=>by omega⟩) fun ⟨k,Gx,r⟩=>fun hk=>?_
 obtain ⟨hk0,hgx,hrR,hrow⟩:=hk
 replace hga:=hga.up hgx
 replace hgg:=hgg.up hgx
 have hor:=hown r hrR
 rcases Nat.lt_or_ge k R with hkR | hkR
 · by_cases hkg:k<gl.length
   · have hkn:(gl[((k:Nat):Int).toNat]?.getD default).n=N:=by
      obtain ⟨l1,a1,a2,a3,a4⟩:=hgg.2 k hkg
      rw [Int.toNat_natCast,←a1,a4.1]
      exact (hev.at (k:=k) (by omega)).1
     refine Wc.gl 22 [1] ?_
     refine Wl.make (α:=IV) 2 rfl T.sl68 T.el125 rfl rfl (by omega) (by omega) fun b3=>?_
     refine bR (α:=SV) T.sl237 ?_
     refine Wl.re 32 rfl (show _=Value.slice (some ⟨b3,0,none⟩) N N by rw [List.length_replicate];rfl) ?_
     refine Wl.reH 2 (Row 125 (List.replicate N (default:IV)) []) rfl rfl ?_
     refine bG (z:=(⟨some ⟨b3,0,none⟩,N,N⟩:SV)) (m:=((k:Nat):Int)) 1 T.size68 rfl rfl rfl hor (by omega) rfl fun ho1=>?_
     have hrk:((r.set k (⟨some ⟨b3,0,none⟩,N,N⟩:SV))[k]?.getD default)=⟨some ⟨b3,0,none⟩,N,N⟩:=by rw [List.getElem?_set,if_pos rfl,if_pos (by omega)];rfl
     have ho3:OwnA (some ⟨b3,0,none⟩) N (List.replicate N (default:IV)) []:=.inr ⟨b3,rfl,by rw [List.length_replicate];rfl,by rw [List.length_replicate];exact Nat.le_refl _,by simp only [maxLen];omega⟩
     rw [Int.toNat_natCast] at ho1 ⊢
     obtain ⟨r9,hr9⟩:∃ r9,r9=r.set k (⟨some ⟨b3,0,none⟩,N,N⟩:SV):=⟨_,rfl⟩
     have hr9l:r9.length=R:=by rw [hr9,List.length_set];exact hrR
     rw [←hr9] at ho1 hrk ⊢
     refine Wl.gl 16 [1] ?_
     refine Wl.at (α:=SV) T.sl237 ?_
     refine bM 0 T.one68 ?_
     refine aA 4 [] ?_
     refine dB 45 ?_
     refine Wl.gc 10 [0] ?_
     refine aN [0,2,1] [(1,8),(2,8)] T.mixed [[0],[1]] ?_
     refine eM (α:=SV) 2 T.sl237 ?_
     refine Gm.u 3 [0,1] rfl (pI 1 0 T.one68 rfl rfl ‹_› (by omega) rfl rfl) ?_
     refine Gm.r [[4],[5]] ?_
     refine Gm.at (α:=SV) 6 T.sl237 ?_
     refine gO 7 [0] 0 T.one68 ?_
     refine Gm.o1 8 ?_
     obtain ⟨l1,a1,a2,a3,a4⟩:=hgg.2 k hkg
     have hl1:l1.length=N:=by rw [a1];exact hkn
     refine Wl.re 52 rfl (show _=Value.slice (some ⟨b3,0,none⟩) (List.replicate N (default:IV)).length N by rw [Int.toNat_natCast,hrk,List.length_replicate]) ?_
     refine Wl.re 56 rfl (show _=Value.slice (gl[k]?.getD default).a l1.length (gl[k]?.getD default).c by rw [a1];rfl) ?_
     refine uK (α:=IV) 2 rfl T.sl68 rfl rfl rfl (nG a3) (by rw [hl1,List.length_replicate];exact Nat.le_refl _) ?_
     refine Wl.reH 2 (Row 125 l1 []) rfl (by rw [hl1,List.drop_replicate,Nat.sub_self,List.replicate_zero,List.append_nil]) ?_
     have ho4:OwnA (some ⟨b3,0,none⟩) N l1 []:=.inr ⟨b3,rfl,by rw [hl1];rfl,by rw [hl1];exact Nat.le_refl _,by simp only [maxLen];omega⟩
     refine aZ ?_
     refine Ar.ga 6 [] ?_
     refine Ar.freezeRow 2 rfl ho4 fun G1 hle1 hA1=>?_
     refine Ar.re 8 rfl (show _=Value.slice (some ⟨b2,0,none⟩) r9.length R by rw [hr9l,hrR]) ?_
     refine aH ((k+1,G1,r9)) ?_ ?_
     · have hs9:BRow G1 ⟨some ⟨b3,0,none⟩,N,N⟩ ((fY p gs)[k]?.getD []):=by
        rw [pV (by omega),if_pos (by omega)]
        exact ⟨l1,hl1,Nat.le_refl _,hA1,a4.up hle1⟩
       refine ⟨by omega,Imm.le_trans hgx hle1,hr9l,fun q hq=>?_⟩
       rw [hr9]
       exact xW (aCH hrow hle1) (by omega) hs9 q hq
     show R - (k+1)<R - k
     omega
   refine Wc.gl 22 [1] ?_
   refine Wl.make (α:=IV) 2 rfl T.sl68 T.el125 rfl rfl (by omega) (by omega) fun b3=>?_
   refine bR (α:=SV) T.sl237 ?_
   refine Wl.re 32 rfl (show _=Value.slice (some ⟨b3,0,none⟩) N N by rw [List.length_replicate];rfl) ?_
   refine Wl.reH 2 (Row 125 (List.replicate N (default:IV)) []) rfl rfl ?_
   refine bG (z:=(⟨some ⟨b3,0,none⟩,N,N⟩:SV)) (m:=((k:Nat):Int)) 1 T.size68 rfl rfl rfl hor (by omega) rfl fun ho1=>?_
   have hrk:((r.set k (⟨some ⟨b3,0,none⟩,N,N⟩:SV))[k]?.getD default)=⟨some ⟨b3,0,none⟩,N,N⟩:=by rw [List.getElem?_set,if_pos rfl,if_pos (by omega)];rfl
   have ho3:OwnA (some ⟨b3,0,none⟩) N (List.replicate N (default:IV)) []:=.inr ⟨b3,rfl,by rw [List.length_replicate];rfl,by rw [List.length_replicate];exact Nat.le_refl _,by simp only [maxLen];omega⟩
   rw [Int.toNat_natCast] at ho1 ⊢
   obtain ⟨r9,hr9⟩:∃ r9,r9=r.set k (⟨some ⟨b3,0,none⟩,N,N⟩:SV):=⟨_,rfl⟩
   have hr9l:r9.length=R:=by rw [hr9,List.length_set];exact hrR
   rw [←hr9] at ho1 hrk ⊢
   refine Wl.ga 18 [0] ?_
   refine Ar.freezeRow 2 rfl ho3 fun G1 hle1 hA1=>?_
   refine Ar.re 8 rfl (show _=Value.slice (some ⟨b2,0,none⟩) r9.length R by rw [hr9l,hrR]) ?_
   refine aH ((k+1,G1,r9)) ?_ ?_
   · have hs9:BRow G1 ⟨some ⟨b3,0,none⟩,N,N⟩ ((fY p gs)[k]?.getD []):=by
      rw [pV (by omega),if_neg (by omega),h0L]
      exact ⟨_,List.length_replicate,Nat.le_refl _,hA1,lT _ _⟩
     refine ⟨by omega,Imm.le_trans hgx hle1,hr9l,fun q hq=>?_⟩
     rw [hr9]
     exact xW (aCH hrow hle1) (by omega) hs9 q hq
   show R - (k+1)<R - k
   omega
 refine Wc.ga 20 [0] ?_
 refine bQ (.inr rfl) (Ho:=[(1,some b2,Row 68 r [])]) rfl (.tmp rfl) (.tmp rfl) ⟨rfl,trivial⟩ ?_
 exact ⟨b2,r,rfl,⟨by omega,fun i hi=>hrow i (by omega)⟩,hrR,rfl⟩
end
theorem aIY {G:Imm} {q:List SV} {os:List (List Int)} {i:Nat} {s:SV} (h:∀ t:Nat,t<i→BRow G (q[t]?.getD default) (os[t]?.getD [])) (hq:q.length=i) (hs:BRow G s (os[i]?.getD [])):∀ t:Nat,t<i+1→BRow G ((q++[s])[t]?.getD default) (os[t]?.getD []):=fun t ht=>by
 rcases Nat.lt_or_ge t i with h1 | h1
 · rw [List.getElem?_append_left (by omega)];exact h t h1
 have e:t=i:=by omega
 subst e
 rw [List.getElem?_append_right (by omega),hq,Nat.sub_self];exact hs
theorem aQJ {p:PV} {rs:List (List Int)} {i:Nat} (hi:i<p.outs.length):(dY p rs)[i]?.getD []=rs[(p.outs[((i:Nat):Int).toNat]?.getD default).toNat]?.getD []:=by
 unfold dY
 rw [List.getElem?_map,Int.toNat_natCast,List.getElem?_eq_getElem hi];rfl
section
attribute [local irreducible] aB pb bL bK p2 cst doI
theorem c206 (G:Imm) (a:Option Addr) (c:Nat) (l:List IV) (ha:Arr G a l) (hl:l.length≤1048576) :
 Does Tryz.prog 206 [.slice a l.length c] G [] (fun v G' Ho=>∃ s d,v=.slice s l.length d∧Arr G' s l∧l.length≤d∧Ho=[]):=by
 by_cases hne:a=none
 · have h0:l=[]:=by
    rcases ha.2 with h | ⟨b,o,h,_⟩
    · exact List.eq_nil_of_length_eq_zero h
    rw [hne] at h;cases h
   subst hne
   subst h0
   have hyes:(none:Option Addr)=none:=rfl
   refine D0 Tryz.func206 Tryz.ntmps206 fun w=>?_
   refine Wc.gl 9 [] ?_
   refine Wl.p (cQ T.sl68 rfl rfl) ?_
   refine Wl.ga 10 [1] ?_
   refine Ar.e1 ?_
   exact ⟨none,0,rfl,Arr.nil _,Nat.le_refl _,rfl⟩
 refine D0 Tryz.func206 Tryz.ntmps206 fun w=>?_
 refine Wc.gl 9 [] ?_
 refine Wl.p (cQ T.sl68 rfl rfl) ?_
 refine Wl.gl 7 [0] ?_
 refine sX 0 rfl T.sl68 fun b1=>?_
 refine aA 1 [] ?_
 refine Wl.reH 0 (Row 125 ([]:List IV) []) rfl rfl ?_
 refine Wl.append (α:=IV) (xs:=[]) (ys:=l) (junk:=[]) 0 rfl T.sl68 T.el125 rfl rfl rfl (.inr ⟨b1,rfl,rfl,Nat.le_refl _,Nat.zero_le _⟩) (nG ha) (by rw [List.length_nil];omega) (by rw [List.length_nil];simp only [maxLen];omega) fun a1 c1 junk1 ho1=>?_
 rw [List.nil_append] at ho1 ⊢
 have hc1:=ho1.le
 refine Wl.ga 4 [] ?_
 refine Ar.freezeRow 0 rfl ho1 fun G1 hle1 hA1=>?_
 refine Ar.e1 ?_
 exact ⟨a1,c1,rfl,hA1,hc1,rfl⟩
def aNF (p:PV) (gs:List (List Int)) (m N:Nat) (v:Value) (G':Imm) (Ho:Hp):Prop:=
 Ho=[]∧((∃ os b r c',bP p gs=some os∧v=.tuple #[.slice b (List.length r) c',.int .i64 0,.int .i64 0]∧Arr G' b r∧List.length r≤c'∧BGrid G' r os∧EvenB (m+3*p.code.length) N os)∨(bP p gs=none∧∃ k,v=.tuple #[.slice none 0 0,.int .i64 k,.int .i64 20]))
theorem c155 (G:Imm) (p:PV) (ac ao ga:Option Addr) (cc co gc:Nat) (gl:List SV) (gs:List (List Int)) (m N:Nat) (hc:Arr G ac p.code) (ho:Arr G ao p.outs) (hga:Arr G ga gl) (hgg:BGrid G gl gs) (hev:EvenB m N gs) (hmm:m≤1048576) (hN:N≤4096) (hR:aP p=true) (hgi:(gl.length:Int)=p.ins) :
 Does Tryz.prog 155 [.agg #[.int .i64 p.ins,.int .i64 p.regs,.slice ac p.code.length cc,.slice ao p.outs.length co],.slice ga gl.length gc] G [] (aNF p gs m N):=by
 obtain ⟨f1,f2,f3,f4,f5,f6,f7,f8⟩:=fX hR
 obtain ⟨R,hRR⟩:∃ R:Nat,p.regs=(R:Int):=⟨p.regs.toNat,by omega⟩
 refine D0 Tryz.func155 Tryz.ntmps155 fun w=>?_
 refine bF 0 (Row 68 ([]:List SV) []) ?_
 refine Wc.gl 2 [] ?_
 refine Wl.x 1 fun b1=>?_
 refine Wl.gl 9 [1] ?_
 refine Wl.k 2 rfl (c202 _ p ac ao ga cc co gc gl gs m N hc ho hga hgg hev hN hR hgi) fun v1 G1 Ho1 hle1 hp=>?_
 obtain ⟨b9,r0,rfl,hg0,hr0,rfl⟩:=hp
 replace hc:=hc.up hle1
 replace ho:=ho.up hle1
 have hrl0:=nN p gs
 have hm0:EvenB m N (fY p gs):=fun zs hz=>by
  unfold fY at hz
  obtain ⟨k,hk,rfl⟩:=List.mem_map.1 hz
  have hN9:=(hev.at (k:=0) (by have:=hgg.1;omega)).1
  split
  · exact hev.at (k:=k) (by omega)
  rw [hN9]
  exact ⟨List.length_replicate,aCG m _⟩
 refine Wl.gc 19 [0] ?_
 refine aN [0,1,3] [(3,3),(1,3),(0,3)] T.mixed [[1,1],[2]] ?_
 refine Gm.o1 0 ?_
 refine Wl.k0 rfl (c204 _) ?_
 refine Wl.o1 3 ?_
 refine Wl.k 3 rfl (c203 _ p gs ac ao cc co (some ⟨b9,0,none⟩) p.regs.toNat r0 [] m N hc (.inr ⟨b9,rfl,by rw [hr0];rfl,by omega,by simp only [maxLen];omega⟩) hg0 hm0 (by omega) (by omega) f4 (by omega) (by omega) f8) fun v9 G9 Ho9 hle9 hp=>?_
 obtain ⟨r9,k9,rfl,rfl,hr9,ho9,hcase⟩:=hp
 replace ho:=ho.up hle9
 rcases hcase with ⟨rs,hrs,rfl,hg9,he9⟩ | ⟨hno,hk9⟩
 · have hrs1:=hg9.1
   have lr9:r9.length=R:=by omega
   have hfol:bP p gs=some (dY p rs):=by unfold bP;rw [hrs];rfl
   refine aO ?_
   refine Gm.r [[4]] ?_
   refine Gm.fin ?_
   refine Ar.gc 25 [0,1] ?_
   refine Wc.re 7 rfl (show _=Value.slice (some ⟨b9,0,none⟩) r9.length p.regs.toNat by rw [hr9]) ?_
   refine cS (ι:=Nat×Imm×List SV×(Option Addr×Nat×List Value)) (fun (i,Gx,q,(o,d,j))=>([(32,.int .i64 (i:Int)),(10,.slice o q.length d),(7,.slice (some (Addr.mk b9 0 none)) (List.length r9) (Int.toNat (PV.regs p))),(31,.int .i64 (↑(List.length (PV.outs p)):Int)),(30,.slice ao (List.length (PV.outs p)) co),(6,.int .i64 0),(5,.int .i64 0),(4,.slice none 0 0)],[(0,o.map (·.block),Row 68 q j),(3,some b9,Row 68 r9 []),(1,some b1,.cells #[.int .i64 (PV.ins p),.int .i64 (PV.regs p),.slice ac (List.length (PV.code p)) cc,.slice ao (List.length (PV.outs p)) co] 26)])) (fun (i,Gx,q,(o,d,j))=>Gx) (fun (i,Gx,q,(o,d,j))=>i≤p.outs.length∧G9.le Gx∧q.length=i∧(∀ t:Nat,t<i→BRow Gx (q[t]?.getD default) ((dY p rs)[t]?.getD []))∧OwnA o d q j) (fun (i,Gx,q,(o,d,j))=>p.outs.length - i) ((0,G9,[],(none,0,[]))) (⟨Nat.zero_le _,Imm.le_refl _,rfl,fun t ht=>by omega,OwnA.nil⟩) rfl ⟨rfl,rfl,rfl,rfl,rfl,rfl,rfl,rfl,trivial⟩ ⟨rfl,rfl,rfl,trivial⟩ fun ⟨i,Gx,q,(o,d,j)⟩=>fun hk=>?_
   obtain ⟨hi0,hgx,hqi,hbq,hoq⟩:=hk
   replace ho:=ho.up hgx
   rcases Nat.lt_or_ge i p.outs.length with hio | hio
   · have hmem:p.outs[((i:Nat):Int).toNat]?.getD default∈p.outs:=by
      rw [Int.toNat_natCast,List.getElem?_eq_getElem hio];exact List.getElem_mem hio
     have hrg:=f7 _ hmem
     obtain ⟨l1,a1,a2,a3,a4⟩:=hg9.2 (p.outs[((i:Nat):Int).toNat]?.getD default).toNat (by omega)
     have hN1:=(he9.at (k:=(p.outs[((i:Nat):Int).toNat]?.getD default).toNat) (by omega)).1
     have hl1:l1.length=N:=by rw [a4.1,hN1]
     refine Wc.gl 13 [1] ?_
     refine Wl.at (α:=Int) T.sl24 ?_
     refine bM 0 T.one3 ?_
     refine Wl.gl 7 [] ?_
     refine bR (α:=SV) T.sl237 ?_
     refine Wl.lo 3 0 T.one68 ?_
     refine Wl.re 40 rfl (show _=Value.slice (r9[(p.outs[((i:Nat):Int).toNat]?.getD default).toNat]?.getD default).a l1.length (r9[(p.outs[((i:Nat):Int).toNat]?.getD default).toNat]?.getD default).c by rw [a1]) ?_
     refine Wl.k 20 rfl (c206 _ _ _ l1 (a3.up hgx) (by omega)) fun v1 G2 Ho1 hle2 hp=>?_
     obtain ⟨s2,d2,rfl,hA2,hd2,rfl⟩:=hp
     refine Wl.lit (α:=SV) 4 [⟨_,_,_⟩] rfl T.sl237 T.el68 rfl rfl rfl rfl rfl fun b2=>?_
     refine Wl.ap (α:=SV) 0 T.sl237 T.el68 (Src.row 4 rfl) fun a1 c1 junk1 ho1=>?_
     refine Wl.ga 8 [] ?_
     refine aH ((i+1,G2,q++[⟨s2,l1.length,d2⟩],(a1,c1,junk1))) ?_ ?_
     · refine ⟨by omega,Imm.le_trans hgx hle2,by rw [List.length_append,hqi];rfl,aIY (fun t ht=>(hbq t ht).up hle2) hqi ?_,ho1⟩
       rw [aQJ hio]
       exact ⟨l1,rfl,hd2,hA2,a4.up (Imm.le_trans hgx hle2)⟩
     show p.outs.length - (i+1)<p.outs.length - i
     omega
   have hii:i=p.outs.length:=by omega
   subst hii
   have hqd:=hoq.le
   refine Wc.ga 21 [0] ?_
   refine Ar.freezeRow 0 rfl hoq fun G8 hle8 hA=>?_
   refine lJ (.inr rfl) (Ho:=[]) rfl (.tmp rfl) (.tmp rfl) (.tmp rfl) trivial ?_
   have hol:(dY p rs).length=p.outs.length:=by unfold dY;rw [List.length_map]
   refine ⟨rfl,.inl ⟨dY p rs,o,q,d,hfol,rfl,hA,hqd,⟨by omega,fun t ht=>(hbq t (by omega)).up hle8⟩,fun zs hz=>?_⟩⟩
   unfold dY at hz
   obtain ⟨x,hx,rfl⟩:=List.mem_map.1 hz
   have hx7:=f7 x hx
   exact he9.at (k:=x.toNat) (by omega)
 refine aO ?_
 refine Gm.r [[4]] ?_
 refine Gm.fin ?_
 refine Ar.ga 18 [1] ?_
 refine lJ (.inr rfl) (Ho:=[]) rfl (.tmp rfl) (.tmp rfl) (.tmp rfl) trivial ?_
 exact ⟨rfl,.inr ⟨hno,k9,rfl⟩⟩
end
section
attribute [local irreducible] aB pb bL bK p2 cst doI
theorem c208 (G:Imm) (n:Nat) (hn:n≤4096) :
 Does Tryz.prog 208 [.int .i64 (n:Int)] G [] (fun v G' Ho=>∃ b,v=.tuple #[.slice (some ⟨b,0,none⟩) (List.replicate n (default:IV)).length n,.int .i64 0]∧G'=G∧Ho=[(0,some b,Row 125 (List.replicate n (default:IV)) [])]):=by
 refine D0 Tryz.func208 Tryz.ntmps208 fun w=>?_
 refine Wc.gl 12 [] ?_
 refine dB 6 ?_
 refine Wl.gl 13 [0] ?_
 refine Wl.make (α:=IV) 0 rfl T.sl68 T.el125 rfl rfl (by omega) (by omega) fun b1=>?_
 refine Wl.ga 5 [] ?_
 refine bQ (.inr rfl) (Ho:=[(0,some b1,Row 125 (List.replicate n (default:IV)) [])]) rfl (.tmp rfl) (.tmp rfl) ⟨rfl,trivial⟩ ?_
 exact ⟨b1,by simp,rfl,rfl⟩
theorem c159 (G:Imm) (n j:Nat) (hn:n≤4096) (hj:j<n) :
 Does Tryz.prog 159 [.int .i64 (n:Int),.int .i64 (j:Int)] G [] (fun v G' Ho=>∃ s l d,v=.tuple #[.slice s (List.length l) d,.int .i64 0]∧Arr G' s l∧List.length l=n∧n≤d∧Bigs G' l (cY n j)∧Ho=[]):=by
 refine D0 Tryz.func159 Tryz.ntmps159 fun w=>?_
 refine Wc.gl 9 [] ?_
 refine Wl.k 0 rfl (c208 _ n hn) fun v1 G1 Ho1 hle1 hp=>?_
 obtain ⟨b1,rfl,rfl,rfl⟩:=hp
 have ho3:OwnA (some ⟨b1,0,none⟩) n (List.replicate n (default:IV)) []:=.inr ⟨b1,rfl,by rw [List.length_replicate];rfl,by rw [List.length_replicate];exact Nat.le_refl _,by simp only [maxLen];omega⟩
 obtain ⟨r0,hr0⟩:∃ r0,r0=List.replicate n (default:IV):=⟨_,rfl⟩
 have lr0:r0.length=n:=by rw [hr0,List.length_replicate]
 rw [←hr0] at ho3 ⊢
 refine Wl.gl 22 [0] ?_
 refine dB 20 ?_
 refine Wl.gl 18 [0] ?_
 refine Wl.k 1 rfl (c78 _ _ (by decide)) fun v2 G2 Ho2 hle2 hp=>?_
 obtain ⟨ri2,rfl,hri2,rfl⟩:=hp
 refine bR (α:=IV) T.sl68 ?_
 refine bG (z:=ri2) (m:=((j:Nat):Int)) 0 T.size125 rfl rfl rfl ho3 (by omega) rfl fun ho1=>?_
 have hB:Bigs G2 (r0.set j ri2) (cY n j):=by
  rw [hr0];unfold cY
  exact (lT G2 n).set j hri2
 have hl9:(r0.set j ri2).length=n:=by rw [List.length_set];exact lr0
 rw [Int.toNat_natCast] at ho1 ⊢
 obtain ⟨r9,hr9⟩:∃ r9,r9=r0.set j ri2:=⟨_,rfl⟩
 rw [←hr9] at ho1 hB hl9 ⊢
 refine Wl.ga 10 [] ?_
 refine Ar.freezeRow 0 rfl ho1 fun G3 hle3 hA3=>?_
 refine Ar.re 4 rfl (show _=Value.slice (some ⟨b1,0,none⟩) r9.length n by rw [hl9,lr0]) ?_
 refine Ar.e2 ?_
 exact ⟨_,r9,n,rfl,hA3,hl9,Nat.le_refl _,hB.up hle3,rfl⟩
end
theorem zK:pb 2=pw 4:=by unfold pb pw;decide
theorem uV {N:Nat} {gs:List (List Int)} (h:Even 4 N gs):EvenB 2 N gs:=fun zs hz=>⟨(h zs hz).1,fun z hz'=>by rw [zK];exact (h zs hz).2 z hz'⟩
theorem aCI (n j:Nat):Below 2 (cY n j):=fun z hz=>by
 rw [zK];exact oN n j 4 (by omega) z hz
theorem aNG {os:List (List Int)} {n:Nat} (hl:os.length=n):(os=(List.range n).map (cY n))↔∀ t:Nat,t<n→os[t]?.getD []=cY n t:=by
 constructor
 · intro h t ht
   rw [h,List.getElem?_map,List.getElem?_range ht];rfl
 intro h
 refine List.ext_getElem? fun i=>?_
 rcases Nat.lt_or_ge i n with h1 | h1
 · have:=h i h1
   rw [List.getElem?_eq_getElem (by omega)] at this ⊢
   rw [List.getElem?_map,List.getElem?_range h1]
   show some os[i]=some (cY n i)
   rw [←this];rfl
 rw [List.getElem?_eq_none (by omega),List.getElem?_eq_none (by rw [List.length_map,List.length_range];omega)]
section
attribute [local irreducible] aB pb pw bL bK p2 cst doI bP dD aP cY
theorem c56P (G:Imm) (p:PV) (ac ao:Option Addr) (cc co:Nat) (hc:Arr G ac p.code) (ho:Arr G ao p.outs) (h1:p.code.length≤1099511627776) (h2:p.outs.length≤1099511627776) (hP:¬aP p=true) :
 Does Tryz.prog 56 [.agg #[.int .i64 p.ins,.int .i64 p.regs,.slice ac p.code.length cc,.slice ao p.outs.length co]] G [] (fun v G' Ho=>v=.tuple #[.int .i64 (dM p).1,.int .i64 80]∧G'=G∧Ho=[]):=by
 have hf:(dM p).2=true:=by unfold aP at hP;simpa using hP
 have h:=c56 G p ac ao cc co hc ho h1 h2
 rw [hf] at h
 exact h
theorem c111Y (G:Imm) (p:PV) (ac ao:Option Addr) (cc co:Nat) (a:Option Addr) (c:Nat) (l:List R2) (hc:Arr G ac p.code) (ho:Arr G ao p.outs) (hcl:p.code.length≤1099511627776) (hol:p.outs.length≤1099511627776) (ha:Arr G a l) (hac:l.length≤c) (hl:l.length≤1048576) (hR:fC l) (hP:aP p=true) :
 Does Tryz.prog 111 [.agg #[.int .i64 p.ins,.int .i64 p.regs,.slice ac p.code.length cc,.slice ao p.outs.length co],.slice a l.length c] G [] (fun v G' Ho=>v=.tuple #[.bool (decide (dF p l)),.int .i64 0]∧Ho=[]):=by
 have hl1:=hR.1
 have hl15:=hR.2.1
 have hev:=uV (uQ hl15 (fun i hi=>(hR.2.2.1 i hi).1))
 have hgl:=oM l
 obtain ⟨f1,f2,f3,f4,f5,f6,f7,f8⟩:=fX hP
 refine D0 Tryz.func111 Tryz.ntmps111 fun w=>?_
 by_cases hI:p.ins=l.length
 · by_cases hO:p.outs.length=l.length
   · refine Wc.gl 2 [] ?_
     refine Wl.x 0 fun b1=>?_
     refine Wl.gl 7 [] ?_
     refine Wl.k 1 rfl (aMP _ a c l ‹_› (by omega) hac hR hl15 hR.2.2.1) fun v1 G1 Ho1 hle1 hp=>?_
     obtain ⟨gs1,gr1,gc1,rfl,hga1,hgb1,hgc1,rfl⟩:=hp
     replace hc:=hc.up hle1
     replace ho:=ho.up hle1
     replace ha:=ha.up hle1
     refine Wl.gl 21 [0,0] ?_
     refine Wl.k0 rfl (aCF _ p _ _ _ _ ‹_› ‹_› hcl hol hP) ?_
     refine Wl.gl 24 [0,0] ?_
     refine dB 35 ?_
     refine Wl.gl 22 [0,0,0] ?_
     refine Wl.k 20 rfl (c155 _ p ac ao gs1 cc co gc1 gr1 (dD l) 2 l.length ‹_› ‹_› ‹_› ‹_› hev (by omega) (by omega) hP (by rw [hgb1.1,hgl,hI])) fun v9 G9 Ho9 hle9 hp=>?_
     obtain ⟨rfl,⟨os,ob,orr,oc,hfo,rfl,hoA,hol9,hoB,hoE⟩ | ⟨hno,k9,rfl⟩⟩:=hp
     · have hos:=gZ hfo
       have hoL:=hoB.1
       replace ha:=ha.up hle9
       have hiff:dF p l↔∀ t:Nat,t<l.length→os[t]?.getD []=cY l.length t:=by
        rw [←aNG (by omega)]
        unfold dF
        rw [hfo]
        exact ⟨fun h=>Option.some.inj h.2.2.2,fun h=>⟨hP,hI,hO,by rw [h]⟩⟩
       refine Wl.gc 28 [0] ?_
       refine Wc.lg (ι:=Nat×Imm) (fun (i,Gx)=>([(54,.int .i64 (i:Int)),(53,.int .i64 (orr.length:Int)),(52,.slice ob (List.length orr) oc),(1,.slice a (List.length l) c)],[(0,some b1,.cells #[.int .i64 (PV.ins p),.int .i64 (PV.regs p),.slice ac (List.length (PV.code p)) cc,.slice ao (List.length (PV.outs p)) co] 26)])) (fun (i,Gx)=>Gx) (fun (i,Gx)=>i≤l.length∧G9.le Gx∧∀ t:Nat,t<i→os[t]?.getD []=cY l.length t) (fun (i,Gx)=>l.length - i) ((0,G9)) (⟨Nat.zero_le _,Imm.le_refl _,fun t ht=>by omega⟩) fun ⟨i,Gx⟩=>fun hk=>?_
       obtain ⟨hi0,hgx,hall⟩:=hk
       replace hoA:=hoA.up hgx
       rcases Nat.lt_or_ge i l.length with hil | hil
       · obtain ⟨l1,a1,a2,a3,a4⟩:=(hoB.up hgx).2 i (by omega)
         have hE1:=hoE.at (k:=i) (by omega)
         refine Wc.gl 14 [1] ?_
         refine Wl.at (α:=SV) T.sl237 ?_
         refine bM 0 T.one68 ?_
         refine Wl.gl 9 [] ?_
         refine Wl.k 20 rfl (c159 _ l.length i (by omega) hil) fun v1 G2 Ho1 hle2 hp=>?_
         obtain ⟨s2,l2,d2,rfl,hA2,hl2,hd2,hB2,rfl⟩:=hp
         refine Wl.gl 11 [] ?_
         refine Wl.re 66 rfl (show _=Value.slice (orr[i]?.getD default).a l1.length (orr[i]?.getD default).c by rw [a1];rfl) ?_
         refine Wl.k 20 rfl (c160 _ _ _ _ _ l1 l2 (os[i]?.getD []) (cY l.length i) (a3.up hle2) hA2 (a4.up hle2) hB2 (by rw [a4.1,hE1.1];omega) (by omega) (2+3*p.code.length) (by omega) hE1.2 ((aCI _ _).mono (by omega))) fun v1 G3 Ho1 hle3 hp=>?_
         obtain ⟨rfl,rfl,rfl⟩:=hp
         by_cases he:os[i]?.getD []=cY l.length i
         · have he2:¬¬(os[i]?.getD []=cY l.length i):=fun h=>h he
           refine Wl.p (aW rfl) ?_
           refine Wl.ga 10 [0] ?_
           refine aH ((i+1,G3)) ?_ ?_
           · refine ⟨by omega,Imm.le_trans hgx hle2,fun t ht=>?_⟩
             rcases Nat.lt_or_ge t i with h1 | h1
             · exact hall t h1
             have e:t=i:=by omega
             rw [e];exact he
           show l.length - (i+1)<l.length - i
           omega
         have hnI:¬dF p l:=fun h=>he (hiff.1 h i hil)
         refine Wl.p (aW rfl) ?_
         refine Wl.ga 15 [1] ?_
         refine Ar.e2 ?_
         exact ⟨by rw [decide_eq_false hnI],rfl⟩
       have hyI:dF p l:=hiff.2 (fun t ht=>hall t (by omega))
       refine Wc.ga 19 [0] ?_
       refine Ar.e2 ?_
       exact ⟨by rw [decide_eq_true hyI],rfl⟩
     have hnI:¬dF p l:=fun h=>by have:=h.2.2.2;rw [hno] at this;cases this
     refine Wl.ga 25 [1] ?_
     refine Ar.e2 ?_
     exact ⟨by rw [decide_eq_false hnI],rfl⟩
   have hnI:¬dF p l:=fun h=>hO h.2.2.1
   refine Wc.gl 2 [] ?_
   refine Wl.x 0 fun b1=>?_
   refine Wl.gl 7 [] ?_
   refine Wl.k 1 rfl (aMP _ a c l ‹_› (by omega) hac hR hl15 hR.2.2.1) fun v1 G1 Ho1 hle1 hp=>?_
   obtain ⟨gs1,gr1,gc1,rfl,hga1,hgb1,hgc1,rfl⟩:=hp
   replace hc:=hc.up hle1
   replace ho:=ho.up hle1
   replace ha:=ha.up hle1
   refine Wl.gl 21 [0,0] ?_
   refine Wl.k0 rfl (aCF _ p _ _ _ _ ‹_› ‹_› hcl hol hP) ?_
   refine Wl.gl 24 [0,0] ?_
   refine dB 35 ?_
   refine Wl.ga 24 [0,1] ?_
   refine Ar.e2 ?_
   all_goals exact ⟨by rw [decide_eq_false hnI],rfl⟩
 have hnI:¬dF p l:=fun h=>hI h.2.1
 refine Wc.gl 2 [] ?_
 refine Wl.x 0 fun b1=>?_
 refine Wl.gl 7 [] ?_
 refine Wl.k 1 rfl (aMP _ a c l ‹_› (by omega) hac hR hl15 hR.2.2.1) fun v1 G1 Ho1 hle1 hp=>?_
 obtain ⟨gs1,gr1,gc1,rfl,hga1,hgb1,hgc1,rfl⟩:=hp
 replace hc:=hc.up hle1
 replace ho:=ho.up hle1
 replace ha:=ha.up hle1
 refine Wl.gl 21 [0,0] ?_
 refine Wl.k0 rfl (aCF _ p _ _ _ _ ‹_› ‹_› hcl hol hP) ?_
 refine Wl.gl 24 [0,0] ?_
 refine lZ 35 ?_
 refine Wl.ga 18 [1] ?_
 refine Ar.e2 ?_
 all_goals exact ⟨by rw [decide_eq_false hnI],rfl⟩
end
theorem aIZ {G:Imm} {n j:Nat} {x:IV} (hx:Big G x 1) (hj:j<n):Bigs G ((List.replicate n (default:IV)).set j x) (cY n j):=by
 unfold cY
 exact (lT G n).set j hx
section
attribute [local irreducible] aB aD pb pw bL bK p2 dQ dD bP aP cY cst doI
theorem c156 (G:Imm) (k:Nat) (hk15:k≤15):Does Tryz.prog 156 [.int .i64 (k:Int)] G [] (fun v G' Ho=>∃ (s:Option Addr) (r:List SV) (c':Nat),v=.slice s r.length c'∧Arr G' s r∧BGrid G' r (dE k)∧r.length≤c'∧Ho=[]):=by
 refine D0 Tryz.func156 Tryz.ntmps156 fun w=>?_
 refine bF 9 (Row 68 ([]:List SV) []) ?_
 refine Wc.gc 18 [] ?_
 refine cS (ι:=Nat×Imm×List SV×(Option Addr×Nat×List Value)) (fun (i,Gx,r,(o,d,j))=>([(7,.int .i64 (i:Int)),(3,.slice o r.length d),(6,.int .i64 (↑k:Int)),(2,.slice none 0 0),(0,.int .i64 (↑k:Int))],[(9,o.map (·.block),Row 68 r j)])) (fun (i,Gx,r,(o,d,j))=>Gx) (fun (i,Gx,r,(o,d,j))=>i≤k∧G.le Gx∧r.length=i∧BGrid Gx r ((dE k).take i)∧OwnA o d r j) (fun (i,Gx,r,(o,d,j))=>k - i) ((0,G,[],(none,0,[]))) (⟨Nat.zero_le _,Imm.le_refl _,rfl,by rw [List.take_zero];exact BGrid.nil _,OwnA.nil⟩) rfl ⟨rfl,rfl,rfl,rfl,rfl,trivial⟩ ⟨rfl,trivial⟩ fun ⟨i,Gx,r,(o,d,j)⟩=>fun hk=>?_
 obtain ⟨hi1,hi2,hi3,hi4,hi5⟩:=hk
 rcases Nat.lt_or_ge i k with hil | hil
 · refine Wc.gl 20 [1] ?_
   refine Wl.make (α:=IV) 10 rfl T.sl68 T.el125 rfl rfl (by omega) (by omega) fun b1=>?_
   refine Wl.gl 7 [] ?_
   refine Wl.k 11 rfl (c78 _ 1 (by decide)) fun v1 G1 Ho1 hle1 hp=>?_
   obtain ⟨ro1,rfl,hro1,rfl⟩:=hp
   have ho2:OwnA (some ⟨b1,0,none⟩) (List.replicate ((k:Int)).toNat (default:IV)).length (List.replicate ((k:Int)).toNat (default:IV)) []:=dV (by rw [List.length_replicate];simp only [maxLen];omega)
   refine Wl.p (eR (α:=IV) T.sl68 rfl rfl ho2 (by rw [List.length_replicate];omega)) ?_
   refine bG (α:=IV) (z:=ro1) (m:=((i:Nat):Int)) 10 T.size125 rfl rfl rfl ho2 (by rw [List.length_replicate];omega) rfl fun ho3=>?_
   refine Wl.freezeRow 10 rfl ho3 fun G3 hle3 hA3=>?_
   refine Wl.gl 5 [] ?_
   refine Wl.lit (α:=SV) 11 [⟨_,_,_⟩] rfl T.sl237 T.el68 rfl rfl rfl rfl rfl fun b2=>?_
   refine Wl.ap (α:=SV) 9 T.sl237 T.el68 (Src.row 11 rfl) fun a1 c1 junk1 ho1=>?_
   refine Wl.ga 8 [] ?_
   refine Ar.re 7 rfl (show _=Value.int .i64 ((i+1:Nat):Int) from rfl) ?_
   refine aH ((i+1,_,r++[⟨some ⟨b1,0,none⟩,(List.replicate ((k:Int)).toNat (default:IV)).length,(List.replicate ((k:Int)).toNat (default:IV)).length⟩],(a1,c1,junk1))) ?_ ?_
   · refine ⟨by omega,Imm.le_trans hi2 (Imm.le_trans hle1 hle3),by rw [List.length_append,hi3];rfl,?_,ho1⟩
     have e:(dE k).take (i+1)=(dE k).take i++[cY k i]:=by
      rw [List.take_add_one]
      congr 1
      unfold dE
      rw [List.getElem?_map,List.getElem?_range hil];rfl
     rw [e]
     exact BGrid.snoc (hi4.up (Imm.le_trans hle1 hle3)) ⟨_,by rw [List.length_set],Nat.le_refl _,hA3,(aIZ hro1 hil).up hle3⟩
   show k - (i+1)<k - i
   omega
 have hie:i=k:=by omega
 subst hie
 have e:(dE i).take i=dE i:=List.take_of_length_le (by rw [jN];exact Nat.le_refl _)
 rw [e] at hi4
 refine Wc.ga 19 [0] ?_
 refine Ar.freezeRow 9 rfl hi5 fun G8 hle8 hA8=>?_
 refine Ar.e1 ?_
 exact ⟨_,_,_,rfl,hA8,hi4.up hle8,hi5.le,rfl⟩
end
theorem c33F (G:Imm) (a:Option Addr) (c:Nat) (l:List R2) (ha:Arr G a l) (hl:l.length≤1048576) :
 Does Tryz.prog 33 [.slice a l.length c] G [] (fun v G' Ho=>∃ s d,v=.slice s l.length d∧Arr G' s l∧l.length≤d∧Ho=[]):=by
 refine D0 Tryz.func33 Tryz.ntmps33 fun w=>?_
 by_cases hne:a=none
 · subst hne
   have hl0:l=[]:=by
    rcases ha.2 with h0 | ⟨_,_,h,_⟩
    · exact List.length_eq_zero_iff.mp h0
    cases h
   subst hl0
   refine bF 0 (Row 52 ([]:List R2) []) ?_
   refine Wc.gl 9 [] ?_
   refine Wl.p (cQ T.sl22 rfl rfl) ?_
   refine Wl.gc 2 [] ?_
   refine Wc.i (fun hc1=>?_) fun hc1=>?_
   refine Wc.ga 7 [] ?_
   rotate_left
   refine Wc.gl 4 [] ?_
   refine sX 1 rfl T.sl22 fun b1=>?_
   refine aA 1 [] ?_
   rotate_left
   refine Ar.e1 ?_
   · exact ⟨none,0,rfl,⟨rfl,.inl rfl⟩,Nat.le_refl _,rfl⟩
   exact absurd rfl hc1
 refine Wc.gl 9 [] ?_
 refine Wl.p (cQ T.sl22 rfl rfl) ?_
 refine Wl.gl 7 [0] ?_
 refine sX 0 rfl T.sl22 fun b1=>?_
 refine aA 1 [] ?_
 refine Wl.reH 0 (Row 52 ([]:List R2) []) rfl rfl ?_
 refine Wl.append (α:=R2) (xs:=[]) (ys:=l) (junk:=[]) 0 rfl T.sl22 T.el52 rfl rfl rfl (.inr ⟨b1,rfl,rfl,Nat.le_refl _,Nat.zero_le _⟩) (nG ha) (by rw [List.length_nil];omega) (by rw [List.length_nil];simp only [maxLen];omega) fun a1 c1 junk1 ho1=>?_
 rw [List.nil_append] at ho1 ⊢
 refine Wl.ga 4 [] ?_
 refine Ar.freezeRow 0 rfl ho1 fun G1 hle1 harr1=>?_
 refine Ar.e1 ?_
 exact ⟨a1,c1,rfl,harr1,ho1.le,rfl⟩
end Go.Proofs.YtfdcckcadfhpeaaGreatDoor
end
