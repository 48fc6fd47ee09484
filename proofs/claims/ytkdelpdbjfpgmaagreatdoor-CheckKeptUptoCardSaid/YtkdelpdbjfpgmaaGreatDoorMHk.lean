/- uP of the proof (part 11): what the rows' text needs of the texts that lead to it. -/
import Derived.Test.YtkdelpdbjfpgmaaGreatDoorMHj
set_option linter.unusedVariables false
set_option linter.unusedSimpArgs false
set_option linter.unusedSectionVars false
set_option maxHeartbeats 4000000
set_option maxRecDepth 100000
namespace Go.Proofs.YtkdelpdbjfpgmaaGreatDoor
open Go Go.Sl
def nd (i:Sl.Instr):Prop:=¬(i.op=6∨i.op=8)
theorem QZ {l:List Sl.Instr} (h:∀ i∈l,nd i) (k:Nat):nd (l[k]?.getD default):=by
 rcases aK k l.length with hk | hk
 · rw [aA hk];exact h _ (bT hk)
 rw [bZ hk];show ¬((0:Int)=6∨(0:Int)=8);decide
theorem CA {i:Sl.Instr} (h:nd i):nd (tV i):=by
 unfold nd at h;unfold tV
 repeat' split
 all_goals unfold nd
 all_goals simp only [not_or] at h ⊢
 all_goals first | exact h | (constructor <;> decide) | omega
theorem YY {f c s d:Int} (h1:¬(f=6∨f=8)) (h2:¬(s=6∨s=8)):¬((vJ f c s d).1=6∨(vJ f c s d).1=8):=by
 unfold vJ
 repeat' split
 all_goals (try simp only)
 all_goals omega
theorem VM {a b:Sl.Instr} (ha:nd a) (hb:nd b) (h:(uI a b).2=true):nd (uI a b).1:=by
 unfold uI at h ⊢;split at h
 · cases h
 rename_i h0;rw [aD h0];split at h
 · rename_i h1;rw [aF h1];exact CA (YY ha hb)
 cases h
theorem VN {p:PV} (h:yK p):yK (zY p):=fun i hi =>
 Rg (q:=nd) (fun a b ha hb h=>VM ha hb h) (fun i h=>CA h) p.code h i (sI.1 hi)
theorem VO {p:PV} (h:yK p):yK (xW p):=by
 have aux:∀ k,∀ i∈(tR p k).2,nd i:=by
  intro k;induction k with
  | zero=>intro i hi;cases hi
  | succ k ih =>
    intro i hi;have hk:=QZ h (k:Int).toNat;unfold tR tI at hi;simp only at hi;split at hi
    · exact ih i hi
    rcases iA.1 hi with hi | hi
    · exact ih i hi
    rw [eT.1 hi];split
    · show ¬((1:Int)=6∨(1:Int)=8);decide
    unfold askedP
    repeat' split
    all_goals exact hk
 exact aux _
theorem VP {p:PV} (h:yK p):yK (Aj p):=by
 have aux:∀ k,∀ i∈vT p k,nd i:=by
  intro k;induction k with
  | zero=>intro i hi;cases hi
  | succ k ih =>
    intro i hi;unfold vT at hi;split at hi
    · rcases iA.1 hi with hi | hi
      · exact ih i hi
      rw [eT.1 hi];exact QZ h _
    exact ih i hi
 exact aux _
theorem CB {p:PV} (h:yK p):yK (sU p):=by
 have aux:∀ k,∀ i∈(sZ p k).code,nd i:=by
  intro k;induction k with
  | zero=>intro i hi;cases hi
  | succ k ih =>
    intro i hi;unfold sZ at hi;split at hi
    · unfold Im at hi;simp only at hi;rcases iA.1 hi with hi | hi
      · exact ih i hi
      rw [eT.1 hi];exact QZ h (k:Int).toNat
    exact ih i hi
 exact aux _
theorem Mn {p:PV} (h:yK p):∀ k,yK (vL p k)
 | 0=>h
 | k+1=>by
   show yK (vD k (vL p k));unfold vD;split
   · exact VN (Mn h k)
   split
   · exact VO (Mn h k)
   exact VP (Mn h k)
theorem VQ {p:PV} (h:yK p):yK (lastP p):=CB (Mn h _)
theorem xL {p:PV} (hR:sP p=true):sP (lastP p)=true∧(lastP p).ins=p.ins∧(lastP p).outs.length=p.outs.length∧(lastP p).code.length≤p.code.length∧
 ∀ (gs os:List (List Int)) (N:Nat),(gs.length:Int)=p.ins→Flat N gs→tE p gs=some os→tE (lastP p) gs=some os:=by
 have h:=Ip hR (xK p);unfold lastP;generalize sU (vL p (zA p))=q at h ⊢;exact h
theorem Rx (k:Nat):Flat k (vM k):=fun r hr=>by
 unfold vM at hr;obtain ⟨i,hi,rfl⟩:=dL.1 hr;exact At k i
theorem Vc (l:List R2):Flat l.length (xF l):=fun r hr=>by
 unfold xF at hr;obtain ⟨q,hq,rfl⟩:=dL.1 hr;exact Js _ _ _
theorem Vd {p:PV} {k:Nat} {l:List R2} (hR:sP p=true) (h:uV p k l):uV (lastP p) k l:=by
 obtain ⟨h1,h2,h3,h4⟩:=h;obtain ⟨g1,g2,g3,g4,g5⟩:=xL hR;rw [aE] at h4;refine ⟨by rw [g2,h1],by rw [g3,h2],VQ h3,?_⟩;rw [aE];exact g5 _ _ k (by rw [yD,h1]) (Rx k) h4
theorem CC {p:PV} {l:List R2} (h:uE p l):uE (lastP p) l:=by
 obtain ⟨h0,h1,h2,h3⟩:=h;obtain ⟨g1,g2,g3,g4,g5⟩:=xL h0;exact ⟨g1,by rw [g2,h1],by rw [g3,h2],g5 _ _ l.length (by rw [Dl,h1]) (Vc l) h3⟩
theorem RA {n1 n2:Nat} {l:List R2} (hW:tF (n1:Int) (n2:Int) l=0):tS n1 n2 l (evP n1 l) (evP n2 l) (madeP l (idx l.length))=(0,0):=by
 obtain ⟨hP1,hP2,hL,hRL⟩:=uS hW;have hn1:1≤n1∧n1≤8:=by have:=hP1.1;have:=hP1.2;omega
 have hn2:1≤n2∧n2≤8:=by have:=hP2.1;have:=hP2.2;omega
 exact Jv hW (wR hRL hn1) (Fw (Ce hRL hn1)) (wR hRL hn2) (Fw (Ce hRL hn2)) (Bt hRL) (Nh hRL (Cz l.length))
theorem Hq {n1 n2:Nat} {l:List R2} (hW:tF (n1:Int) (n2:Int) l=0):tS n1 n2 l (lastP (evP n1 l)) (lastP (evP n2 l)) (lastP (madeP l (idx l.length)))=(0,0):=by
 obtain ⟨hP1,hP2,hL,hRL⟩:=uS hW;have hn1:1≤n1∧n1≤8:=by have:=hP1.1;have:=hP1.2;omega
 have hn2:1≤n2∧n2≤8:=by have:=hP2.1;have:=hP2.2;omega
 exact Jv hW (xL (wR hRL hn1)).1 (Vd (wR hRL hn1) (Fw (Ce hRL hn1))) (xL (wR hRL hn2)).1 (Vd (wR hRL hn2) (Fw (Ce hRL hn2))) (xL (Bt hRL)).1 (CC (Nh hRL (Cz l.length)))
theorem mo (G:A3) (a b:Option Addr) (c d:Nat) (l:List R2) (hx:Arr G a l) (hy:Arr G b l) (hl:l.length≤1048576) :
 Does Tryz.prog 22 [.slice a l.length c,.slice b l.length d] G [] (fun v G' Ho=>v=.bool (decide (1=1))∧G'=G∧Ho=[]):=by
 refine D0 Tryz.func22 Tryz.ntmps22 fun w=>?_;refine bI 27 [0] ?_;refine gX (ι:=Nat) (fun i=>([(13,.int .i64 (i:Int)),(12,Go.Value.int Go.IntKind.i64 (↑(List.length l):Int)),(0,Go.Value.slice a (List.length l) c),(1,Go.Value.slice b (List.length l) d)],[])) (fun i=>i≤l.length) (fun i=>l.length - i) (0) (aM _) fun i=>fun (hk:i≤l.length)=>?_;refine bI 6 [] ?_;refine cW (fun hc1=>?_) fun hc1=>?_;refine bI 11 [] ?_;refine dE [] [] T.mixed [[0],[1]] ?_;refine mL (α:=R2) 2 T.sl22 ?_;refine rL 3 T.agg52 ?_;refine dK [[4],[5]] ?_;refine mL (α:=R2) 6 T.sl22 ?_;refine rL 7 T.agg52 ?_;refine dW 8 [] U (Vr [_,_] [_,_] T.ai52 U U U U) ?_;refine iN sR F9 wJ ?_;refine cN ?_;refine cW (fun hc2=>?_) fun hc2=>?_;refine bE 11 [] ?_;refine cV ?_;rotate_left;refine bE 7 [] ?_;rotate_left;refine bE 11 [] ?_;refine cV ?_;rotate_left
 · exact absurd U hc2
 · refine cK (i+1) ?_ ?_
   · show i+1≤l.length;omega
   show l.length - (i+1)<l.length - i;omega
 exact ⟨U,U,U⟩
theorem mq (G:A3) (k1 k2:Int) (pl:List R2) (pa:Option Addr) (pc:Nat) (x y z:PV) (xac xao yac yao zac zao:Option Addr) (xcc xoc ycc yoc zcc zoc:Nat) (hpa:Arr G pa pl) (hk1:1≤k1∧k1≤8) (hk2:1≤k2∧k2≤8) (hpl:pl.length≤15) (hin:∀ i:Nat,i<pl.length→near (pl[i]?.getD default).a (pl[i]?.getD default).b)
 (hxc:Arr G xac x.code) (hxo:Arr G xao x.outs) (hRx:sP x=true) (hyc:Arr G yac y.code) (hyo:Arr G yao y.outs) (hRy:sP y=true) (hzc:Arr G zac z.code) (hzo:Arr G zao z.outs) (hRz:sP z=true) :
 Does Tryz.prog 36 [.agg #[.int .i64 k1,.int .i64 k2,.slice pa pl.length pc,.int .i64 x.ins,.int .i64 x.regs,.slice xac x.code.length xcc,.slice xao x.outs.length xoc,.int .i64 y.ins,.int .i64 y.regs,.slice yac y.code.length ycc,.slice yao y.outs.length yoc,.int .i64 z.ins,.int .i64 z.regs,.slice zac z.code.length zcc,.slice zao z.outs.length zoc]] G [] (fun v G' Ho=>v=.int .i64 0∧G'=G∧Ho=[]):=by
 obtain ⟨x1,x2,x3,x4,x5,x6,x7,x8⟩:=sT hRx;obtain ⟨y1,y2,y3,y4,y5,y6,y7,y8⟩:=sT hRy;obtain ⟨z1,z2,z3,z4,z5,z6,z7,z8⟩:=sT hRz;refine D0 Tryz.func36 Tryz.ntmps36 fun w=>?_;refine aI 2 [] ?_;refine dV 0 fun b1=>?_;refine aL 10 [0] ?_;refine mZ 12 ?_;refine aC 8 [0] ?_;refine mZ 17 ?_;refine aC 8 [0] ?_;refine mZ 22 ?_;refine aC 8 [0] ?_;refine mZ 27 ?_;refine bB 24 [0,0,0] ?_;refine gX (ι:=Nat) (fun i=>([(36,.int .i64 (i:Int)),(1,.pointer (some ⟨b1,0,none⟩)),(35,Go.Value.int Go.IntKind.i64 (↑(List.length pl):Int)),(34,Go.Value.slice pa (List.length pl) pc)],[(0,some b1,.cells #[.int .i64 k1,.int .i64 k2,.slice pa pl.length pc,.int .i64 x.ins,.int .i64 x.regs,.slice xac x.code.length xcc,.slice xao x.outs.length xoc,.int .i64 y.ins,.int .i64 y.regs,.slice yac y.code.length ycc,.slice yao y.outs.length yoc,.int .i64 z.ins,.int .i64 z.regs,.slice zac z.code.length zcc,.slice zao z.outs.length zoc] 28)])) (fun i=>i≤pl.length) (fun i=>pl.length - i) (0) (aM _) fun i=>fun (hk:i≤pl.length)=>?_;refine bI 6 [] ?_;refine cW (fun hc1=>?_) fun hc1=>?_;refine aI 6 [] ?_;refine fR (α:=R2) T.sl22 ?_;refine lL T.agg52 ?_;refine aO 1 U T.zero52 fun b2=>?_;refine aL 6 [1,1] ?_;refine cI U Iu ?_;refine aQ (fP U) ?_;refine bB 2 [] ?_;refine cW (fun hc2=>?_) fun hc2=>?_;refine bE 11 [] ?_;refine cV ?_;rotate_left;refine bE 7 [] ?_;rotate_left;refine aI 8 [] ?_;refine cI U (jv _ _) ?_;refine bB 4 [] ?_;rotate_left
 · exfalso;exact absurd (hin i sN) sO
 · refine cJ 36 U (show _=Value.int .i64 ((i+1:Nat):Int) from U) ?_;refine cK (i+1) ?_ ?_
   · show i+1≤pl.length;omega
   show pl.length - (i+1)<pl.length - i;omega
 refine gX (ι:=Nat) (fun k=>([(45,.int .i64 (k:Int)),(44,.agg #[.pointer (some ⟨b1,3,none⟩),.pointer (some ⟨b1,7,none⟩),.pointer (some ⟨b1,11,none⟩)])],[(0,some b1,.cells #[.int .i64 k1,.int .i64 k2,.slice pa pl.length pc,.int .i64 x.ins,.int .i64 x.regs,.slice xac x.code.length xcc,.slice xao x.outs.length xoc,.int .i64 y.ins,.int .i64 y.regs,.slice yac y.code.length ycc,.slice yao y.outs.length yoc,.int .i64 z.ins,.int .i64 z.regs,.slice zac z.code.length zcc,.slice zao z.outs.length zoc] 28)])) (fun k=>k≤3) (fun k=>3 - k) (0) (aM _) fun k=>fun (hk:k≤3)=>?_;have hk4:k=0∨k=1∨k=2∨k=3:=sN;rcases hk4 with rfl | rfl | rfl | rfl
 · skip;refine aI 13 [1] ?_;refine aQ (Ez.Qy.indexV (n:=3) (E:=85) sR sR sR U U sY U) ?_;refine aL 7 [] ?_;refine aQ (eF 0 T.agg26 U U U U) ?_;refine cI U (Nq _ x _ _ _ _ sO sO sN sN hRx) ?_;refine aS 21 [0] ?_;refine cJ 45 U (show _=Value.int .i64 ((1:Nat):Int) from U) ?_;refine cK (1) ?_ ?_
   · show 1≤3;omega
   show 3 - 1<3 - 0;omega
 · skip;refine aI 13 [1] ?_;refine aQ (Ez.Qy.indexV (n:=3) (E:=85) sR sR sR U U sY U) ?_;refine aL 7 [] ?_;refine aQ (eF 0 T.agg26 U U U U) ?_;refine cI U (Nq _ y _ _ _ _ sO sO sN sN hRy) ?_;refine aS 21 [0] ?_;refine cJ 45 U (show _=Value.int .i64 ((2:Nat):Int) from U) ?_;refine cK (2) ?_ ?_
   · show 2≤3;omega
   show 3 - 2<3 - 1;omega
 · skip;refine aI 13 [1] ?_;refine aQ (Ez.Qy.indexV (n:=3) (E:=85) sR sR sR U U sY U) ?_;refine aL 7 [] ?_;refine aQ (eF 0 T.agg26 U U U U) ?_;refine cI U (Nq _ z _ _ _ _ sO sO sN sN hRz) ?_;refine aS 21 [0] ?_;refine cJ 45 U (show _=Value.int .i64 ((3:Nat):Int) from U) ?_;refine cK (3) ?_ ?_
   · show 3≤3;omega
   show 3 - 3<3 - 2;omega
 refine bE 18 [0] ?_;refine cV ?_;exact ⟨U,U,U⟩
structure UH where
 k1:Int
 k2:Int
 pa:Option Addr
 pn:Nat
 pc:Nat
 x:PH
 y:PH
 z:PH
instance:Inhabited UH:=⟨⟨0,0,none,0,0,default,default,default⟩⟩
instance:A2 UH:=⟨15,fun u=>[.int .i64 u.k1,.int .i64 u.k2,.slice u.pa u.pn u.pc,.int .i64 u.x.ins,.int .i64 u.x.regs,.slice u.x.ac u.x.cn u.x.cc,.slice u.x.ao u.x.on u.x.oc,.int .i64 u.y.ins,.int .i64 u.y.regs,.slice u.y.ac u.y.cn u.y.cc,.slice u.y.ao u.y.on u.y.oc,.int .i64 u.z.ins,.int .i64 u.z.regs,.slice u.z.ac u.z.cn u.z.cc,.slice u.z.ao u.z.on u.z.oc],fun _=>rfl,fun _=>rfl⟩
section
attribute [local irreducible] tF sP tW evP madeP lastP idx tS
theorem mr (G:A3) (hT:TabOk G) (n1 n2:Nat) (a:Option Addr) (c:Nat) (l:List R2) (ha:Arr G a l) (hl:l.length≤1048576) (hlc:l.length≤c) (hW:tF (n1:Int) (n2:Int) l=0) :
 Does Tryz.prog 20 [.int .i64 (n1:Int),.int .i64 (n2:Int),.slice a l.length c] G [] (fun v G' Ho=>∃ (X Y Z:PV) (pa xc xo yc yo zc zo:Option Addr) (pd xcc xoc ycc yoc zcc zoc:Nat) (pj zk:List Value),v=.tuple #[.agg #[.int .i64 (n1:Int),.int .i64 (n2:Int),.slice pa l.length pd,.int .i64 X.ins,.int .i64 X.regs,.slice xc X.code.length xcc,.slice xo X.outs.length xoc,.int .i64 Y.ins,.int .i64 Y.regs,.slice yc Y.code.length ycc,.slice yo Y.outs.length yoc,.int .i64 Z.ins,.int .i64 Z.regs,.slice zc Z.code.length zcc,.slice zo Z.outs.length zoc],.int .i64 0]∧tS n1 n2 l X Y Z=(0,0)∧(sP X=true∧sP Y=true∧sP Z=true)∧
  A4 pa pd l pj∧Arr G' xc X.code∧Arr G' xo X.outs∧Arr G' yc Y.code∧Arr G' yo Y.outs∧Arr G' zc Z.code∧A4 zo zoc Z.outs zk∧Ho=[(2,pa.map (·.block),Row 52 l pj),(7,zo.map (·.block),Row 3 Z.outs zk)]):=
 (fb G hT n1 n2 a c l ha hl hlc hW).mono fun v G' Ho _ ⟨pa,xc,xo,yc,yo,zc,zo,pd,xcc,xoc,ycc,yoc,zcc,zoc,pj,zk,e,h⟩=>by
  obtain ⟨hP1,hP2,hL,hRL⟩:=uS hW;have hn1:1≤n1∧n1≤8:=by have:=hP1.1;have:=hP1.2;omega
  have hn2:1≤n2∧n2≤8:=by have:=hP2.1;have:=hP2.2;omega
  exact ⟨_,_,_,pa,xc,xo,yc,yo,zc,zo,pd,xcc,xoc,ycc,yoc,zcc,zoc,pj,zk,e,Hq hW,⟨(xL (wR hRL hn1)).1,(xL (wR hRL hn2)).1,(xL (Bt hRL)).1⟩,h⟩
end
theorem KQ {k1 k2:Int} {l:List R2} (h:¬tF k1 k2 l=0):tF k1 k2 l=70∨tF k1 k2 l=71:=by
 unfold tF at h ⊢
 repeat' split
 all_goals first | exact .inl U | exact .inr U | skip
 all_goals (rename_i h1 h2 h3 h4;rw [aD h1,aD h2,aD h3,aD h4] at h;exact absurd U h)
def pr (n:Int):List U8:=[wb (n / 256),wb n]
def eI (i:Sl.Instr):List U8:=[wb i.op,wb i.to,wb i.a,wb i.b]++pr i.c
def eP (p:PV):List U8:=[wb p.ins,wb p.regs]++pr p.code.length++p.code.flatMap eI++[wb p.outs.length]++p.outs.map wb
def eQ (q:R2):List U8:=[wb q.a,wb q.b]
def eB (u:UV):List U8:=JN u.k1 u.k2 u.pl.length++u.pl.flatMap eQ++eP u.x++eP u.y++eP u.z
def eU (u:UV):List U8:=eB u++pr (wU (eB u) (eB u).length)
theorem ER (x:Int):(wb x).v=x % 256:=fh
theorem CD {x:Int} (h:0≤x∧x≤255):(wb x).v=x:=by rw [ER];omega
section
variable {B L:List U8} {k:Nat}
theorem Nk {b:U8} {g:Int→Bool} (h:B.drop k=b :: L) (hg:g b.v=true):nx B ⟨k,false⟩ g=(b.v,⟨k+1,false⟩)∧B.drop (k+1)=L:=by
 have h1:B[k]?=some b:=by
  have:=congrArg (fun l:List U8=>l[0]?) h;simp only [iZ,iS] at this;exact this
 have h2:k<B.length:=(bJ.1 h1).1;have e:(B[k]?.getD default).v=b.v:=by rw [h1];rfl
 refine ⟨?_,?_⟩
 · have:=WM (B:=B) (s:=⟨k,false⟩) (g:=g) U (by show k≠_;omega) (by show g (B[k]?.getD default).v=true;rw [e];exact hg);rw [this];show ((B[k]?.getD default).v,_)=_;rw [e]
 rw [←oX,h];rfl
theorem De {x lo hi:Int} (h:B.drop k=wb x :: L) (hx:0≤x∧x≤255) (hl:lo≤x∧x≤hi):wi B ⟨k,false⟩ lo hi=(x,⟨k+1,false⟩)∧B.drop (k+1)=L:=by
 have e:=CD hx;have:=Nk (g:=fun x=>decide (lo≤x∧x≤hi)) h (by rw [e];exact bL hl);rw [e] at this;exact this
theorem WZ {x:Int} (h:B.drop k=wb x :: L) (hx:-16≤x∧x≤16):sg B ⟨k,false⟩=(x,⟨k+1,false⟩)∧B.drop (k+1)=L:=by
 have e:=ER x;have:=Nk (g:=fun x=>decide (x≤16∨240≤x)) h (by rw [e];exact bL sN);rw [e] at this;refine ⟨?_,this.2⟩;unfold sg;rw [this.1];show (if 128≤x % 256 then x % 256 - 256 else x % 256,_)=_;congr 1;split <;> omega
theorem YZ {op c:Int} (h:tD op c=true):Cv op c=true∧-512≤c∧c≤512:=by
 unfold tD at h;unfold Cv;by_cases h1:op=5∨op=6
 · rw [aF h1] at h ⊢;have:=fM h;exact ⟨bL ⟨⟨this.1,this.2.1⟩,this.2.2⟩,this.2⟩
 rw [aD h1] at h ⊢;by_cases h2:op=7∨op=8
 · rw [aF h2] at h ⊢;have:=fM h;exact ⟨h,by omega,by omega⟩
 rw [aD h2] at h ⊢;have:=fM h;exact ⟨h,by omega,by omega⟩
theorem ZA {c:Int} (h:-512≤c∧c≤512):i16 (c / 256 % 256) (c % 256)=c:=by
 unfold i16;split <;> omega
theorem ZB {op c:Int} (h:B.drop k=pr c++L) (hc:tD op c=true):Zw B ⟨k,false⟩ op=(c,⟨k+2,false⟩)∧B.drop (k+2)=L:=by
 obtain ⟨h1,h2⟩:=YZ hc;have e:=ZA h2;have a:=Nk (g:=KR op) (b:=wb (c / 256)) (L:=wb c :: L) h (by
  rw [ER];unfold KR;rw [sK];refine ⟨(c % 256).toNat,iG.2 sN,?_⟩;rw [show (((c % 256).toNat:Nat):Int)=c % 256 by omega,e];exact h1)
 have b:=Nk (g:=fun l=>Cv op (i16 (c / 256 % 256) l)) a.2 (by rw [ER,e];exact h1);rw [ER] at a b;refine ⟨?_,b.2⟩;unfold Zw;rw [a.1];show (match nx B ⟨k+1,false⟩ (fun l=>Cv op (i16 (c / 256 % 256) l)) with | (l,t')=>(i16 (c / 256 % 256) l,t'))=_;rw [b.1];show (i16 (c / 256 % 256) (c % 256),_)=_;rw [e]
theorem ZC {i:Sl.Instr} {regs:Int} (h:B.drop k=eI i++L) (hm:tB i regs=true) (hr:regs≤128):Ps B ⟨k,false⟩ regs=(i,⟨k+6,false⟩)∧B.drop (k+6)=L:=by
 obtain ⟨m1,m2,m3,m4,m5,_⟩:=tK hm;have m6:i.op=3∨i.op=4∨i.b=0:=by
  unfold tB at hm;rw [aU,aU,aT] at hm;exact hm.1.1.2.2.2.2
 have a1:=De (lo:=1) (hi:=8) (x:=i.op) (L:=[wb i.to,wb i.a,wb i.b]++pr i.c++L) h sN sN;have a2:=De (lo:=0) (hi:=regs - 1) (x:=i.to) (L:=[wb i.a,wb i.b]++pr i.c++L) a1.2 sN sN;have a3:=De (lo:=0) (hi:=regs - 1) (x:=i.a) (L:=[wb i.b]++pr i.c++L) a2.2 sN sN;have a4:(if i.op=3∨i.op=4 then wi B ⟨k+1+1+1,false⟩ 0 (regs - 1) else ((0:Int),(wi B ⟨k+1+1+1,false⟩ 0 0).2))=(i.b,⟨k+4,false⟩)∧B.drop (k+4)=pr i.c++L:=by
  by_cases h34:i.op=3∨i.op=4
  · rw [aF h34];have:=m4 h34;exact De (x:=i.b) a3.2 sN sN
  rw [aD h34];have hb:i.b=0:=sN;have:=De (lo:=0) (hi:=0) (x:=i.b) a3.2 sN sN;rw [this.1,hb];exact ⟨U,this.2⟩
 have a5:=ZB a4.2 m5;refine ⟨?_,a5.2⟩;unfold Ps;rw [a1.1];dsimp only;rw [a2.1];dsimp only;rw [a3.1];dsimp only;rw [a4.1];dsimp only;rw [a5.1]
end
theorem HM {B L:List U8} {regs:Int} (hr:regs≤128):∀ (l acc:List Sl.Instr) (k:Nat),(∀ i∈l,tB i regs=true)→B.drop k=l.flatMap eI++L→yL B regs l.length ⟨k,false⟩ acc=(acc++l,⟨k+6*l.length,false⟩)∧B.drop (k+6*l.length)=L
 | [],acc,k,_,h=>⟨by rw [aY];rfl,h⟩
 | i :: l,acc,k,hm,h=>by
   rw [gV,aR] at h;have a:=ZC h (hm i bD) hr;have ih:=HM hr l (acc++[i]) (k+6) (fun q hq=>hm q (aW _ hq)) a.2;have e:k+6+6*l.length=k+6*(i :: l).length:=Ms;rw [e] at ih;refine ⟨?_,ih.2⟩;show yL B regs (l.length+1) ⟨k,false⟩ acc=_;unfold yL;rw [a.1];dsimp only;rw [aD (by decide),ih.1,aR];rfl
theorem HN {B L:List U8} {regs:Int} (hr:regs≤128):∀ (l acc:List Int) (k:Nat),(∀ r∈l,0≤r∧r<regs)→B.drop k=l.map wb++L→Ai B regs l.length ⟨k,false⟩ acc=(acc++l,⟨k+l.length,false⟩)∧B.drop (k+l.length)=L
 | [],acc,k,_,h=>⟨by rw [aY];rfl,h⟩
 | r :: l,acc,k,hm,h=>by
   have h9:=hm r bD;have a:=De (lo:=0) (hi:=regs - 1) (x:=r) (L:=l.map wb++L) h sN sN;have ih:=HN hr l (acc++[r]) (k+1) (fun q hq=>hm q (aW _ hq)) a.2;have e:k+1+l.length=k+(r :: l).length:=Ms;rw [e] at ih;refine ⟨?_,ih.2⟩;show Ai B regs (l.length+1) ⟨k,false⟩ acc=_;unfold Ai;rw [a.1];dsimp only;rw [ih.1,aR];rfl
theorem RB {B L:List U8}:∀ (l acc:List R2) (k:Nat),(∀ q∈l,near q.a q.b)→B.drop k=l.flatMap eQ++L→Gp B l.length ⟨k,false⟩ acc=(acc++l,⟨k+2*l.length,false⟩)∧B.drop (k+2*l.length)=L
 | [],acc,k,_,h=>⟨by rw [aY];rfl,h⟩
 | q :: l,acc,k,hm,h=>by
   have h9:=hm q bD;unfold near at h9;have a:=WZ (x:=q.a) (L:=wb q.b :: (l.flatMap eQ++L)) h sN;have b:=WZ (x:=q.b) (L:=l.flatMap eQ++L) a.2 sN;have ih:=RB l (acc++[q]) (k+1+1) (fun q hq=>hm q (aW _ hq)) b.2;have e:k+1+1+2*l.length=k+2*(q :: l).length:=Ms;rw [e] at ih;refine ⟨?_,ih.2⟩;show Gp B (l.length+1) ⟨k,false⟩ acc=_;unfold Gp;rw [a.1];dsimp only;rw [b.1];dsimp only;rw [ih.1,aR];rfl
theorem Ol (l:List Sl.Instr):(l.flatMap eI).length=6*l.length:=by
 induction l with
 | nil=>rfl
 | cons i l ih=>rw [gV,aB,ih,bA];show 6+6*l.length=_;omega
theorem Xt (l:List R2):(l.flatMap eQ).length=2*l.length:=by
 induction l with
 | nil=>rfl
 | cons i l ih=>rw [gV,aB,ih,bA];show 2+2*l.length=_;omega
theorem Ir (p:PV):(eP p).length=5+6*p.code.length+p.outs.length:=by
 unfold eP;rw [aB,aB,aB,aB,Ol,aN];show 2+2+6*p.code.length+1+p.outs.length=_;omega
theorem Xu {B L:List U8} {k:Nat} {p:PV} (hR:sP p=true) (h:B.drop k=eP p++L):vG B ⟨k,false⟩=(p,⟨k+(eP p).length,false⟩)∧B.drop (k+(eP p).length)=L:=by
 obtain ⟨f1,f2,f3,f4,f5,f6,f7,f8⟩:=sT hR;unfold eP at h;rw [aR,aR,aR,aR] at h;have a1:=De (lo:=1) (hi:=128) (x:=p.ins) h sN sN;have a2:=De (lo:=p.ins) (hi:=128) (x:=p.regs) a1.2 sN sN;have e3:(wb ((p.code.length:Int) / 256)).v=(p.code.length:Int) / 256:=CD sN;have a3:=Nk (g:=fun x=>decide (x*256≤16384)) (b:=wb ((p.code.length:Int) / 256)) a2.2 (by rw [e3];exact bL sN);rw [e3] at a3;have e4:(wb (p.code.length:Int)).v=(p.code.length:Int) % 256:=ER _;have a4:=Nk (g:=fun x=>decide ((p.code.length:Int) / 256*256+x≤16384)) (b:=wb (p.code.length:Int)) a3.2 (by rw [e4];exact bL sN);rw [e4] at a4;have en:((p.code.length:Int) / 256*256+(p.code.length:Int) % 256).toNat=p.code.length:=sN;have a5:=HM f3 p.code [] _ f8 a4.2;have a6:=De (lo:=1) (hi:=128) (x:=(p.outs.length:Int)) a5.2 sN sN;have a7:=HN f3 p.outs [] _ f7 a6.2;have ek:k+1+1+1+1+6*p.code.length+1+p.outs.length=k+(eP p).length:=by rw [Ir];omega
 rw [ek] at a7;refine ⟨?_,a7.2⟩;unfold vG;rw [a1.1];dsimp only;rw [a2.1];dsimp only;rw [a3.1];dsimp only;rw [a4.1];dsimp only;rw [en,a5.1];dsimp only;rw [a6.1];dsimp only;rw [aE,a7.1];rfl
theorem CE (A C:List U8):∀ k,k≤A.length→wU (A++C) k=wU A k
 | 0,_=>rfl
 | k+1,h=>by
   show (wU (A++C) k+_*((A++C)[k]?.getD default).v) % 65521=(wU A k+_*(A[k]?.getD default).v) % 65521;rw [CE A C k sN,bF sN]
theorem VR {u:UV} (h1:1≤u.k1∧u.k1≤8) (h2:1≤u.k2∧u.k2≤8) (hl:u.pl.length≤255) (hn:∀ q∈u.pl,near q.a q.b) (hx:sP u.x=true) (hy:sP u.y=true) (hz:sP u.z=true) :
 vQ (eU u)=(u,⟨(eU u).length,false⟩):=by
 obtain ⟨C,hC⟩:∃ C,C=wU (eB u) (eB u).length:=⟨_,U⟩
 have hC9:=Ey (B:=eB u) (eB u).length;rw [←hC] at hC9;have hB:eU u=JN u.k1 u.k2 u.pl.length++(u.pl.flatMap eQ++(eP u.x++(eP u.y++(eP u.z++pr C)))):=by
  rw [hC];unfold eU;rw [show eB u++pr (wU (eB u) (eB u).length)=(JN u.k1 u.k2 u.pl.length++u.pl.flatMap eQ++eP u.x++eP u.y++eP u.z)++pr (wU (eB u) (eB u).length) from rfl];simp only [aR]
 obtain ⟨B,hBe⟩:∃ B,B=eU u:=⟨_,U⟩
 rw [←hBe] at hB ⊢;have m0:B.drop 0=(⟨65⟩:U8) :: ([⟨78⟩,⟨86⟩,⟨49⟩,wb u.k1,wb u.k2,wb u.pl.length]++(u.pl.flatMap eQ++(eP u.x++(eP u.y++(eP u.z++pr C))))):=by rw [nJ,hB];rfl
 have mk:∀ {k:Nat} {v:Int} {L:List U8},B.drop k=(⟨v⟩:U8) :: L→(wi B ⟨k,false⟩ v v).2=⟨k+1,false⟩∧B.drop (k+1)=L:=fun {k v L} h=>by
  have:=Nk (g:=fun x=>decide (v≤x∧x≤v)) h (bL ⟨iM _,iM _⟩);exact ⟨congrArg Prod.snd this.1,this.2⟩
 have m1:=mk m0;have m2:=mk m1.2;have m3:=mk m2.2;have m4:=mk m3.2;have hmk:Ua B 4=⟨4,false⟩:=by
  show (wi B (wi B (wi B (wi B ⟨0,false⟩ 65 65).2 78 78).2 86 86).2 49 49).2=_;rw [m1.1,m2.1,m3.1,m4.1]
 have a5:=De (lo:=1) (hi:=8) (x:=u.k1) m4.2 sN sN;have a6:=De (lo:=1) (hi:=8) (x:=u.k2) a5.2 sN sN;have a7:=De (lo:=0) (hi:=255) (x:=(u.pl.length:Int)) a6.2 sN sN;have a8:=RB u.pl [] _ hn a7.2;have a9:=Xu hx a8.2;have a10:=Xu hy a9.2;have a11:=Xu hz a10.2;have hlen:(eB u).length=0+1+1+1+1+1+1+1+2*u.pl.length+(eP u.x).length+(eP u.y).length+(eP u.z).length:=by
  unfold eB;rw [aB,aB,aB,aB,Xt];show 7+_+_+_+_=_;omega
 have hck:wU B (eB u).length=C:=by
  rw [hBe];unfold eU;rw [CE _ _ _ (aH _),hC]
 have b1:=De (lo:=C / 256) (hi:=C / 256) (x:=C / 256) (L:=[wb C]) a11.2 sN sN;have b2:=Nk (b:=wb C) (L:=[]) (g:=fun x=>decide (C % 256≤x∧x≤C % 256)) b1.2 (by rw [ER];exact bL ⟨iM _,iM _⟩);have hE:Su B ⟨0+1+1+1+1+1+1+1+2*u.pl.length+(eP u.x).length+(eP u.y).length+(eP u.z).length,false⟩=⟨B.length,false⟩:=by
  unfold Su;rw [aD (show ¬(false=true) by decide)];dsimp only;rw [←hlen,hck];rw [←hlen] at b1 b2;rw [b1.1];show (nx B ⟨(eB u).length+1,false⟩ fun x=>decide (C % 256≤x∧x≤C % 256)).2=_;rw [b2.1];show (⟨(eB u).length+1+1,false⟩:RS)=⟨B.length,false⟩;have:B.length=(eB u).length+2:=by rw [hBe];unfold eU;rw [aB];rfl
  rw [this]
 unfold vQ;rw [hmk,a5.1];dsimp only;rw [a6.1];dsimp only;rw [a7.1];dsimp only;rw [aE,a8.1];dsimp only;rw [a9.1];dsimp only;rw [a10.1];dsimp only;rw [a11.1];dsimp only;rw [hE];rfl
theorem VS {u:UV} (hU:(tS u.k1 u.k2 u.pl u.x u.y u.z).2=0):Ia (eU u)=(u,0,0):=by
 obtain ⟨hW,hx,_,hy,_,hz,_⟩:=Bl hU;obtain ⟨hP1,hP2,hn,hRL⟩:=uS hW;have hl:u.pl.length≤15:=by have:=hP1.2;have:=hP2.2;omega
 have e:=VR (u:=u) hP1 hP2 sN (fun q hq=>by
  obtain ⟨k,hk,rfl⟩:=fY.1 hq;have h1:=(Lx hRL hk).1;rw [aA hk] at h1;exact h1) hx hy hz
 exact EC e U U hU
theorem VT {l:List R2} {i:Nat} (h:i<l.length):(l.take (i+1)).flatMap eQ=(l.take i).flatMap eQ++eQ (l[((i:Nat):Int).toNat]?.getD default):=by
 rw [cL,oP,aE,aA h];show _++([l[i]].flatMap eQ)=_;rw [gV,fW,aY];rfl
theorem Xv {l:List Sl.Instr} {i:Nat} (h:i<l.length):(l.take (i+1)).flatMap eI=(l.take i).flatMap eI++eI (l[((i:Nat):Int).toNat]?.getD default):=by
 rw [cL,oP,aE,aA h];show _++([l[i]].flatMap eI)=_;rw [gV,fW,aY];rfl
theorem ES (n:Int):E2 (pr n):=.cons (wW _) (.cons (wW _) .nil)
theorem VU (l:List Sl.Instr):E2 (l.flatMap eI):=fun b hb=>by
 obtain ⟨i,hi,hb⟩:=pX.1 hb;exact (E2.app (.cons (wW _) (.cons (wW _) (.cons (wW _) (.cons (wW _) .nil)))) (ES _)) b hb
theorem VV (l:List R2):E2 (l.flatMap eQ):=fun b hb=>by
 obtain ⟨i,hi,hb⟩:=pX.1 hb;exact (E2.cons (wW _) (.cons (wW _) .nil)) b hb
theorem ET (p:PV):E2 (eP p):=
 ((((E2.cons (wW _) (.cons (wW _) .nil)).app (ES _)).app (VU _)).app (.cons (wW _) .nil)).app (GH _)
theorem RC (u:UV):E2 (eB u):=((((GI _ _ _).app (VV _)).app (ET _)).app (ET _)).app (ET _)
theorem EU (G:A3) (o:Option Addr) (d:Nat) (r:List U8) (j:List Value) (n:Int) (hob:A4 o d r j) (hrl:r.length≤4000000) :
 Does Tryz.prog 140 [.slice o r.length d,.int .i64 n] G [(0,o.map (·.block),Row 5 r j)] (fun v G' Ho=>∃ o' d' j',v=.slice o' (r++pr n).length d'∧A4 o' d' (r++pr n) j'∧Ho=[(0,o'.map (·.block),Row 5 (r++pr n) j')]∧G'=G):=by
 refine gF Tryz.func140 U Tryz.ntmps140 U fun w=>?_;refine aI 9 [] ?_;refine cD U (nT U U sN) ?_;refine cD U (cP U T.u5 U) ?_;refine aC 1 [] ?_;refine cD U (cP U T.u5 U) ?_;refine fO 8 U (show _=Value.int .u8 (IntKind.u8.wrap (n / 256)) by rw [AG]) ?_;refine cZ (α:=U8) 1 [wb (n / 256),wb n] U T.sl38 T.el5 U U U U U fun b1=>?_;refine eH (α:=U8) 0 U T.sl38 T.el5 U U U yY (dT 1 U) uM uM fun a1 c1 junk1 ho1=>?_;refine aS 4 [] ?_;refine cH (.inr U) (Ho:=Hp.only _ [0]) U (.tmp U) (aV _ _) ?_;exact ⟨_,_,_,U,ho1,U,U⟩
section
attribute [local irreducible] sP tS wU
theorem c80 (G:A3) (k1 k2:Int) (l:List R2) (pa:Option Addr) (pc:Nat) (x y z:PV) (xac xao yac yao zac zao:Option Addr) (xcc xoc ycc yoc zcc zoc:Nat) (hl:Arr G pa l) (hk1:1≤k1∧k1≤8) (hk2:1≤k2∧k2≤8) (hl15:l.length≤15) (hin:∀ i:Nat,i<l.length→near (l[i]?.getD default).a (l[i]?.getD default).b) (hxc:Arr G xac x.code) (hxo:Arr G xao x.outs) (hRx:sP x=true) (hyc:Arr G yac y.code) (hyo:Arr G yao y.outs) (hRy:sP y=true) (hzc:Arr G zac z.code) (hzo:Arr G zao z.outs) (hRz:sP z=true) (hsum:x.code.length+y.code.length+z.code.length≤10000) :
 Does Tryz.prog 80 [.agg #[.int .i64 k1,.int .i64 k2,.slice pa l.length pc,.int .i64 x.ins,.int .i64 x.regs,.slice xac x.code.length xcc,.slice xao x.outs.length xoc,.int .i64 y.ins,.int .i64 y.regs,.slice yac y.code.length ycc,.slice yao y.outs.length yoc,.int .i64 z.ins,.int .i64 z.regs,.slice zac z.code.length zcc,.slice zao z.outs.length zoc]] G [] (fun v G' Ho=>∃ a c,v=.tuple #[.slice a (eU ⟨k1,k2,l,x,y,z⟩).length c,.int .i64 0]∧Arr G' a (eU ⟨k1,k2,l,x,y,z⟩)∧(eU ⟨k1,k2,l,x,y,z⟩).length≤c∧Ho=[]):=by
 refine gF Tryz.func80 U Tryz.ntmps80 U fun w=>?_;refine aI 2 [] ?_;refine nB 0 U U U fun b1=>?_;refine aL 7 [0] ?_;refine cI U (mq _ k1 k2 l _ _ x y z _ _ _ _ _ _ _ _ _ _ _ _ hl hk1 hk2 hl15 hin hxc hxo hRx hyc hyo hRy hzc hzo hRz) ?_;refine aL 15 [0] ?_;refine cZ (α:=U8) 1 [⟨65⟩,⟨78⟩,⟨86⟩,⟨49⟩] U T.sl38 T.el5 U U U U U fun b2=>?_;refine Wl.mark 1 U T.sl38.1 T.u5 U U ?_;refine lI 1 U fun G1 hle1 hm1=>?_;have hM:Arr G1 (some ⟨b2,0,none⟩) [(⟨65⟩:U8),⟨78⟩,⟨86⟩,⟨49⟩]:=Jw hm1;replace hl:=hl.up hle1;replace hxc:=hxc.up hle1;replace hxo:=hxo.up hle1;replace hyc:=hyc.up hle1;replace hyo:=hyo.up hle1;replace hzc:=hzc.up hle1;replace hzo:=hzo.up hle1;refine aC 2 [0] ?_;refine cD U (cP U T.u5 U) ?_;refine aC 2 [0] ?_;refine cD U (cP U T.u5 U) ?_;refine aC 3 [0] ?_;refine cD U (cP U T.u5 U) ?_;refine cZ (α:=U8) 2 [wb k1,wb k2,wb l.length] U T.sl38 T.el5 U U U U U fun b3=>?_;refine Jl (α:=U8) (xs:=[⟨65⟩,⟨78⟩,⟨86⟩,⟨49⟩]) (ys:=[wb k1,wb k2,wb l.length]) 3 U T.sl38 T.el5 U U (lM hM) sY (dT 2 U) (by show 0<3;decide) (by show (4+3)*1≤140737488355328;decide) (by show 4+3≤maxLen;decide) fun b4 c4 junk4 ho4=>?_;refine bB 13 [0] ?_;refine fT (ι:=Nat×List U8×(Option Addr×Nat×List Value)) (fun (i,r,(o,d,j))=>([(36,.int .i64 (i:Int)),(5,.slice o r.length d),(35,Go.Value.int Go.IntKind.i64 (↑(List.length l):Int)),(34,Go.Value.slice pa (List.length l) pc),(3,Go.Value.int Go.IntKind.i64 0),(2,Go.Value.slice Option.none 0 0),(1,Go.Value.pointer (Option.some (Go.Addr.mk b1 0 Option.none)))],[(3,o.map (·.block),Row 5 r j),(2,Option.some b3,Go.Sl.Row (α:=Go.Proofs.YtkdelpdbjfpgmaaGreatDoor.U8) 5 ([Go.Proofs.YtkdelpdbjfpgmaaGreatDoor.wb k1,Go.Proofs.YtkdelpdbjfpgmaaGreatDoor.wb k2,Go.Proofs.YtkdelpdbjfpgmaaGreatDoor.wb (↑(List.length l):Int)]) ([])),(0,Option.some b1,Go.Obj.cells #[Go.Value.int Go.IntKind.i64 k1,Go.Value.int Go.IntKind.i64 k2,Go.Value.slice pa (List.length l) pc,Go.Value.int Go.IntKind.i64 x.ins,Go.Value.int Go.IntKind.i64 x.regs,Go.Value.slice xac x.code.length xcc,Go.Value.slice xao x.outs.length xoc,Go.Value.int Go.IntKind.i64 y.ins,Go.Value.int Go.IntKind.i64 y.regs,Go.Value.slice yac y.code.length ycc,Go.Value.slice yao y.outs.length yoc,Go.Value.int Go.IntKind.i64 z.ins,Go.Value.int Go.IntKind.i64 z.regs,Go.Value.slice zac z.code.length zcc,Go.Value.slice zao z.outs.length zoc] 28)])) (fun (i,r,(o,d,j))=>i≤l.length∧r=JN k1 k2 l.length++(l.take i).flatMap eQ∧A4 o d r j) (fun (i,r,(o,d,j))=>l.length - i) ((0,JN k1 k2 l.length,(some ⟨b4,0,none⟩,c4,junk4))) (⟨aM _,by rw [bR,fW,aY],ho4⟩) ⟨U,U,U,U,U,U,U,F9⟩ ⟨U,U,U,F9⟩ fun ⟨i,r,(o,d,j)⟩=>fun hk=>?_;obtain ⟨hi0,hr,hob⟩:=hk;have hrl:r.length=7+2*i:=by
  rw [hr,aB,Xt,bG,cY hi0];rfl
 rcases aK i l.length with hil | hil
 · refine aI 13 [1] ?_;refine cD U (iI (α:=R2) T.sl22 U U sO sN) ?_;refine cD U (gH T.agg52 U (lH sO sN) U) ?_;refine aO 4 U T.zero52 fun b5=>?_;refine aL 7 [4,4] ?_;refine cD U (cP U T.u5 U) ?_;refine aC 2 [4] ?_;refine cD U (cP U T.u5 U) ?_;refine cZ (α:=U8) 5 [wb (l[(i:Int).toNat]?.getD default).a,wb (l[(i:Int).toNat]?.getD default).b] U T.sl38 T.el5 U U U U U fun b6=>?_;refine eH (α:=U8) 3 U T.sl38 T.el5 U U U yY (dT 5 U) uM uM fun a1 c1 junk1 ho1=>?_;refine aS 8 [] ?_;refine eO ((i+1,r++[wb (l[(i:Int).toNat]?.getD default).a,wb (l[(i:Int).toNat]?.getD default).b],(a1,c1,junk1))) ?_ ?_ U ⟨U,U,U,U,U,U,U,F9⟩ ⟨U,U,U,F9⟩
   · exact ⟨by omega,by rw [hr,VT hil,aR];rfl,ho1⟩
   show l.length - (i+1)<l.length - i;omega
 have hii:i=l.length:=sN;subst hii;rw [aZ] at hr;refine aI 15 [0] ?_;refine cI U (jv _ _) ?_;refine bB 4 [] ?_;obtain ⟨A,hA⟩:∃ A,A=r:=⟨_,U⟩
 have hAe:A=JN k1 k2 l.length++l.flatMap eQ:=hA.trans hr;have hAl:A.length=7+2*l.length:=by rw [hA];exact hrl
 clear hrl;refine fT (ι:=Nat×List U8×(Option Addr×Nat×List Value)) (fun (i,r,(o,d,j))=>([(51,.int .i64 (i:Int)),(5,.slice o r.length d),(50,Go.Value.agg #[Go.Value.pointer (Option.some (Go.Addr.mk b1 3 Option.none)),Go.Value.pointer (Option.some (Go.Addr.mk b1 7 Option.none)),Go.Value.pointer (Option.some (Go.Addr.mk b1 11 Option.none))]),(3,Go.Value.int Go.IntKind.i64 0),(2,Go.Value.slice Option.none 0 0)],[(3,o.map (·.block),Row 5 r j),(2,Option.some b3,Go.Sl.Row (α:=Go.Proofs.YtkdelpdbjfpgmaaGreatDoor.U8) 5 ([Go.Proofs.YtkdelpdbjfpgmaaGreatDoor.wb k1,Go.Proofs.YtkdelpdbjfpgmaaGreatDoor.wb k2,Go.Proofs.YtkdelpdbjfpgmaaGreatDoor.wb (↑(List.length l):Int)]) ([])),(0,Option.some b1,Go.Obj.cells #[Go.Value.int Go.IntKind.i64 k1,Go.Value.int Go.IntKind.i64 k2,Go.Value.slice pa (List.length l) pc,Go.Value.int Go.IntKind.i64 x.ins,Go.Value.int Go.IntKind.i64 x.regs,Go.Value.slice xac x.code.length xcc,Go.Value.slice xao x.outs.length xoc,Go.Value.int Go.IntKind.i64 y.ins,Go.Value.int Go.IntKind.i64 y.regs,Go.Value.slice yac y.code.length ycc,Go.Value.slice yao y.outs.length yoc,Go.Value.int Go.IntKind.i64 z.ins,Go.Value.int Go.IntKind.i64 z.regs,Go.Value.slice zac z.code.length zcc,Go.Value.slice zao z.outs.length zoc] 28)])) (fun (i,r,(o,d,j))=>i≤3∧r=A++(([x,y,z]:List PV).take i).flatMap eP∧A4 o d r j) (fun (i,r,(o,d,j))=>3 - i) ((0,r,(o,d,j))) (⟨aM _,by rw [bR,fW,aY];exact hA.symm,hob⟩) ⟨U,U,U,U,U,F9⟩ ⟨U,U,U,F9⟩ fun ⟨i,r,(o,d,j)⟩=>fun (hk:i≤3∧r=A++(([x,y,z]:List PV).take i).flatMap eP∧A4 o d r j)=>?_;clear hr hA hob;obtain ⟨hi0,hr,hob⟩:=hk;obtain ⟨x1,x2,x3,x4,x5,x6,x7,x8⟩:=sT hRx;obtain ⟨y1,y2,y3,y4,y5,y6,y7,y8⟩:=sT hRy;obtain ⟨z1,z2,z3,z4,z5,z6,z7,z8⟩:=sT hRz;have hxl:=Ir x;have hyl:=Ir y;have hi4:i=0∨i=1∨i=2∨i=3:=sN;rcases hi4 with rfl | rfl | rfl | rfl
 · have hr0:r=A:=by rw [hr,bR,fW,aY]
   have hrl:r.length≤400000:=by rw [hr0];(try simp only [aB]);omega
   refine bI 6 [] ?_;refine qV U (show ((0:Nat):Int)<3 by decide) ?_;refine aI 6 [] ?_;refine cD U (Ez.Qy.indexV (n:=3) (E:=85) sR sR sR U U sY U) ?_;refine bB 4 [] ?_;refine gM [0,2,3] [(3,12),(2,12)] T.mixed U ?_;refine gL 0 [] [] ?_;refine gL 1 [] [] ?_;refine gL 2 [] [] ?_;refine gL 3 [] [] ?_;refine gL 4 [0] [0] ?_;refine dW 5 [] U (cP U T.u5 U) ?_;refine gL 6 [] [] ?_;refine gL 7 [] [] ?_;refine gL 8 [] [] ?_;refine gL 9 [0] [0] ?_;refine dW 10 [] U (cP U T.u5 U) ?_;refine bQ 11 ?_;refine cZ (α:=U8) 6 [wb x.ins,wb x.regs] U T.sl38 T.el5 U U U U U fun b5=>?_;refine bC ?_;refine bQ 12 ?_;refine eH (α:=U8) 3 U T.sl38 T.el5 U U U yY (dT 6 U) uM uM fun a1 c1 junk1 ho1=>?_;refine bC ?_;refine gL 13 [] [] ?_;refine dG ?_;refine lQ 9 [0] ?_;refine bV 3 U (EU _ a1 c1 _ junk1 _ ho1 KW) fun v2 G2 Ho2 hle2 hp=>?_;obtain ⟨o2,d2,j2,rfl,hoB,rfl,rfl⟩:=hp;refine bB 15 [0] ?_;refine fT (ι:=Nat×List U8×(Option Addr×Nat×List Value)) (fun (m,q,(o,d,j))=>([(79,.int .i64 (m:Int)),(5,.slice o q.length d),(50,.agg #[.pointer (some ⟨b1,3,none⟩),.pointer (some ⟨b1,7,none⟩),.pointer (some ⟨b1,11,none⟩)]),(78,Go.Value.int Go.IntKind.i64 (↑x.code.length:Int)),(77,Go.Value.slice xac x.code.length xcc),(9,Go.Value.pointer (Option.some (Go.Addr.mk b1 3 Option.none))),(51,Go.Value.int Go.IntKind.i64 (↑0:Int)),(3,Go.Value.int Go.IntKind.i64 0),(2,Go.Value.slice Option.none 0 0)],[(3,o.map (·.block),Row 5 q j),(6,Option.some b5,Go.Sl.Row (α:=Go.Proofs.YtkdelpdbjfpgmaaGreatDoor.U8) 5 ([Go.Proofs.YtkdelpdbjfpgmaaGreatDoor.wb x.ins,Go.Proofs.YtkdelpdbjfpgmaaGreatDoor.wb x.regs]) ([])),(2,Option.some b3,Go.Sl.Row (α:=Go.Proofs.YtkdelpdbjfpgmaaGreatDoor.U8) 5 ([Go.Proofs.YtkdelpdbjfpgmaaGreatDoor.wb k1,Go.Proofs.YtkdelpdbjfpgmaaGreatDoor.wb k2,Go.Proofs.YtkdelpdbjfpgmaaGreatDoor.wb (↑(List.length l):Int)]) ([])),(0,Option.some b1,Go.Obj.cells #[Go.Value.int Go.IntKind.i64 k1,Go.Value.int Go.IntKind.i64 k2,Go.Value.slice pa (List.length l) pc,Go.Value.int Go.IntKind.i64 x.ins,Go.Value.int Go.IntKind.i64 x.regs,Go.Value.slice xac x.code.length xcc,Go.Value.slice xao x.outs.length xoc,Go.Value.int Go.IntKind.i64 y.ins,Go.Value.int Go.IntKind.i64 y.regs,Go.Value.slice yac y.code.length ycc,Go.Value.slice yao y.outs.length yoc,Go.Value.int Go.IntKind.i64 z.ins,Go.Value.int Go.IntKind.i64 z.regs,Go.Value.slice zac z.code.length zcc,Go.Value.slice zao z.outs.length zoc] 28)])) (fun (m,q,(o,d,j))=>m≤x.code.length∧q=r++[wb x.ins,wb x.regs]++pr x.code.length++(x.code.take m).flatMap eI∧A4 o d q j) (fun (m,q,(o,d,j))=>x.code.length - m) ((0,r++[wb x.ins,wb x.regs]++pr x.code.length,(o2,d2,j2))) (⟨aM _,by rw [bR,fW,aY],hoB⟩) ⟨U,U,U,U,U,U,U,U,U,F9⟩ ⟨U,U,U,U,F9⟩ fun ⟨m,q,(o,d,j)⟩=>fun hk=>?_;obtain ⟨hm0,hq,hoq⟩:=hk;have hql:q.length=r.length+4+6*m:=by
    rw [hq,aB,Ol,bG,cY hm0,aB,aB];rfl
   rcases aK m x.code.length with hml | hml
   · refine aI 13 [1] ?_;refine cD U (iI (α:=Sl.Instr) T.sl23 U U sO sN) ?_;refine cD U (gH T.agg91 U (lH sO sN) U) ?_;refine aO 7 U T.zero91 fun b6=>?_;refine aL 8 [7,7] ?_;refine cD U (cP U T.u5 U) ?_;refine aC 2 [7] ?_;refine cD U (cP U T.u5 U) ?_;refine aC 2 [7] ?_;refine cD U (cP U T.u5 U) ?_;refine aC 2 [7] ?_;refine cD U (cP U T.u5 U) ?_;refine cZ (α:=U8) 8 [wb (x.code[(m:Int).toNat]?.getD default).op,wb (x.code[(m:Int).toNat]?.getD default).to,wb (x.code[(m:Int).toNat]?.getD default).a,wb (x.code[(m:Int).toNat]?.getD default).b] U T.sl38 T.el5 U U U U U fun b7=>?_;refine eH (α:=U8) 3 U T.sl38 T.el5 U U U yY (dT 8 U) uM uM fun a2 c2 junk2 ho2=>?_;refine aL 7 [7] ?_;refine bV 3 U (EU _ a2 c2 _ junk2 _ ho2 KX) fun v3 G3 Ho3 hle3 hp=>?_;obtain ⟨o3,d3,j3,rfl,hoC,rfl,rfl⟩:=hp;refine aS 8 [] ?_;refine eO ((m+1,q++[wb (x.code[(m:Int).toNat]?.getD default).op,wb (x.code[(m:Int).toNat]?.getD default).to,wb (x.code[(m:Int).toNat]?.getD default).a,wb (x.code[(m:Int).toNat]?.getD default).b]++pr (x.code[(m:Int).toNat]?.getD default).c,(o3,d3,j3))) ?_ ?_ U ⟨U,U,U,U,U,U,U,U,U,F9⟩ ⟨U,U,U,U,F9⟩
     · exact ⟨by omega,by rw [hq,Xv hml];simp only [aR,eI],hoC⟩
     show x.code.length - (m+1)<x.code.length - m;omega
   have hmm:m=x.code.length:=sN;subst hmm;rw [aZ] at hq;refine aI 20 [0,0] ?_;refine cD U (cP U T.u5 U) ?_;refine cZ (α:=U8) 9 [wb x.outs.length] U T.sl38 T.el5 U U U U U fun b8=>?_;refine eH (α:=U8) 3 U T.sl38 T.el5 U U U yY (dT 9 U) uM uM fun a2 c2 junk2 ho2=>?_;refine bB 14 [0] ?_;refine fT (ι:=Nat×List U8×(Option Addr×Nat×List Value)) (fun (m,q2,(o,d,j))=>([(117,.int .i64 (m:Int)),(5,.slice o q2.length d),(50,.agg #[.pointer (some ⟨b1,3,none⟩),.pointer (some ⟨b1,7,none⟩),.pointer (some ⟨b1,11,none⟩)]),(116,Go.Value.int Go.IntKind.i64 (↑x.outs.length:Int)),(115,Go.Value.slice xao x.outs.length xoc),(51,Go.Value.int Go.IntKind.i64 0),(3,Go.Value.int Go.IntKind.i64 0),(2,Go.Value.slice Option.none 0 0)],[(3,o.map (·.block),Row 5 q2 j),(9,Option.some b8,Go.Sl.Row (α:=Go.Proofs.YtkdelpdbjfpgmaaGreatDoor.U8) 5 ([Go.Proofs.YtkdelpdbjfpgmaaGreatDoor.wb (↑x.outs.length:Int)]) ([])),(6,Option.some b5,Go.Sl.Row (α:=Go.Proofs.YtkdelpdbjfpgmaaGreatDoor.U8) 5 ([Go.Proofs.YtkdelpdbjfpgmaaGreatDoor.wb x.ins,Go.Proofs.YtkdelpdbjfpgmaaGreatDoor.wb x.regs]) ([])),(2,Option.some b3,Go.Sl.Row (α:=Go.Proofs.YtkdelpdbjfpgmaaGreatDoor.U8) 5 ([Go.Proofs.YtkdelpdbjfpgmaaGreatDoor.wb k1,Go.Proofs.YtkdelpdbjfpgmaaGreatDoor.wb k2,Go.Proofs.YtkdelpdbjfpgmaaGreatDoor.wb (↑(List.length l):Int)]) ([])),(0,Option.some b1,Go.Obj.cells #[Go.Value.int Go.IntKind.i64 k1,Go.Value.int Go.IntKind.i64 k2,Go.Value.slice pa (List.length l) pc,Go.Value.int Go.IntKind.i64 x.ins,Go.Value.int Go.IntKind.i64 x.regs,Go.Value.slice xac x.code.length xcc,Go.Value.slice xao x.outs.length xoc,Go.Value.int Go.IntKind.i64 y.ins,Go.Value.int Go.IntKind.i64 y.regs,Go.Value.slice yac y.code.length ycc,Go.Value.slice yao y.outs.length yoc,Go.Value.int Go.IntKind.i64 z.ins,Go.Value.int Go.IntKind.i64 z.regs,Go.Value.slice zac z.code.length zcc,Go.Value.slice zao z.outs.length zoc] 28)])) (fun (m,q2,(o,d,j))=>m≤x.outs.length∧q2=q++[wb x.outs.length]++(x.outs.take m).map wb∧A4 o d q2 j) (fun (m,q2,(o,d,j))=>x.outs.length - m) ((0,q++[wb x.outs.length],(a2,c2,junk2))) (⟨aM _,by rw [bR,mJ,aY],ho2⟩) ⟨U,U,U,U,U,U,U,U,F9⟩ ⟨U,U,U,U,U,F9⟩ fun ⟨m,q2,(o,d,j)⟩=>fun hk=>?_;obtain ⟨hm0,hq2,hoq⟩:=hk;have hql2:q2.length=q.length+1+m:=by
    rw [hq2,aB,aB,aN,bG,cY hm0];rfl
   rcases aK m x.outs.length with hml | hml
   · refine aI 13 [1] ?_;refine cD U (iI (α:=Int) T.sl24 U U sO sN) ?_;refine cD U (bW T.one3 U (gB sO sN 0 U U)) ?_;refine aL 6 [] ?_;refine cD U (cP U T.u5 U) ?_;refine cZ (α:=U8) 10 [wb (x.outs[(m:Int).toNat]?.getD default)] U T.sl38 T.el5 U U U U U fun b9=>?_;refine eH (α:=U8) 3 U T.sl38 T.el5 U U U yY (dT 10 U) uM uM fun a3 c3 junk3 ho3=>?_;refine aS 8 [] ?_;refine eO ((m+1,q2++[wb (x.outs[(m:Int).toNat]?.getD default)],(a3,c3,junk3))) ?_ ?_ U ⟨U,U,U,U,U,U,U,U,F9⟩ ⟨U,U,U,U,U,F9⟩
     · exact ⟨by omega,by rw [hq2,Ob hml,aR _ _ [_]],ho3⟩
     show x.outs.length - (m+1)<x.outs.length - m;omega
   have hmm:m=x.outs.length:=sN;subst hmm;rw [aZ] at hq2;refine bE 17 [0] ?_;refine eO ((0+1,q2,(o,d,j))) ?_ ?_ U ⟨U,U,U,U,U,F9⟩ ⟨U,U,U,F9⟩
   · refine ⟨by omega,?_,hoq⟩;show q2=A++(eP x++[]);rw [hq2,hq,hr0];simp only [aY,aR,eP]
   show 3 - (0+1)<3 - 0;omega
 · have hr0:r=A++eP x:=by rw [hr];simp only [List.take,gV,fW,aY,aR]
   have hrl:r.length≤400000:=by rw [hr0];(try simp only [aB]);omega
   refine bI 6 [] ?_;refine qV U (show ((1:Nat):Int)<3 by decide) ?_;refine aI 6 [] ?_;refine cD U (Ez.Qy.indexV (n:=3) (E:=85) sR sR sR U U sY U) ?_;refine bB 4 [] ?_;refine gM [0,2,3] [(3,12),(2,12)] T.mixed U ?_;refine gL 0 [] [] ?_;refine gL 1 [] [] ?_;refine gL 2 [] [] ?_;refine gL 3 [] [] ?_;refine gL 4 [0] [0] ?_;refine dW 5 [] U (cP U T.u5 U) ?_;refine gL 6 [] [] ?_;refine gL 7 [] [] ?_;refine gL 8 [] [] ?_;refine gL 9 [0] [0] ?_;refine dW 10 [] U (cP U T.u5 U) ?_;refine bQ 11 ?_;refine cZ (α:=U8) 6 [wb y.ins,wb y.regs] U T.sl38 T.el5 U U U U U fun b5=>?_;refine bC ?_;refine bQ 12 ?_;refine eH (α:=U8) 3 U T.sl38 T.el5 U U U yY (dT 6 U) uM uM fun a1 c1 junk1 ho1=>?_;refine bC ?_;refine gL 13 [] [] ?_;refine dG ?_;refine lQ 9 [0] ?_;refine bV 3 U (EU _ a1 c1 _ junk1 _ ho1 KW) fun v2 G2 Ho2 hle2 hp=>?_;obtain ⟨o2,d2,j2,rfl,hoB,rfl,rfl⟩:=hp;refine bB 15 [0] ?_;refine fT (ι:=Nat×List U8×(Option Addr×Nat×List Value)) (fun (m,q,(o,d,j))=>([(79,.int .i64 (m:Int)),(5,.slice o q.length d),(50,.agg #[.pointer (some ⟨b1,3,none⟩),.pointer (some ⟨b1,7,none⟩),.pointer (some ⟨b1,11,none⟩)]),(78,Go.Value.int Go.IntKind.i64 (↑y.code.length:Int)),(77,Go.Value.slice yac y.code.length ycc),(9,Go.Value.pointer (Option.some (Go.Addr.mk b1 7 Option.none))),(51,Go.Value.int Go.IntKind.i64 (↑1:Int)),(3,Go.Value.int Go.IntKind.i64 0),(2,Go.Value.slice Option.none 0 0)],[(3,o.map (·.block),Row 5 q j),(6,Option.some b5,Go.Sl.Row (α:=Go.Proofs.YtkdelpdbjfpgmaaGreatDoor.U8) 5 ([Go.Proofs.YtkdelpdbjfpgmaaGreatDoor.wb y.ins,Go.Proofs.YtkdelpdbjfpgmaaGreatDoor.wb y.regs]) ([])),(2,Option.some b3,Go.Sl.Row (α:=Go.Proofs.YtkdelpdbjfpgmaaGreatDoor.U8) 5 ([Go.Proofs.YtkdelpdbjfpgmaaGreatDoor.wb k1,Go.Proofs.YtkdelpdbjfpgmaaGreatDoor.wb k2,Go.Proofs.YtkdelpdbjfpgmaaGreatDoor.wb (↑(List.length l):Int)]) ([])),(0,Option.some b1,Go.Obj.cells #[Go.Value.int Go.IntKind.i64 k1,Go.Value.int Go.IntKind.i64 k2,Go.Value.slice pa (List.length l) pc,Go.Value.int Go.IntKind.i64 x.ins,Go.Value.int Go.IntKind.i64 x.regs,Go.Value.slice xac x.code.length xcc,Go.Value.slice xao x.outs.length xoc,Go.Value.int Go.IntKind.i64 y.ins,Go.Value.int Go.IntKind.i64 y.regs,Go.Value.slice yac y.code.length ycc,Go.Value.slice yao y.outs.length yoc,Go.Value.int Go.IntKind.i64 z.ins,Go.Value.int Go.IntKind.i64 z.regs,Go.Value.slice zac z.code.length zcc,Go.Value.slice zao z.outs.length zoc] 28)])) (fun (m,q,(o,d,j))=>m≤y.code.length∧q=r++[wb y.ins,wb y.regs]++pr y.code.length++(y.code.take m).flatMap eI∧A4 o d q j) (fun (m,q,(o,d,j))=>y.code.length - m) ((0,r++[wb y.ins,wb y.regs]++pr y.code.length,(o2,d2,j2))) (⟨aM _,by rw [bR,fW,aY],hoB⟩) ⟨U,U,U,U,U,U,U,U,U,F9⟩ ⟨U,U,U,U,F9⟩ fun ⟨m,q,(o,d,j)⟩=>fun hk=>?_;obtain ⟨hm0,hq,hoq⟩:=hk;have hql:q.length=r.length+4+6*m:=by
    rw [hq,aB,Ol,bG,cY hm0,aB,aB];rfl
   rcases aK m y.code.length with hml | hml
   · refine aI 13 [1] ?_;refine cD U (iI (α:=Sl.Instr) T.sl23 U U sO sN) ?_;refine cD U (gH T.agg91 U (lH sO sN) U) ?_;refine aO 7 U T.zero91 fun b6=>?_;refine aL 8 [7,7] ?_;refine cD U (cP U T.u5 U) ?_;refine aC 2 [7] ?_;refine cD U (cP U T.u5 U) ?_;refine aC 2 [7] ?_;refine cD U (cP U T.u5 U) ?_;refine aC 2 [7] ?_;refine cD U (cP U T.u5 U) ?_;refine cZ (α:=U8) 8 [wb (y.code[(m:Int).toNat]?.getD default).op,wb (y.code[(m:Int).toNat]?.getD default).to,wb (y.code[(m:Int).toNat]?.getD default).a,wb (y.code[(m:Int).toNat]?.getD default).b] U T.sl38 T.el5 U U U U U fun b7=>?_;refine eH (α:=U8) 3 U T.sl38 T.el5 U U U yY (dT 8 U) uM uM fun a2 c2 junk2 ho2=>?_;refine aL 7 [7] ?_;refine bV 3 U (EU _ a2 c2 _ junk2 _ ho2 KX) fun v3 G3 Ho3 hle3 hp=>?_;obtain ⟨o3,d3,j3,rfl,hoC,rfl,rfl⟩:=hp;refine aS 8 [] ?_;refine eO ((m+1,q++[wb (y.code[(m:Int).toNat]?.getD default).op,wb (y.code[(m:Int).toNat]?.getD default).to,wb (y.code[(m:Int).toNat]?.getD default).a,wb (y.code[(m:Int).toNat]?.getD default).b]++pr (y.code[(m:Int).toNat]?.getD default).c,(o3,d3,j3))) ?_ ?_ U ⟨U,U,U,U,U,U,U,U,U,F9⟩ ⟨U,U,U,U,F9⟩
     · exact ⟨by omega,by rw [hq,Xv hml];simp only [aR,eI],hoC⟩
     show y.code.length - (m+1)<y.code.length - m;omega
   have hmm:m=y.code.length:=sN;subst hmm;rw [aZ] at hq;refine aI 20 [0,0] ?_;refine cD U (cP U T.u5 U) ?_;refine cZ (α:=U8) 9 [wb y.outs.length] U T.sl38 T.el5 U U U U U fun b8=>?_;refine eH (α:=U8) 3 U T.sl38 T.el5 U U U yY (dT 9 U) uM uM fun a2 c2 junk2 ho2=>?_;refine bB 14 [0] ?_;refine fT (ι:=Nat×List U8×(Option Addr×Nat×List Value)) (fun (m,q2,(o,d,j))=>([(117,.int .i64 (m:Int)),(5,.slice o q2.length d),(50,.agg #[.pointer (some ⟨b1,3,none⟩),.pointer (some ⟨b1,7,none⟩),.pointer (some ⟨b1,11,none⟩)]),(116,Go.Value.int Go.IntKind.i64 (↑y.outs.length:Int)),(115,Go.Value.slice yao y.outs.length yoc),(51,Go.Value.int Go.IntKind.i64 1),(3,Go.Value.int Go.IntKind.i64 0),(2,Go.Value.slice Option.none 0 0)],[(3,o.map (·.block),Row 5 q2 j),(9,Option.some b8,Go.Sl.Row (α:=Go.Proofs.YtkdelpdbjfpgmaaGreatDoor.U8) 5 ([Go.Proofs.YtkdelpdbjfpgmaaGreatDoor.wb (↑y.outs.length:Int)]) ([])),(6,Option.some b5,Go.Sl.Row (α:=Go.Proofs.YtkdelpdbjfpgmaaGreatDoor.U8) 5 ([Go.Proofs.YtkdelpdbjfpgmaaGreatDoor.wb y.ins,Go.Proofs.YtkdelpdbjfpgmaaGreatDoor.wb y.regs]) ([])),(2,Option.some b3,Go.Sl.Row (α:=Go.Proofs.YtkdelpdbjfpgmaaGreatDoor.U8) 5 ([Go.Proofs.YtkdelpdbjfpgmaaGreatDoor.wb k1,Go.Proofs.YtkdelpdbjfpgmaaGreatDoor.wb k2,Go.Proofs.YtkdelpdbjfpgmaaGreatDoor.wb (↑(List.length l):Int)]) ([])),(0,Option.some b1,Go.Obj.cells #[Go.Value.int Go.IntKind.i64 k1,Go.Value.int Go.IntKind.i64 k2,Go.Value.slice pa (List.length l) pc,Go.Value.int Go.IntKind.i64 x.ins,Go.Value.int Go.IntKind.i64 x.regs,Go.Value.slice xac x.code.length xcc,Go.Value.slice xao x.outs.length xoc,Go.Value.int Go.IntKind.i64 y.ins,Go.Value.int Go.IntKind.i64 y.regs,Go.Value.slice yac y.code.length ycc,Go.Value.slice yao y.outs.length yoc,Go.Value.int Go.IntKind.i64 z.ins,Go.Value.int Go.IntKind.i64 z.regs,Go.Value.slice zac z.code.length zcc,Go.Value.slice zao z.outs.length zoc] 28)])) (fun (m,q2,(o,d,j))=>m≤y.outs.length∧q2=q++[wb y.outs.length]++(y.outs.take m).map wb∧A4 o d q2 j) (fun (m,q2,(o,d,j))=>y.outs.length - m) ((0,q++[wb y.outs.length],(a2,c2,junk2))) (⟨aM _,by rw [bR,mJ,aY],ho2⟩) ⟨U,U,U,U,U,U,U,U,F9⟩ ⟨U,U,U,U,U,F9⟩ fun ⟨m,q2,(o,d,j)⟩=>fun hk=>?_;obtain ⟨hm0,hq2,hoq⟩:=hk;have hql2:q2.length=q.length+1+m:=by
    rw [hq2,aB,aB,aN,bG,cY hm0];rfl
   rcases aK m y.outs.length with hml | hml
   · refine aI 13 [1] ?_;refine cD U (iI (α:=Int) T.sl24 U U sO sN) ?_;refine cD U (bW T.one3 U (gB sO sN 0 U U)) ?_;refine aL 6 [] ?_;refine cD U (cP U T.u5 U) ?_;refine cZ (α:=U8) 10 [wb (y.outs[(m:Int).toNat]?.getD default)] U T.sl38 T.el5 U U U U U fun b9=>?_;refine eH (α:=U8) 3 U T.sl38 T.el5 U U U yY (dT 10 U) uM uM fun a3 c3 junk3 ho3=>?_;refine aS 8 [] ?_;refine eO ((m+1,q2++[wb (y.outs[(m:Int).toNat]?.getD default)],(a3,c3,junk3))) ?_ ?_ U ⟨U,U,U,U,U,U,U,U,F9⟩ ⟨U,U,U,U,U,F9⟩
     · exact ⟨by omega,by rw [hq2,Ob hml,aR _ _ [_]],ho3⟩
     show y.outs.length - (m+1)<y.outs.length - m;omega
   have hmm:m=y.outs.length:=sN;subst hmm;rw [aZ] at hq2;refine bE 17 [0] ?_;refine eO ((1+1,q2,(o,d,j))) ?_ ?_ U ⟨U,U,U,U,U,F9⟩ ⟨U,U,U,F9⟩
   · refine ⟨by omega,?_,hoq⟩;show q2=A++(eP x++(eP y++[]));rw [hq2,hq,hr0];simp only [aY,aR,eP]
   show 3 - (1+1)<3 - 1;omega
 · have hr0:r=A++eP x++eP y:=by rw [hr];simp only [List.take,gV,fW,aY,aR]
   have hrl:r.length≤400000:=by rw [hr0];(try simp only [aB]);omega
   refine bI 6 [] ?_;refine qV U (show ((2:Nat):Int)<3 by decide) ?_;refine aI 6 [] ?_;refine cD U (Ez.Qy.indexV (n:=3) (E:=85) sR sR sR U U sY U) ?_;refine bB 4 [] ?_;refine gM [0,2,3] [(3,12),(2,12)] T.mixed U ?_;refine gL 0 [] [] ?_;refine gL 1 [] [] ?_;refine gL 2 [] [] ?_;refine gL 3 [] [] ?_;refine gL 4 [0] [0] ?_;refine dW 5 [] U (cP U T.u5 U) ?_;refine gL 6 [] [] ?_;refine gL 7 [] [] ?_;refine gL 8 [] [] ?_;refine gL 9 [0] [0] ?_;refine dW 10 [] U (cP U T.u5 U) ?_;refine bQ 11 ?_;refine cZ (α:=U8) 6 [wb z.ins,wb z.regs] U T.sl38 T.el5 U U U U U fun b5=>?_;refine bC ?_;refine bQ 12 ?_;refine eH (α:=U8) 3 U T.sl38 T.el5 U U U yY (dT 6 U) uM uM fun a1 c1 junk1 ho1=>?_;refine bC ?_;refine gL 13 [] [] ?_;refine dG ?_;refine lQ 9 [0] ?_;refine bV 3 U (EU _ a1 c1 _ junk1 _ ho1 KW) fun v2 G2 Ho2 hle2 hp=>?_;obtain ⟨o2,d2,j2,rfl,hoB,rfl,rfl⟩:=hp;refine bB 15 [0] ?_;refine fT (ι:=Nat×List U8×(Option Addr×Nat×List Value)) (fun (m,q,(o,d,j))=>([(79,.int .i64 (m:Int)),(5,.slice o q.length d),(50,.agg #[.pointer (some ⟨b1,3,none⟩),.pointer (some ⟨b1,7,none⟩),.pointer (some ⟨b1,11,none⟩)]),(78,Go.Value.int Go.IntKind.i64 (↑z.code.length:Int)),(77,Go.Value.slice zac z.code.length zcc),(9,Go.Value.pointer (Option.some (Go.Addr.mk b1 11 Option.none))),(51,Go.Value.int Go.IntKind.i64 (↑2:Int)),(3,Go.Value.int Go.IntKind.i64 0),(2,Go.Value.slice Option.none 0 0)],[(3,o.map (·.block),Row 5 q j),(6,Option.some b5,Go.Sl.Row (α:=Go.Proofs.YtkdelpdbjfpgmaaGreatDoor.U8) 5 ([Go.Proofs.YtkdelpdbjfpgmaaGreatDoor.wb z.ins,Go.Proofs.YtkdelpdbjfpgmaaGreatDoor.wb z.regs]) ([])),(2,Option.some b3,Go.Sl.Row (α:=Go.Proofs.YtkdelpdbjfpgmaaGreatDoor.U8) 5 ([Go.Proofs.YtkdelpdbjfpgmaaGreatDoor.wb k1,Go.Proofs.YtkdelpdbjfpgmaaGreatDoor.wb k2,Go.Proofs.YtkdelpdbjfpgmaaGreatDoor.wb (↑(List.length l):Int)]) ([])),(0,Option.some b1,Go.Obj.cells #[Go.Value.int Go.IntKind.i64 k1,Go.Value.int Go.IntKind.i64 k2,Go.Value.slice pa (List.length l) pc,Go.Value.int Go.IntKind.i64 x.ins,Go.Value.int Go.IntKind.i64 x.regs,Go.Value.slice xac x.code.length xcc,Go.Value.slice xao x.outs.length xoc,Go.Value.int Go.IntKind.i64 y.ins,Go.Value.int Go.IntKind.i64 y.regs,Go.Value.slice yac y.code.length ycc,Go.Value.slice yao y.outs.length yoc,Go.Value.int Go.IntKind.i64 z.ins,Go.Value.int Go.IntKind.i64 z.regs,Go.Value.slice zac z.code.length zcc,Go.Value.slice zao z.outs.length zoc] 28)])) (fun (m,q,(o,d,j))=>m≤z.code.length∧q=r++[wb z.ins,wb z.regs]++pr z.code.length++(z.code.take m).flatMap eI∧A4 o d q j) (fun (m,q,(o,d,j))=>z.code.length - m) ((0,r++[wb z.ins,wb z.regs]++pr z.code.length,(o2,d2,j2))) (⟨aM _,by rw [bR,fW,aY],hoB⟩) ⟨U,U,U,U,U,U,U,U,U,F9⟩ ⟨U,U,U,U,F9⟩ fun ⟨m,q,(o,d,j)⟩=>fun hk=>?_;obtain ⟨hm0,hq,hoq⟩:=hk;have hql:q.length=r.length+4+6*m:=by
    rw [hq,aB,Ol,bG,cY hm0,aB,aB];rfl
   rcases aK m z.code.length with hml | hml
   · refine aI 13 [1] ?_;refine cD U (iI (α:=Sl.Instr) T.sl23 U U sO sN) ?_;refine cD U (gH T.agg91 U (lH sO sN) U) ?_;refine aO 7 U T.zero91 fun b6=>?_;refine aL 8 [7,7] ?_;refine cD U (cP U T.u5 U) ?_;refine aC 2 [7] ?_;refine cD U (cP U T.u5 U) ?_;refine aC 2 [7] ?_;refine cD U (cP U T.u5 U) ?_;refine aC 2 [7] ?_;refine cD U (cP U T.u5 U) ?_;refine cZ (α:=U8) 8 [wb (z.code[(m:Int).toNat]?.getD default).op,wb (z.code[(m:Int).toNat]?.getD default).to,wb (z.code[(m:Int).toNat]?.getD default).a,wb (z.code[(m:Int).toNat]?.getD default).b] U T.sl38 T.el5 U U U U U fun b7=>?_;refine eH (α:=U8) 3 U T.sl38 T.el5 U U U yY (dT 8 U) uM uM fun a2 c2 junk2 ho2=>?_;refine aL 7 [7] ?_;refine bV 3 U (EU _ a2 c2 _ junk2 _ ho2 KX) fun v3 G3 Ho3 hle3 hp=>?_;obtain ⟨o3,d3,j3,rfl,hoC,rfl,rfl⟩:=hp;refine aS 8 [] ?_;refine eO ((m+1,q++[wb (z.code[(m:Int).toNat]?.getD default).op,wb (z.code[(m:Int).toNat]?.getD default).to,wb (z.code[(m:Int).toNat]?.getD default).a,wb (z.code[(m:Int).toNat]?.getD default).b]++pr (z.code[(m:Int).toNat]?.getD default).c,(o3,d3,j3))) ?_ ?_ U ⟨U,U,U,U,U,U,U,U,U,F9⟩ ⟨U,U,U,U,F9⟩
     · exact ⟨by omega,by rw [hq,Xv hml];simp only [aR,eI],hoC⟩
     show z.code.length - (m+1)<z.code.length - m;omega
   have hmm:m=z.code.length:=sN;subst hmm;rw [aZ] at hq;refine aI 20 [0,0] ?_;refine cD U (cP U T.u5 U) ?_;refine cZ (α:=U8) 9 [wb z.outs.length] U T.sl38 T.el5 U U U U U fun b8=>?_;refine eH (α:=U8) 3 U T.sl38 T.el5 U U U yY (dT 9 U) uM uM fun a2 c2 junk2 ho2=>?_;refine bB 14 [0] ?_;refine fT (ι:=Nat×List U8×(Option Addr×Nat×List Value)) (fun (m,q2,(o,d,j))=>([(117,.int .i64 (m:Int)),(5,.slice o q2.length d),(50,.agg #[.pointer (some ⟨b1,3,none⟩),.pointer (some ⟨b1,7,none⟩),.pointer (some ⟨b1,11,none⟩)]),(116,Go.Value.int Go.IntKind.i64 (↑z.outs.length:Int)),(115,Go.Value.slice zao z.outs.length zoc),(51,Go.Value.int Go.IntKind.i64 2),(3,Go.Value.int Go.IntKind.i64 0),(2,Go.Value.slice Option.none 0 0)],[(3,o.map (·.block),Row 5 q2 j),(9,Option.some b8,Go.Sl.Row (α:=Go.Proofs.YtkdelpdbjfpgmaaGreatDoor.U8) 5 ([Go.Proofs.YtkdelpdbjfpgmaaGreatDoor.wb (↑z.outs.length:Int)]) ([])),(6,Option.some b5,Go.Sl.Row (α:=Go.Proofs.YtkdelpdbjfpgmaaGreatDoor.U8) 5 ([Go.Proofs.YtkdelpdbjfpgmaaGreatDoor.wb z.ins,Go.Proofs.YtkdelpdbjfpgmaaGreatDoor.wb z.regs]) ([])),(2,Option.some b3,Go.Sl.Row (α:=Go.Proofs.YtkdelpdbjfpgmaaGreatDoor.U8) 5 ([Go.Proofs.YtkdelpdbjfpgmaaGreatDoor.wb k1,Go.Proofs.YtkdelpdbjfpgmaaGreatDoor.wb k2,Go.Proofs.YtkdelpdbjfpgmaaGreatDoor.wb (↑(List.length l):Int)]) ([])),(0,Option.some b1,Go.Obj.cells #[Go.Value.int Go.IntKind.i64 k1,Go.Value.int Go.IntKind.i64 k2,Go.Value.slice pa (List.length l) pc,Go.Value.int Go.IntKind.i64 x.ins,Go.Value.int Go.IntKind.i64 x.regs,Go.Value.slice xac x.code.length xcc,Go.Value.slice xao x.outs.length xoc,Go.Value.int Go.IntKind.i64 y.ins,Go.Value.int Go.IntKind.i64 y.regs,Go.Value.slice yac y.code.length ycc,Go.Value.slice yao y.outs.length yoc,Go.Value.int Go.IntKind.i64 z.ins,Go.Value.int Go.IntKind.i64 z.regs,Go.Value.slice zac z.code.length zcc,Go.Value.slice zao z.outs.length zoc] 28)])) (fun (m,q2,(o,d,j))=>m≤z.outs.length∧q2=q++[wb z.outs.length]++(z.outs.take m).map wb∧A4 o d q2 j) (fun (m,q2,(o,d,j))=>z.outs.length - m) ((0,q++[wb z.outs.length],(a2,c2,junk2))) (⟨aM _,by rw [bR,mJ,aY],ho2⟩) ⟨U,U,U,U,U,U,U,U,F9⟩ ⟨U,U,U,U,U,F9⟩ fun ⟨m,q2,(o,d,j)⟩=>fun hk=>?_;obtain ⟨hm0,hq2,hoq⟩:=hk;have hql2:q2.length=q.length+1+m:=by
    rw [hq2,aB,aB,aN,bG,cY hm0];rfl
   rcases aK m z.outs.length with hml | hml
   · refine aI 13 [1] ?_;refine cD U (iI (α:=Int) T.sl24 U U sO sN) ?_;refine cD U (bW T.one3 U (gB sO sN 0 U U)) ?_;refine aL 6 [] ?_;refine cD U (cP U T.u5 U) ?_;refine cZ (α:=U8) 10 [wb (z.outs[(m:Int).toNat]?.getD default)] U T.sl38 T.el5 U U U U U fun b9=>?_;refine eH (α:=U8) 3 U T.sl38 T.el5 U U U yY (dT 10 U) uM uM fun a3 c3 junk3 ho3=>?_;refine aS 8 [] ?_;refine eO ((m+1,q2++[wb (z.outs[(m:Int).toNat]?.getD default)],(a3,c3,junk3))) ?_ ?_ U ⟨U,U,U,U,U,U,U,U,F9⟩ ⟨U,U,U,U,U,F9⟩
     · exact ⟨by omega,by rw [hq2,Ob hml,aR _ _ [_]],ho3⟩
     show z.outs.length - (m+1)<z.outs.length - m;omega
   have hmm:m=z.outs.length:=sN;subst hmm;rw [aZ] at hq2;refine bE 17 [0] ?_;refine eO ((2+1,q2,(o,d,j))) ?_ ?_ U ⟨U,U,U,U,U,F9⟩ ⟨U,U,U,F9⟩
   · refine ⟨by omega,?_,hoq⟩;show q2=A++(eP x++(eP y++(eP z++[])));rw [hq2,hq,hr0];simp only [aY,aR,eP]
   show 3 - (2+1)<3 - 2;omega
 have hr0:r=A++(eP x++(eP y++(eP z++[]))):=hr;have hrE:r=eB ⟨k1,k2,l,x,y,z⟩:=by
  rw [hr0,hAe];show _=JN k1 k2 l.length++l.flatMap eQ++eP x++eP y++eP z;simp only [aY,aR]
 have hzl:=Ir z;have hrl:r.length≤65520:=by
  rw [hr0,aY,aB,aB,aB];omega
 have hBy:C6 r:=by rw [hrE];exact (RC _).bytes
 refine aI 16 [0] ?_;refine Ja 4 U T.fn126 U (fun Gx hGx hgx=>(cu _ _ _ r (by first | exact Arr.up sO hGx | exact kC _ | exact rI hgx 3 rfl KV | exact rI hgx 2 rfl KV) hBy hrl)) fun v1 Gx1 G1 Ho1 hlx1 hp=>?_;obtain ⟨rfl,rfl,rfl⟩:=hp;refine bV 3 U (EU _ o d r j _ hob sN) fun v3 G3 Ho3 hle3 hp=>?_;obtain ⟨o3,d3,j3,rfl,hoC,rfl,rfl⟩:=hp;refine aS 5 [] ?_;refine cX 3 U hoC fun G9 hle9 hA9=>?_;refine gZ (.inr U) (Ho:=[]) U (.tmp U) (.tmp U) F9 ?_;have e:r++pr (wU r r.length)=eU ⟨k1,k2,l,x,y,z⟩:=by rw [hrE];rfl
 rw [←e];exact ⟨_,_,U,hA9,hoC.le,U⟩
end
def CR:PV:=⟨2,3,[⟨3,2,0,1,0⟩],[0,2,1]⟩
def VW:PV:=⟨3,3,[⟨4,1,1,0,0⟩,⟨4,1,1,2,0⟩],[0,1,2]⟩
def CS:List R2:=[⟨0,1⟩,⟨1,1⟩,⟨1,0⟩]
def RL:UV:=⟨2,2,CS,CR,CR,VW⟩
theorem CF:tF ((2:Nat):Int) ((2:Nat):Int) CS=0:=by
 refine Zv ⟨⟨by decide,by decide⟩,⟨by decide,by decide⟩⟩ (fun i hi=>?_) sY ?_
 · have h3:i=0∨i=1∨i=2:=by have:CS.length=3:=rfl;omega
   rcases h3 with rfl | rfl | rfl <;> (unfold near;decide)
 rintro (⟨i,hi,h1⟩ | ⟨j,hj,i,hi,h1⟩)
 · have h3:i=0∨i=1∨i=2:=by have:CS.length=3:=rfl;omega
   rcases h3 with rfl | rfl | rfl <;> exact absurd h1 sY
 have h3:(i=0∧j=1)∨(i=0∧j=2)∨(i=1∧j=2):=by have:CS.length=3:=rfl;omega
 rcases h3 with ⟨rfl,rfl⟩ | ⟨rfl,rfl⟩ | ⟨rfl,rfl⟩ <;> (revert h1;unfold Wj;decide)
theorem HO:tS ((2:Nat):Int) ((2:Nat):Int) CS CR CR VW=(0,0):=
 Jv CF Mt Mt Mt Mt Mt Mt
theorem ZD:vQ (JM RL)=(RL,⟨63,false⟩):=sR
theorem ZE:Ia (JM RL)=(RL,0,0):=EC ZD U sR (by show (tS ((2:Nat):Int) ((2:Nat):Int) CS CR CR VW).2=0;rw [HO])
theorem ms (G:A3):Does Tryz.prog 51 [] G [] (fun v G' Ho=>∃ (pa xac xao zac zao:Option Addr) (pc xcc xoc zcc zoc:Nat),v=.agg #[.int .i64 2,.int .i64 2,.slice pa CS.length pc,.int .i64 CR.ins,.int .i64 CR.regs,.slice xac CR.code.length xcc,.slice xao CR.outs.length xoc,.int .i64 CR.ins,.int .i64 CR.regs,.slice xac CR.code.length xcc,.slice xao CR.outs.length xoc,.int .i64 VW.ins,.int .i64 VW.regs,.slice zac VW.code.length zcc,.slice zao VW.outs.length zoc]∧Arr G' pa CS∧CS.length≤pc∧Arr G' xac CR.code∧Arr G' xao CR.outs∧Arr G' zac VW.code∧Arr G' zao VW.outs∧Ho=[]):=by
 refine gF Tryz.func51 U Tryz.ntmps51 U fun w=>?_;refine aI 2 [] ?_;refine aO 0 U T.zero28 fun b1=>?_;refine aL 4 [] ?_;refine cD U (bP (cs:=[_,_,_,_,_]) T.st91 U U U) ?_;refine cZ (α:=Sl.Instr) 1 [⟨3,2,0,1,0⟩] U T.sl23 T.el91 U U U U U fun b2=>?_;refine cZ (α:=Int) 2 [(0),(2),(1)] U T.sl24 T.el3 U U U U U fun b3=>?_;refine cD U (bP (cs:=[_,_,_,_]) T.st26 U U U) ?_;refine aO 3 U T.zero26 fun b4=>?_;refine aL 5 [3] ?_;refine cD U (bP (cs:=[_,_,_,_,_]) T.st91 U U U) ?_;refine cD U (bP (cs:=[_,_,_,_,_]) T.st91 U U U) ?_;refine cZ (α:=Sl.Instr) 4 [⟨4,1,1,0,0⟩,⟨4,1,1,2,0⟩] U T.sl23 T.el91 U U U U U fun b5=>?_;refine cZ (α:=Int) 5 [(0),(1),(2)] U T.sl24 T.el3 U U U U U fun b6=>?_;refine cD U (bP (cs:=[_,_,_,_]) T.st26 U U U) ?_;refine aO 6 U T.zero26 fun b7=>?_;refine bB 4 [6] ?_;refine gM [0,1,2,3,4,5,6] [(0,6)] T.mixed U ?_;refine gL 2 [3] [3] ?_;refine gL 3 [3] [3] ?_;refine gL 4 [6] [6] ?_;refine bQ 0 ?_;refine cZ (α:=Int) 7 [(0),(1),(1),(1),(1),(0)] U T.sl24 T.el3 U U U U U fun b8=>?_;refine bC ?_;refine bQ 1 ?_;refine fG (α:=Int) 7 U (fK (xs:=[(0:Int),1,1,1,1,0]) Ea) fun G1 hle1 hA1=>?_;refine bV 9 U (c21 _ _ _ [0,1,1,1,1,0] 3 hA1 U sY) fun v2 G2 Ho2 hle2 hp=>?_;obtain ⟨b19,d19,rfl,hA2,hd19,rfl⟩:=hp;refine bC ?_;refine dW 5 [] U (bP (cs:=[_,_,_,_,_,_,_,_,_,_,_,_,_,_,_]) T.st28 U U U) ?_;refine bQ 6 ?_;refine aC 1 [0] ?_;refine bC ?_;refine dG ?_;refine eE 2 [] ?_;refine cX (α:=Sl.Instr) 1 U (fK (xs:=CR.code) (by simp [maxLen,CR])) fun G3 hle3 hB1=>?_;refine cX (α:=Int) 2 U (fK (xs:=CR.outs) (by simp [maxLen,CR])) fun G4 hle4 hB2=>?_;refine cX (α:=Sl.Instr) 4 U (fK (xs:=VW.code) (by simp [maxLen,VW])) fun G5 hle5 hB3=>?_;refine cX (α:=Int) 5 U (fK (xs:=VW.outs) (by simp [maxLen,VW])) fun G6 hle6 hB4=>?_;refine cH (.inr U) (Ho:=[]) U (.agg 0 U U T.agg28) F9 ?_;exact ⟨b19,_,_,_,_,d19,_,_,_,_,U,(((hA2.up hle3).up hle4).up hle5).up hle6,hd19,((hB1.up hle4).up hle5).up hle6,(hB2.up hle5).up hle6,hB3.up hle6,hB4,U⟩
theorem mu (G:A3) (a:Option Addr) (c:Nat) (hA:Arr G a (JM RL)) (hc:(JM RL).length≤c) (hB:C6 (JM RL)) :
 Does Tryz.prog 17 [.slice a (JM RL).length c] G [] (fun v G' Ho=>∃ (pa xac xao yac yao zac zao:Option Addr) (pc xcc xoc ycc yoc zcc zoc:Nat),v=.tuple #[.agg #[.int .i64 2,.int .i64 2,.slice pa CS.length pc,.int .i64 CR.ins,.int .i64 CR.regs,.slice xac CR.code.length xcc,.slice xao CR.outs.length xoc,.int .i64 CR.ins,.int .i64 CR.regs,.slice yac CR.code.length ycc,.slice yao CR.outs.length yoc,.int .i64 VW.ins,.int .i64 VW.regs,.slice zac VW.code.length zcc,.slice zao VW.outs.length zoc],.agg #[.int .i64 0,.int .i64 0]]∧(Arr G' pa CS∧Arr G' xac CR.code∧Arr G' xao CR.outs∧Arr G' yac CR.code∧Arr G' yao CR.outs∧Arr G' zac VW.code∧Arr G' zao VW.outs)∧Ho=[]):=
 (c17 G a c (JM RL) hA hc hB sY).mono fun v G' Ho _ ⟨⟨pa,pc,⟨xi,xr,xac,xn,xcc,xao,xm,xoc⟩,⟨yi,yr,yac,yn,ycc,yao,ym,yoc⟩,⟨zi,zr,zac,zn,zcc,zao,zm,zoc⟩,e,hu⟩,e0⟩=>by
  rw [ZE] at e hu;obtain ⟨h1,h2,h3,h4,h5⟩:=hu;obtain ⟨rfl,rfl,rfl,rfl,q1,q2⟩:=h3;obtain ⟨rfl,rfl,rfl,rfl,q3,q4⟩:=h4;obtain ⟨rfl,rfl,rfl,rfl,q5,q6⟩:=h5;exact ⟨pa,xac,xao,yac,yao,zac,zao,pc,xcc,xoc,ycc,yoc,zcc,zoc,e,⟨h2,q1,q2,q3,q4,q5,q6⟩,e0⟩
section
attribute [local irreducible] tS vQ Ia JM
theorem fc {f:FuncId} {args:List Value} {G:A3} {q:Value→Prop} (h:Does Tryz.prog f args G [] (fun v G' Ho=>q v∧Ho=[])):Does Tryz.prog f args G [] (fun v G' Ho=>q v∧G'=G∧Ho=[]):=
 fun w hw=>(h w hw).mono fun _ _ ⟨v,G',Ho,h1,h2,h3,h4,h5,h6,h7⟩=>⟨v,G,Ho,h1,h2.less h3,bN _,h4,fun b h8 h9=>(h8 h9).elim,h6,h7.1,U,h7.2⟩
theorem VX:∀ i:Nat,i<CS.length→near (CS[i]?.getD default).a (CS[i]?.getD default).b:=fun i hi=>by
 have h3:i=0∨i=1∨i=2:=by have:CS.length=3:=rfl;omega
 rcases h3 with rfl | rfl | rfl <;> (unfold near;decide)
theorem mv:E2 (JM RL):=by unfold E2;decide +kernel
theorem RD:tS 2 2 CS CR CR VW=(0,0):=HO
theorem mw (G:A3) (hT:TabOk G):Does Tryz.prog 10 [] G [] (fun v G' Ho=>v=.bool (decide (1=1))∧Ho=[]):=by
 refine gF Tryz.func10 U Tryz.ntmps10 U fun w=>?_;refine aI 7 [] ?_;refine bV 9 U (ms _) fun v1 G1 Ho1 hle1 hp=>?_;obtain ⟨pa,xac,xao,zac,zao,pc,xcc,xoc,zcc,zoc,rfl,hpa,hpl,hxc,hxo,hzc,hzo,rfl⟩:=hp;skip;refine bV 9 U (cx _ 2 2 CS pa pc CR CR VW xac xao xac xao zac zao xcc xoc xcc xoc zcc zoc hpa hpl sY hxc hxo sY sY hxc hxo sY sY hzc hzo sY sY) fun v2 G2 Ho2 hle2 hp=>?_;obtain ⟨rfl,rfl⟩:=hp;refine fO 11 U (show _=Value.tuple #[.int .i64 0,.int .i64 0] by rw [RD]) ?_;clear hpa hpl hxc hxo hzc hzo;refine aL 9 [] ?_;refine cZ (α:=Int) 0 [(0),(1),(1),(1),(1),(0)] U T.sl24 T.el3 U U U U U fun b1=>?_;refine fG (α:=Int) 0 U (fK (xs:=[(0:Int),1,1,1,1,0]) Ea) fun G3 hle3 hA1=>?_;refine bV 9 U (c21 _ _ _ [0,1,1,1,1,0] 3 hA1 U sY) fun v4 G4 Ho4 hle4 hp=>?_;obtain ⟨b4,d4,rfl,hL4,hd4,rfl⟩:=hp;skip;refine bV 9 U (mr _ (hT.up (aP (aP (aP hle1 hle2) hle3) hle4)) 2 2 b4 d4 CS hL4 sY hd4 CF) fun v5 G5 Ho5 hle5 hp=>?_;obtain ⟨X,Y,Z,ta,xc,xo,yc,yo,zc,zo,td,xcc',xoc',ycc',yoc',zcc',zoc',tj,zk,rfl,hU,⟨hRx,hRy,hRz⟩,hto,hXc,hXo,hYc,hYo,hZc,hZo,rfl⟩:=hp;refine fG 11 U hto fun G6 hle6 htA=>?_;refine fG 16 U hZo fun G7 hle7 hZoA=>?_;have h67:=aP hle6 hle7;obtain ⟨_,_,_,lx4,_,lx6,_,_⟩:=sT hRx;obtain ⟨_,_,_,ly4,_,ly6,_,_⟩:=sT hRy;obtain ⟨_,_,_,lz4,_,lz6,_,_⟩:=sT hRz;have hZ3:Z.outs.length=3:=by
  have h:=(Bl (show (tS ((2:Nat):Int) ((2:Nat):Int) CS X Y Z).2=0 by rw [hU])).2.2.2.2.2.2;unfold uE at h;exact h.2.2.1
 refine aC 3 [] ?_;refine aO 17 U T.zero28 fun b2=>?_;refine aL 7 [17,17] ?_;refine bV 9 U (cx _ 2 2 CS ta td X Y Z xc xo yc yo zc zo xcc' xoc' ycc' yoc' zcc' zoc' (htA.up hle7) hto.le sY (hXc.up h67) (hXo.up h67) lx4 sN (hYc.up h67) (hYo.up h67) ly4 sN (hZc.up h67) hZoA lz4 sN) fun v8 G8 Ho8 hle8 hp=>?_;obtain ⟨rfl,rfl⟩:=hp;refine fO 22 U (show _=Value.tuple #[.int .i64 0,.int .i64 0] by rw [show tS 2 2 CS X Y Z=(0,0) from hU]) ?_;clear hXc hXo hYc hYo hZc hZoA htA hL4 hA1;refine aL 9 [] ?_;refine bV 9 U (ms _) fun v9 G9 Ho9 hle9 hp=>?_;obtain ⟨qa,uac,uao,wac,wao,qc,ucc,uoc,wcc,woc,rfl,hpa,hpl,hxc,hxo,hzc,hzo,rfl⟩:=hp;skip;refine bV 9 U (c32 _ 2 2 CS qa qc CR CR VW uac uao uac uao wac wao ucc uoc ucc uoc wcc woc hpa sY VX hxc hxo sY sY sY hxc hxo sY sY sY hzc hzo sY sY sY) fun v10 G10 Ho10 hle10 hp=>?_;obtain ⟨s10,d10,rfl,hA10,hd10,rfl⟩:=hp;clear hpa hpl hxc hxo hzc hzo;skip;refine bV 9 U (mu _ s10 d10 hA10 hd10 mv.bytes) fun v11 G11 Ho11 hle11 hp=>?_;obtain ⟨pa',xac',xao',yac',yao',zac',zao',pc',xcc1,xoc1,ycc1,yoc1,zcc1,zoc1,rfl,⟨hpa,hxc,hxo,hyc,hyo,hzc,hzo⟩,rfl⟩:=hp;have hz3:([0,0]:List Int)=[0,0]:=rfl;refine aC 3 [] ?_;refine aO 18 U T.zero28 fun b3=>?_;refine aO 19 U T.zero42 fun b5=>?_;refine bB 5 [18,19] ?_;refine gM [17,18,19] [] T.mixed U ?_;refine gL 0 [] [] ?_;refine gL 1 [] [] ?_;refine gL 2 [] [] ?_;refine qI 33 U tY ?_;refine jS 3 [] sR U U U U (dD U) ?_;refine jS 4 [] sR U U U U (Qy.eql U U) ?_;refine gL 5 [] [] ?_;refine gL 6 [] [] ?_;refine qI 37 U tY ?_;refine jS 7 [] sR U U U U (dD U) ?_;refine jS 8 [] sR U U U U (Qy.eql U U) ?_;refine gL 9 [] [] ?_;refine gL 10 [] [] ?_;refine qI 41 U tY ?_;refine jS 11 [] sR U U U U (dD U) ?_;refine jS 12 [] sR U U U U (Qy.eql U U) ?_;refine gL 13 [] [] ?_;refine gL 14 [] [] ?_;refine qI 45 U tY ?_;refine jS 15 [] sR U U U U (dD U) ?_;refine jS 16 [] sR U U U U (Qy.eql U U) ?_;refine gL 17 [] [] ?_;refine gL 18 [] [] ?_;refine qI 49 U tY ?_;refine jS 19 [] sR U U U U (fX T.fa28_5 U) ?_;refine jS 20 [] sR U U U U (fX T.fa26_3 U) ?_;refine jS 21 [17] sR U U U U (kU 17 T.one24 U U U) ?_;refine jS 22 [] sR U U U U (Qy.len T.sl24 U) ?_;refine jS 23 [] sR U U U U (Qy.eql U U) ?_;refine gL 24 [] [] ?_;refine gL 25 [] [] ?_;refine qI 56 U tY ?_;refine jS 26 [19] sR U U U U (Hs 19 T.agg42 U U U) ?_;refine jS 27 [] sR U U U U (bP (cs:=[_,_]) T.st42 U U U) ?_;refine jS 28 [] sR U U U U (Nu [_,_] [_,_] T.ai42 U U U U) ?_;refine gL 29 [] [] ?_;refine gL 30 [] [] ?_;refine qI 61 U tY ?_;refine jS 31 [18] sR U U U U (Hs 18 T.agg28 U U U) ?_;refine bQ 32 ?_;refine aC 1 [] ?_;refine bV 9 U (ms _) fun v12 G12 Ho12 hle12 hp=>?_;obtain ⟨ra,rxc,rxo,rzc,rzo,rc,rxd,rxp,rzd,rzp,rfl,hra,_,hrxc,hrxo,hrzc,hrzo,rfl⟩:=hp;refine bC ?_;refine bQ 33 ?_;refine aC 1 [] ?_;refine bV 9 U (c15 _ 2 2 CS pa' ra pc' rc CR CR VW xac' xao' yac' yao' zac' zao' rxc rxo rxc rxo rzc rzo xcc1 xoc1 ycc1 yoc1 zcc1 zoc1 rxd rxp rxd rxp rzd rzp (hpa.up hle12) hra sY (hxc.up hle12) (hxo.up hle12) (hyc.up hle12) (hyo.up hle12) (hzc.up hle12) (hzo.up hle12) hrxc hrxo hrxc hrxo hrzc hrzo sY sY sY sY sY sY) fun v13 G13 Ho13 hle13 hp=>?_;obtain ⟨rfl,rfl,rfl⟩:=hp;refine bC ?_;refine gL 34 [] [] ?_;refine gL 35 [] [] ?_;refine dG ?_;refine eE 2 [] ?_;refine cH (.inr U) (Ho:=[]) U (.tmp U) F9 ?_;exact ⟨U,U⟩
theorem c10 (G:A3) (hT:TabOk G):Does Tryz.prog 10 [] G [] (fun v G' Ho=>v=.bool (decide (1=1))∧G'=G∧Ho=[]):=fc (mw G hT)
end
theorem ZF (G:A3) (p:PV) (ac ao bc bo:Option Addr) (cc co dc do_:Nat) (hc:Arr G ac p.code) (ho:Arr G ao p.outs) (hc':Arr G bc p.code) (ho':Arr G bo p.outs) (h1:p.code.length≤16384) (h2:p.outs.length≤16384) :
 Does Tryz.prog 42 [.agg (H8 p ac cc ao co),.agg #[.int .i64 p.ins,.int .i64 p.regs,.slice bc p.code.length dc,.slice bo p.outs.length do_]] G [] (fun v G' Ho=>v=.bool (decide (1=1))∧G'=G∧Ho=[]):=
 (kz G p p ac ao bc bo cc co dc do_ hc ho hc' ho' (bO h1 sY) (bO h2 sY) (bO h1 sY) (bO h2 sY)).mono fun v G' Ho _ h=>⟨h.1.trans (by rw [bL rfl,bL rfl]),h.2⟩
theorem c46 (G:A3) (k1 k2:Int) (l:List R2) (pa qa:Option Addr) (pc qc:Nat) (x y z:PV) (xac xao yac yao zac zao uac uao vac vao wac wao:Option Addr) (xcc xoc ycc yoc zcc zoc ucc uoc vcc voc wcc woc:Nat) (hpa:Arr G pa l) (hqa:Arr G qa l) (hl:l.length≤1048576) (hxc:Arr G xac x.code) (hxo:Arr G xao x.outs) (hyc:Arr G yac y.code) (hyo:Arr G yao y.outs) (hzc:Arr G zac z.code) (hzo:Arr G zao z.outs) (gxc:Arr G uac x.code) (gxo:Arr G uao x.outs) (gyc:Arr G vac y.code) (gyo:Arr G vao y.outs) (gzc:Arr G wac z.code) (gzo:Arr G wao z.outs) (hx1:x.code.length≤16384) (hx2:x.outs.length≤16384) (hy1:y.code.length≤16384) (hy2:y.outs.length≤16384) (hz1:z.code.length≤16384) (hz2:z.outs.length≤16384) :
 Does Tryz.prog 46 [.agg #[.int .i64 k1,.int .i64 k2,.slice pa l.length pc,.int .i64 x.ins,.int .i64 x.regs,.slice xac x.code.length xcc,.slice xao x.outs.length xoc,.int .i64 y.ins,.int .i64 y.regs,.slice yac y.code.length ycc,.slice yao y.outs.length yoc,.int .i64 z.ins,.int .i64 z.regs,.slice zac z.code.length zcc,.slice zao z.outs.length zoc],.agg #[.int .i64 k1,.int .i64 k2,.slice qa l.length qc,.int .i64 x.ins,.int .i64 x.regs,.slice uac x.code.length ucc,.slice uao x.outs.length uoc,.int .i64 y.ins,.int .i64 y.regs,.slice vac y.code.length vcc,.slice vao y.outs.length voc,.int .i64 z.ins,.int .i64 z.regs,.slice wac z.code.length wcc,.slice wao z.outs.length woc]] G [] (fun v G' Ho=>v=.bool (decide (1=1))∧G'=G∧Ho=[]):=by
 refine gF Tryz.func46 U Tryz.ntmps46 U fun w=>?_;refine aI 2 [] ?_;refine nB 0 U U U fun b1=>?_;refine nB 1 U U U fun b2=>?_;refine aL 11 [0,1] ?_;refine kL 10 U tY ?_;refine aC 12 [0,1] ?_;refine kL 17 U tY ?_;refine aC 9 [0,1] ?_;refine cI U (mo _ _ _ _ _ l hpa hqa sN) ?_;refine aC 2 [] ?_;refine kL 24 U tY ?_;refine aC 3 [] ?_;refine cD U (eF 0 T.agg26 U U U U) ?_;refine aC 3 [] ?_;refine cD U (eF 1 T.agg26 U U U U) ?_;refine aC 1 [] ?_;refine cI U (ZF _ x xac xao uac uao xcc xoc ucc uoc hxc hxo gxc gxo hx1 hx2) ?_;refine aC 2 [] ?_;refine kL 31 U tY ?_;refine aC 3 [] ?_;refine cD U (eF 0 T.agg26 U U U U) ?_;refine aC 3 [] ?_;refine cD U (eF 1 T.agg26 U U U U) ?_;refine aC 1 [] ?_;refine cI U (ZF _ y yac yao vac vao ycc yoc vcc voc hyc hyo gyc gyo hy1 hy2) ?_;refine aC 2 [] ?_;refine kL 38 U tY ?_;refine aC 3 [] ?_;refine cD U (eF 0 T.agg26 U U U U) ?_;refine aC 3 [] ?_;refine cD U (eF 1 T.agg26 U U U U) ?_;refine aC 1 [] ?_;refine cI U (ZF _ z zac zao wac wao zcc zoc wcc woc hzc hzo gzc gzo hz1 hz2) ?_;refine aS 5 [] ?_;refine cV ?_;exact ⟨U,U,U⟩
theorem my (G:A3) (a:Option Addr) (c:Nat) (u:UV) (hA:Arr G a (eU u)) (hc:(eU u).length≤c) (hB:C6 (eU u)) (hl:(eU u).length≤65520) (hU:(tS u.k1 u.k2 u.pl u.x u.y u.z).2=0) :
 Does Tryz.prog 17 [.slice a (eU u).length c] G [] (fun v G' Ho=>∃ (pa xac xao yac yao zac zao:Option Addr) (pc xcc xoc ycc yoc zcc zoc:Nat),v=.tuple #[.agg #[.int .i64 u.k1,.int .i64 u.k2,.slice pa u.pl.length pc,.int .i64 u.x.ins,.int .i64 u.x.regs,.slice xac u.x.code.length xcc,.slice xao u.x.outs.length xoc,.int .i64 u.y.ins,.int .i64 u.y.regs,.slice yac u.y.code.length ycc,.slice yao u.y.outs.length yoc,.int .i64 u.z.ins,.int .i64 u.z.regs,.slice zac u.z.code.length zcc,.slice zao u.z.outs.length zoc],.agg #[.int .i64 0,.int .i64 0]]∧(Arr G' pa u.pl∧Arr G' xac u.x.code∧Arr G' xao u.x.outs∧Arr G' yac u.y.code∧Arr G' yao u.y.outs∧Arr G' zac u.z.code∧Arr G' zao u.z.outs)∧Ho=[]):=
 (c17 G a c (eU u) hA hc hB hl).mono fun v G' Ho _ ⟨⟨pa,pc,⟨xi,xr,xac,xn,xcc,xao,xm,xoc⟩,⟨yi,yr,yac,yn,ycc,yao,ym,yoc⟩,⟨zi,zr,zac,zn,zcc,zao,zm,zoc⟩,e,hu⟩,e0⟩=>by
  rw [VS hU] at e hu;obtain ⟨h1,h2,h3,h4,h5⟩:=hu;obtain ⟨rfl,rfl,rfl,rfl,q1,q2⟩:=h3;obtain ⟨rfl,rfl,rfl,rfl,q3,q4⟩:=h4;obtain ⟨rfl,rfl,rfl,rfl,q5,q6⟩:=h5;exact ⟨pa,xac,xao,yac,yao,zac,zao,pc,xcc,xoc,ycc,yoc,zcc,zoc,e,⟨h2,q1,q2,q3,q4,q5,q6⟩,e0⟩
theorem ZG (u:UV):E2 (eU u):=(RC u).app (ES _)
theorem ZH (u:UV):(eU u).length=9+2*u.pl.length+(eP u.x).length+(eP u.y).length+(eP u.z).length:=by
 unfold eU eB;rw [aB,aB,aB,aB,aB,Xt];show 7+_+_+_+_+2=_;omega
section
attribute [local irreducible] tS vQ Ia eU sP
theorem fd (G:A3) (k1 k2:Int) (l:List R2) (pa:Option Addr) (pc:Nat) (x y z:PV) (xac xao yac yao zac zao:Option Addr) (xcc xoc ycc yoc zcc zoc:Nat) (hpa:Arr G pa l) (hpc:l.length≤pc) (hxc:Arr G xac x.code) (hxo:Arr G xao x.outs) (hyc:Arr G yac y.code) (hyo:Arr G yao y.outs) (hzc:Arr G zac z.code) (hzo:Arr G zao z.outs) (hsum:x.code.length+y.code.length+z.code.length≤10000) (hU:tS k1 k2 l x y z=(0,0)) :
 Does Tryz.prog 40 [.agg #[.int .i64 k1,.int .i64 k2,.slice pa l.length pc,.int .i64 x.ins,.int .i64 x.regs,.slice xac x.code.length xcc,.slice xao x.outs.length xoc,.int .i64 y.ins,.int .i64 y.regs,.slice yac y.code.length ycc,.slice yao y.outs.length yoc,.int .i64 z.ins,.int .i64 z.regs,.slice zac z.code.length zcc,.slice zao z.outs.length zoc]] G [] (fun v G' Ho=>v=.bool (decide (1=1))∧Ho=[]):=by
 have hU2:(tS k1 k2 l x y z).2=0:=by rw [hU]
 obtain ⟨hW,hRx,hEx,hRy,hEy,hRz,hIz⟩:=Bl hU2;obtain ⟨hP1,hP2,hn,hRL⟩:=uS hW;unfold uP at hP1 hP2;have hl15:l.length≤15:=sN;have hin:∀ i:Nat,i<l.length→near (l[i]?.getD default).a (l[i]?.getD default).b:=fun i hi=>(Lx hRL hi).1;obtain ⟨x1,x2,x3,x4,x5,x6,x7,x8⟩:=sT hRx;obtain ⟨y1,y2,y3,y4,y5,y6,y7,y8⟩:=sT hRy;obtain ⟨z1,z2,z3,z4,z5,z6,z7,z8⟩:=sT hRz;have hlen:(eU ⟨k1,k2,l,x,y,z⟩).length≤65520:=by
  rw [ZH,Ir,Ir,Ir];show 9+2*l.length+(5+6*x.code.length+x.outs.length)+(5+6*y.code.length+y.outs.length)+(5+6*z.code.length+z.outs.length)≤_;omega
 refine gF Tryz.func40 U Tryz.ntmps40 U fun w=>?_;refine aI 2 [] ?_;refine nB 0 U U U fun b1=>?_;refine aL 6 [0] ?_;refine bV 9 U (cx _ k1 k2 l pa pc x y z xac xao yac yao zac zao xcc xoc ycc yoc zcc zoc hpa hpc sN hxc hxo sN sN hyc hyo sN sN hzc hzo sN sN) fun v1 G1 Ho1 hle1 hp=>?_;obtain ⟨rfl,rfl⟩:=hp;refine fO 11 U (show _=Value.tuple #[.int .i64 0,.int .i64 0] by rw [hU]) ?_;replace hpa:=hpa.up hle1;replace hxc:=hxc.up hle1;replace hxo:=hxo.up hle1;replace hyc:=hyc.up hle1;replace hyo:=hyo.up hle1;replace hzc:=hzc.up hle1;replace hzo:=hzo.up hle1;refine aL 10 [0] ?_;refine bV 9 U (c80 _ k1 k2 l pa pc x y z xac xao yac yao zac zao xcc xoc ycc yoc zcc zoc hpa hP1 hP2 hl15 hin hxc hxo hRx hyc hyo hRy hzc hzo hRz hsum) fun v2 G2 Ho2 hle2 hp=>?_;obtain ⟨a2,c2,rfl,hA2,hc2,rfl⟩:=hp;replace hpa:=hpa.up hle2;replace hxc:=hxc.up hle2;replace hxo:=hxo.up hle2;replace hyc:=hyc.up hle2;replace hyo:=hyo.up hle2;replace hzc:=hzc.up hle2;replace hzo:=hzo.up hle2;refine aL 10 [] ?_;refine bV 9 U (my _ a2 c2 ⟨k1,k2,l,x,y,z⟩ hA2 hc2 (ZG _).bytes hlen hU2) fun v3 G3 Ho3 hle3 hp=>?_;obtain ⟨qa,uac,uao,vac,vao,wac,wao,qc,ucc,uoc,vcc,voc,wcc,woc,rfl,⟨gqa,gxc,gxo,gyc,gyo,gzc,gzo⟩,rfl⟩:=hp;replace hpa:=hpa.up hle3;replace hxc:=hxc.up hle3;replace hxo:=hxo.up hle3;replace hyc:=hyc.up hle3;replace hyo:=hyo.up hle3;replace hzc:=hzc.up hle3;replace hzo:=hzo.up hle3;have hz3:([0,0]:List Int)=[0,0]:=rfl;refine aC 3 [] ?_;refine aO 1 U T.zero28 fun b2=>?_;refine aO 2 U T.zero42 fun b3=>?_;refine aL 9 [1,2] ?_;refine kL 26 U tY ?_;refine aC 6 [] ?_;refine kL 30 U tY ?_;refine aC 3 [2] ?_;refine cD U (bP (cs:=[_,_]) T.st42 U U U) ?_;refine aC 1 [] ?_;refine cD U (Nu [_,_] [_,_] T.ai42 U U U U) ?_;refine aC 2 [] ?_;refine kL 35 U tY ?_;refine aC 5 [0,1] ?_;refine bV 9 U (c46 _ k1 k2 l pa qa pc qc x y z xac xao yac yao zac zao uac uao vac vao wac wao xcc xoc ycc yoc zcc zoc ucc uoc vcc voc wcc woc hpa gqa sN hxc hxo hyc hyo hzc hzo gxc gxo gyc gyo gzc gzo sN sN sN sN sN sN) fun v4 G4 Ho4 hle4 hp=>?_;obtain ⟨rfl,rfl,rfl⟩:=hp;refine aS 5 [] ?_;refine cH (.inr U) (Ho:=[]) U (.tmp U) F9 ?_;exact ⟨U,U⟩
end
def XA (k1 k2:Int) (pa:Option Addr) (pn pc:Nat) (x y z:PH):List Value:=[.int .i64 k1,.int .i64 k2,.slice pa pn pc,.int .i64 x.ins,.int .i64 x.regs,.slice x.ac x.cn x.cc,.slice x.ao x.on x.oc,.int .i64 y.ins,.int .i64 y.regs,.slice y.ac y.cn y.cc,.slice y.ao y.on y.oc,.int .i64 z.ins,.int .i64 z.regs,.slice z.ac z.cn z.cc,.slice z.ao z.on z.oc]
theorem c39 (G:A3) (k1 k2:Int) (pa:Option Addr) (pn pc:Nat) (x y z:PH) :
 Does Tryz.prog 39 [.agg (XA k1 k2 pa pn pc x y z).toArray] G [] (fun v G' Ho =>
  ∃ b,v=.func (.func 79) #[] #[.pointer (some ⟨b,0,none⟩)]∧Ho=[]∧G' b=some (.cells (XA k1 k2 pa pn pc x y z).toArray 28)):=by
 unfold XA;refine gF Tryz.func39 U Tryz.ntmps39 U fun w=>?_;refine aI 2 [] ?_;refine nB 0 U U U fun b1=>?_;refine aL 5 [] ?_;refine cD U (gR U U) ?_;refine aS 4 [] ?_;refine pZ 0 U fun G' hle hb=>?_;refine cH (.inr U) (Ho:=[]) U (.tmp U) F9 ?_;exact ⟨_,U,U,hb⟩
def ZI (p:PV) (y:PA):PH:=⟨p.ins,p.regs,y.a,p.code.length,y.c,y.b,p.outs.length,y.d⟩
def mz (k1 k2:Int) (pa:Option Addr) (pn pc:Nat) (X Y Z:PH) (i:Nat) (q:PH):List Value:=if i=0 then XA k1 k2 pa pn pc q Y Z else if i=1 then XA k1 k2 pa pn pc X q Z else XA k1 k2 pa pn pc X Y q
def ZJ (k1 k2:Int) (pa:Option Addr) (pn pc:Nat) (X Y Z:PH) (x:Nat×NP) (y:PA):List Value:=[.string x.2.name,.agg (mz k1 k2 pa pn pc X Y Z x.1 (ZI x.2.p y)).toArray]
def wO (x y z:PV):List (Nat×NP):=(sX x).map (fun r=>(0,r))++((sX y).map (fun r=>(1,r))++(sX z).map (fun r=>(2,r)))
def Gr (x y z:PV):Nat→Nat
 | 0=>0
 | 1=>(sX x).length
 | 2=>(sX x).length+(sX y).length
 | _=>(sX x).length+(sX y).length+(sX z).length
theorem Ry (x y z:PV):(wO x y z).length=Gr x y z 3:=by
 unfold wO Gr;rw [aB,aB,aN,aN,aN];show _=(sX x).length+(sX y).length+(sX z).length;omega
theorem VY {x y z:PV} {k:Nat} {r:NP} (h:(sX x)[k]?=some r):(wO x y z)[Gr x y z 0+k]?=some (0,r):=by
 have hk:=(bJ.1 h).1;unfold wO;rw [bF (by rw [aN];show 0+k<_;omega),bM];show ((sX x)[0+k]?).map _=_;rw [cR,h];rfl
theorem VZ {x y z:PV} {k:Nat} {r:NP} (h:(sX y)[k]?=some r):(wO x y z)[Gr x y z 1+k]?=some (1,r):=by
 have hk:=(bJ.1 h).1;unfold wO;show (_++_)[(sX x).length+k]?=_;rw [cB Iv,aN,iK,bF (by rw [aN];exact hk),bM,h];rfl
theorem WA {x y z:PV} {k:Nat} {r:NP} (h:(sX z)[k]?=some r):(wO x y z)[Gr x y z 2+k]?=some (2,r):=by
 have hk:=(bJ.1 h).1;unfold wO;show (_++_)[(sX x).length+(sX y).length+k]?=_;rw [cB Iv,aN,show (sX x).length+(sX y).length+k - (sX x).length=(sX y).length+k by omega,cB Iv,aN,iK,bM,h];rfl
theorem Sa {G:A3} {b:Nat} {cs:List Value} {T:TypeId} {fz:Nat×Nat} (h:G b=some (.cells cs.toArray T fz)) (o k:Nat):G.row b o ((cs.drop o).take k):=by
 intro i v hi;simp only [A3.cell,h];rw [mW] at hi;split at hi
 · rw [iZ] at hi;simpa using hi
 cases hi
section
attribute [local irreducible] tS sX sP xJ zA vL sU
theorem ng (G:A3) (hT:TabOk G) (k1 k2:Int) (pl:List R2) (pa:Option Addr) (pc:Nat) (x y z:PV) (xac xao yac yao zac zao:Option Addr) (xcc xoc ycc yoc zcc zoc:Nat) (hpa:Arr G pa pl) (hpc:pl.length≤pc) (hxc:Arr G xac x.code) (hxo:Arr G xao x.outs) (hyc:Arr G yac y.code) (hyo:Arr G yao y.outs) (hzc:Arr G zac z.code) (hzo:Arr G zao z.outs) (b:Nat)
 (hb:G b=some (.cells ([.int .i64 k1,.int .i64 k2,.slice pa pl.length pc,.int .i64 x.ins,.int .i64 x.regs,.slice xac x.code.length xcc,.slice xao x.outs.length xoc,.int .i64 y.ins,.int .i64 y.regs,.slice yac y.code.length ycc,.slice yao y.outs.length yoc,.int .i64 z.ins,.int .i64 z.regs,.slice zac z.code.length zcc,.slice zao z.outs.length zoc]:List Value).toArray 28)) (hU:tS k1 k2 pl x y z=(0,0)) :
 Ly Tryz.prog 79 [.pointer (some ⟨b,0,none⟩)] G (ZJ k1 k2 pa pl.length pc ⟨x.ins,x.regs,xac,x.code.length,xcc,xao,x.outs.length,xoc⟩ ⟨y.ins,y.regs,yac,y.code.length,ycc,yao,y.outs.length,yoc⟩ ⟨z.ins,z.regs,zac,z.code.length,zcc,zao,z.outs.length,zoc⟩) (fun r y=>eo r.2 y) (fun r y=>ep r.2 y) (fun r y=>WX r.2 y) (wO x y z):=by
 intro ι J inv stop ly i0 hi0 hY;have hU2:(tS k1 k2 pl x y z).2=0:=by rw [hU]
 obtain ⟨hW,hRx,hEx,hRy,hEy,hRz,hIz⟩:=Bl hU2;obtain ⟨hP1,hP2,hn,hRL⟩:=uS hW;unfold uP at hP1 hP2;obtain ⟨x1,x2,x3,x4,x5,x6,x7,x8⟩:=sT hRx;obtain ⟨y1,y2,y3,y4,y5,y6,y7,y8⟩:=sT hRy;obtain ⟨z1,z2,z3,z4,z5,z6,z7,z8⟩:=sT hRz;have hrow:=Fx hb;refine kA Tryz.func79 U Tryz.ntmps79 U fun w=>?_;refine Jd 1000 ?_;refine aI 2 [] ?_;refine nB 0 U U U fun b1=>?_;refine bB 2 [] ?_;refine mP ?_;refine aI 2 [] ?_;refine cD U (gH T.agg28 U sO U) ?_;refine bV 9 U (cx _ k1 k2 pl pa pc x y z xac xao yac yao zac zao xcc xoc ycc yoc zcc zoc hpa hpc sN hxc hxo sN sN hyc hyo sN sN hzc hzo sN sN) fun v1 G1 Ho1 hle1 hp=>?_;obtain ⟨rfl,rfl⟩:=hp;refine fO 11 U (show _=Value.tuple #[.int .i64 0,.int .i64 0] by rw [hU]) ?_;replace hpa:=hpa.up hle1;replace hxc:=hxc.up hle1;replace hxo:=hxo.up hle1;replace hyc:=hyc.up hle1;replace hyo:=hyo.up hle1;replace hzc:=hzc.up hle1;replace hzo:=hzo.up hle1;have hb1:=hle1 _ _ hb;clear hb hrow;refine aL 22 [0] ?_;refine bV 9 U (WY _ b) fun v2 G2 Ho2 hle2 hp=>?_;obtain ⟨ps,rfl,hps,rfl⟩:=hp;have hup0:G1.le G2:=hle2;refine bB 5 [] ?_;refine iV 17 U (show _=Value.int .i64 3 from U) ?_;refine LX (La.round ?_);refine aI 14 [1] ?_;refine aO 1 U T.zero3 fun b2=>?_;refine bB 4 [1] ?_;refine gM [0,1] [] T.mixed U ?_;refine gL 1 [1] [1] ?_;refine bQ 0 ?_;refine bV 9 U (WY _ b) fun w0 GA0 HA0 hleA0 hp=>?_;obtain ⟨ps0,rfl,hps0,rfl⟩:=hp;have hupA0:=aP hup0 hleA0;refine bC ?_;refine bQ 2 ?_;refine cD U (iI (α:=F3) T.sl86 U U hps0 (show 0≤((0:Nat):Int)∧((0:Nat):Int)<((3:Nat):Int) by decide)) ?_;refine bC ?_;refine bQ 3 ?_;refine cD U (bW T.one85 U (gB hps0 (show 0≤((0:Nat):Int)∧((0:Nat):Int)<((3:Nat):Int) by decide) 0 U U)) ?_;refine fO 24 U (show _=Value.pointer (some ⟨b,3,none⟩) from U) ?_;refine bC ?_;refine gL 4 [] [] ?_;refine bQ 5 ?_;refine cD U (gH T.agg26 U (show A3.row _ b 3 [.int .i64 x.ins,.int .i64 x.regs,.slice xac x.code.length xcc,.slice xao x.outs.length xoc] from Sa (hupA0 _ _ hb1) 3 4) U) ?_;refine bC ?_;refine bQ 6 ?_;refine bV 9 U (el _ x xac xao xcc xoc) fun x0 GB0 HB0 hleB0 hp=>?_;obtain ⟨bi0,rfl,rfl,hbi0⟩:=hp;have hAB0:=aP hleA0 hleB0;have hup1:=aP hupA0 hleB0;have hTB0:TabOk GB0:=(hT.up hle1).up hup1;have hb4:=hup1 _ _ hb1;have hrow4:=Fx hb4;refine bC ?_;refine dG ?_;refine lS 2 [] ?_;refine mQ (ι:=ι) 900 901 902 903 (fun s=>[(1,Option.some b2,Go.Obj.cells (List.toArray (List.set [Go.Value.int Go.IntKind.i64 0] 0 (Go.Value.int Go.IntKind.i64 0))) 3),(0,Option.some b1,Go.Obj.cells #[Go.Value.func (Go.Fn.yield ly) #[] #[]] 130)]++Hp.shift 1000 (J s)) (fun k s=>inv (Gr x y z 0+k) s) (fun c s=>c=.exit 0∧stop s) (i0) U T.fn93 (fun _ _=>rfl) U (QY _ hTB0 x _ _ _ _ bi0 (hxc.up hup1) (hxo.up hup1) hbi0 hRx) (hi0) (jO ⟨U,U,F9⟩ vU) ⟨U,fun _=>rB U U⟩ U (fun k xk yk s l dd qq w0 hx hgd hi=>?_) (fun s dd hi=>?_) fun s dd c hi=>?_
 · refine aI 6 [] ?_;refine aO 904 U T.zero26 fun b3=>?_;refine aS 2 [904] ?_;refine nQ 900 U ?_;refine aI 3 [] ?_;refine cD U (gH T.agg28 U sO U) ?_;refine aO 905 U T.zero28 fun b4=>?_;refine bB 4 [905] ?_;refine gM [0,1,901,903,902,904,900,905] [(905,6),(900,6),(904,6),(902,6),(903,6),(901,6),(1,6),(0,6)] T.mixed U ?_;refine gL 1 [1] [1] ?_;refine gL 4 [904] [904] ?_;refine bQ 0 ?_;refine bV 9 U (WY _ b4) fun u3 GC HC hleC hp=>?_;obtain ⟨qs,rfl,hqs,rfl⟩:=hp;have hGle:G.le GC:=aP hle1 (aP hup1 hleC);refine bC ?_;refine bQ 2 ?_;refine cD U (iI (α:=F3) T.sl86 U U hqs (show 0≤((0:Nat):Int)∧((0:Nat):Int)<((3:Nat):Int) by decide)) ?_;refine bC ?_;refine bQ 3 ?_;refine cD U (bW T.one85 U (gB hqs (show 0≤((0:Nat):Int)∧((0:Nat):Int)<((3:Nat):Int) by decide) 0 U U)) ?_;refine fO 34 U (show _=Value.pointer (some ⟨b4,3,none⟩) from U) ?_;refine bC ?_;refine gL 5 [] [] ?_;refine bQ 6 ?_;refine jT 905 T.size26 U U U U U U ?_;refine bC ?_;refine iN sR F9 wJ ?_;refine lQ 6 [0,905] ?_;refine pS (A:=[(900,some l,C2 qq .busy none),(901,some dd,.deferred (some [])),(1,some b2,.cells #[.int .i64 0] 3),(0,some b1,.cells #[.func (.yield ly) #[] #[]] 130)]) 1000 902 903 U U U U U U ⟨U,U,U,U,F9⟩ U U vU U ((hY (Gr x y z 0+k) (0,xk) yk s (VY hx) hgd hi).up hGle) fun vy Gv Hv hlv hp=>?_;obtain ⟨rfl,s',rfl,hp⟩:=hp;rcases hp with ⟨rfl,hst⟩ | ⟨rfl,hst⟩
   · refine aS 6 [0] ?_;refine kE ?_;refine gU none (.inl ⟨U,U⟩) 900 U ⟨U,(s',none),U,.inl ⟨U,U,?_⟩⟩ (hS U (hS U (jO ⟨U,U,F9⟩ vU)));exact hst
   refine aS 6 [1] ?_;refine kE ?_;refine gU (some ((.exit 0))) (.inr (.inr ⟨_,U,U⟩)) 900 U ⟨U,(s',some ((.exit 0))),U,.inr ⟨U,_,U,?_⟩⟩ (hS U (hS U (jO ⟨U,U,F9⟩ vU)));exact ⟨U,hst⟩
 · skip;have hinv1:inv (Gr x y z 1) s:=by
    have:=hi;rw [show Gr x y z 0+(sX x).length=Gr x y z 1 from cR _] at this;exact this
   obtain ⟨dd0,hdd⟩:∃ q,q=dd:=⟨_,U⟩
   subst hdd;refine eE 7 [] ?_;refine cJ 18 U (show _=Value.int .i64 ((1:Nat):Int) from U) ?_;refine Vv (La.round ?_);refine aI 14 [1] ?_;refine aO 902 U T.zero3 fun b3=>?_;refine bB 4 [902] ?_;refine gM [0,1,901,902] [] T.mixed U ?_;refine gL 1 [902] [902] ?_;refine bQ 0 ?_;refine bV 9 U (WY _ b) fun w1 GA1 HA1 hleA1 hp=>?_;obtain ⟨ps1,rfl,hps1,rfl⟩:=hp;have hupA1:=aP hup1 hleA1;refine bC ?_;refine bQ 2 ?_;refine cD U (iI (α:=F3) T.sl86 U U hps1 (show 0≤((1:Nat):Int)∧((1:Nat):Int)<((3:Nat):Int) by decide)) ?_;refine bC ?_;refine bQ 3 ?_;refine cD U (bW T.one85 U (gB hps1 (show 0≤((1:Nat):Int)∧((1:Nat):Int)<((3:Nat):Int) by decide) 0 U U)) ?_;refine fO 24 U (show _=Value.pointer (some ⟨b,7,none⟩) from U) ?_;refine bC ?_;refine gL 4 [] [] ?_;refine bQ 5 ?_;refine cD U (gH T.agg26 U (show A3.row _ b 7 [.int .i64 y.ins,.int .i64 y.regs,.slice yac y.code.length ycc,.slice yao y.outs.length yoc] from Sa (hupA1 _ _ hb1) 7 4) U) ?_;refine bC ?_;refine bQ 6 ?_;refine bV 9 U (el _ y yac yao ycc yoc) fun x1 GB1 HB1 hleB1 hp=>?_;obtain ⟨bi1,rfl,rfl,hbi1⟩:=hp;have hAB1:=aP hleA1 hleB1;have hup2:=aP hupA1 hleB1;have hTB1:TabOk GB1:=(hT.up hle1).up hup2;have hb4:=hup2 _ _ hb1;have hrow4:=Fx hb4;refine bC ?_;refine dG ?_;refine lS 2 [] ?_;refine mQ (ι:=ι) 910 911 912 913 (fun s=>[(902,Option.some b3,Go.Obj.cells (List.toArray (List.set [Go.Value.int Go.IntKind.i64 0] 0 (Go.Value.int Go.IntKind.i64 (↑1:Int)))) 3),(901,Option.some dd0,Go.Obj.deferred (Option.some [])),(1,Option.some b2,Go.Obj.cells (List.toArray (List.set [Go.Value.int Go.IntKind.i64 0] 0 (Go.Value.int Go.IntKind.i64 0))) 3),(0,Option.some b1,Go.Obj.cells #[Go.Value.func (Go.Fn.yield ly) #[] #[]] 130)]++Hp.shift 1000 (J s)) (fun k s=>inv (Gr x y z 1+k) s) (fun c s=>c=.exit 0∧stop s) (s) U T.fn93 (fun _ _=>rfl) U (QY _ hTB1 y _ _ _ _ bi1 (hyc.up hup2) (hyo.up hup2) hbi1 hRy) (by rw [iS];exact hinv1) (jO ⟨U,U,U,U,F9⟩ vU) ⟨U,fun _=>rB U U⟩ U (fun k xk yk s l dd qq w0 hx hgd hi=>?_) (fun s dd hi=>?_) fun s dd c hi=>?_
   · refine aI 6 [] ?_;refine aO 914 U T.zero26 fun b4=>?_;refine aS 2 [914] ?_;refine nQ 910 U ?_;refine aI 3 [] ?_;refine cD U (gH T.agg28 U sO U) ?_;refine aO 915 U T.zero28 fun b5=>?_;refine bB 4 [915] ?_;refine gM [0,1,901,902,911,913,912,914,910,915] [(915,6),(910,6),(914,6),(912,6),(913,6),(911,6),(902,6),(901,6),(1,6),(0,6)] T.mixed U ?_;refine gL 1 [902] [902] ?_;refine gL 4 [914] [914] ?_;refine bQ 0 ?_;refine bV 9 U (WY _ b5) fun u3 GC HC hleC hp=>?_;obtain ⟨qs,rfl,hqs,rfl⟩:=hp;have hGle:G.le GC:=aP hle1 (aP hup2 hleC);refine bC ?_;refine bQ 2 ?_;refine cD U (iI (α:=F3) T.sl86 U U hqs (show 0≤((1:Nat):Int)∧((1:Nat):Int)<((3:Nat):Int) by decide)) ?_;refine bC ?_;refine bQ 3 ?_;refine cD U (bW T.one85 U (gB hqs (show 0≤((1:Nat):Int)∧((1:Nat):Int)<((3:Nat):Int) by decide) 0 U U)) ?_;refine fO 34 U (show _=Value.pointer (some ⟨b5,7,none⟩) from U) ?_;refine bC ?_;refine gL 5 [] [] ?_;refine bQ 6 ?_;refine jT 915 T.size26 U U U U U U ?_;refine bC ?_;refine iN sR F9 wJ ?_;refine lQ 6 [0,915] ?_;refine pS (A:=[(910,some l,C2 qq .busy none),(911,some dd,.deferred (some [])),(902,some b3,.cells #[.int .i64 1] 3),(901,some dd0,.deferred (some [])),(1,some b2,.cells #[.int .i64 0] 3),(0,some b1,.cells #[.func (.yield ly) #[] #[]] 130)]) 1000 912 913 U U U U U U ⟨U,U,U,U,U,U,F9⟩ U U vU U ((hY (Gr x y z 1+k) (1,xk) yk s (VZ hx) hgd hi).up hGle) fun vy Gv Hv hlv hp=>?_;obtain ⟨rfl,s',rfl,hp⟩:=hp;rcases hp with ⟨rfl,hst⟩ | ⟨rfl,hst⟩
     · refine aS 6 [0] ?_;refine kE ?_;refine gU none (.inl ⟨U,U⟩) 910 U ⟨U,(s',none),U,.inl ⟨U,U,?_⟩⟩ (hS U (hS U (jO ⟨U,U,U,U,F9⟩ vU)));exact hst
     refine aS 6 [1] ?_;refine kE ?_;refine gU (some ((.exit 0))) (.inr (.inr ⟨_,U,U⟩)) 910 U ⟨U,(s',some ((.exit 0))),U,.inr ⟨U,_,U,?_⟩⟩ (hS U (hS U (jO ⟨U,U,U,U,F9⟩ vU)));exact ⟨U,hst⟩
   · skip;have hinv2:inv (Gr x y z 2) s:=by
      exact hi
     obtain ⟨dd1,hdd⟩:∃ q,q=dd:=⟨_,U⟩
     subst hdd;refine eE 7 [] ?_;refine cJ 18 U (show _=Value.int .i64 ((2:Nat):Int) from U) ?_;refine Vv (La.round ?_);refine aI 14 [1] ?_;refine aO 912 U T.zero3 fun b4=>?_;refine bB 4 [912] ?_;refine gM [0,1,901,902,911,912] [] T.mixed U ?_;refine gL 1 [912] [912] ?_;refine bQ 0 ?_;refine bV 9 U (WY _ b) fun w2 GA2 HA2 hleA2 hp=>?_;obtain ⟨ps2,rfl,hps2,rfl⟩:=hp;have hupA2:=aP hup2 hleA2;refine bC ?_;refine bQ 2 ?_;refine cD U (iI (α:=F3) T.sl86 U U hps2 (show 0≤((2:Nat):Int)∧((2:Nat):Int)<((3:Nat):Int) by decide)) ?_;refine bC ?_;refine bQ 3 ?_;refine cD U (bW T.one85 U (gB hps2 (show 0≤((2:Nat):Int)∧((2:Nat):Int)<((3:Nat):Int) by decide) 0 U U)) ?_;refine fO 24 U (show _=Value.pointer (some ⟨b,11,none⟩) from U) ?_;refine bC ?_;refine gL 4 [] [] ?_;refine bQ 5 ?_;refine cD U (gH T.agg26 U (show A3.row _ b 11 [.int .i64 z.ins,.int .i64 z.regs,.slice zac z.code.length zcc,.slice zao z.outs.length zoc] from Sa (hupA2 _ _ hb1) 11 4) U) ?_;refine bC ?_;refine bQ 6 ?_;refine bV 9 U (el _ z zac zao zcc zoc) fun x2 GB2 HB2 hleB2 hp=>?_;obtain ⟨bi2,rfl,rfl,hbi2⟩:=hp;have hAB2:=aP hleA2 hleB2;have hup3:=aP hupA2 hleB2;have hTB2:TabOk GB2:=(hT.up hle1).up hup3;have hb4:=hup3 _ _ hb1;have hrow4:=Fx hb4;refine bC ?_;refine dG ?_;refine lS 2 [] ?_;refine mQ (ι:=ι) 920 921 922 923 (fun s=>[(912,Option.some b4,Go.Obj.cells (List.toArray (List.set [Go.Value.int Go.IntKind.i64 0] 0 (Go.Value.int Go.IntKind.i64 (↑2:Int)))) 3),(911,Option.some dd1,Go.Obj.deferred (Option.some [])),(902,Option.some b3,Go.Obj.cells (List.toArray (List.set [Go.Value.int Go.IntKind.i64 0] 0 (Go.Value.int Go.IntKind.i64 1))) 3),(901,Option.some dd0,Go.Obj.deferred (Option.some [])),(1,Option.some b2,Go.Obj.cells (List.toArray (List.set [Go.Value.int Go.IntKind.i64 0] 0 (Go.Value.int Go.IntKind.i64 0))) 3),(0,Option.some b1,Go.Obj.cells #[Go.Value.func (Go.Fn.yield ly) #[] #[]] 130)]++Hp.shift 1000 (J s)) (fun k s=>inv (Gr x y z 2+k) s) (fun c s=>c=.exit 0∧stop s) (s) U T.fn93 (fun _ _=>rfl) U (QY _ hTB2 z _ _ _ _ bi2 (hzc.up hup3) (hzo.up hup3) hbi2 hRz) (by rw [iS];exact hinv2) (jO ⟨U,U,U,U,U,U,F9⟩ vU) ⟨U,fun _=>rB U U⟩ U (fun k xk yk s l dd qq w0 hx hgd hi=>?_) (fun s dd hi=>?_) fun s dd c hi=>?_
     · refine aI 6 [] ?_;refine aO 924 U T.zero26 fun b5=>?_;refine aS 2 [924] ?_;refine nQ 920 U ?_;refine aI 3 [] ?_;refine cD U (gH T.agg28 U sO U) ?_;refine aO 925 U T.zero28 fun b6=>?_;refine bB 4 [925] ?_;refine gM [0,1,901,902,911,912,921,923,922,924,920,925] [(925,6),(920,6),(924,6),(922,6),(923,6),(921,6),(912,6),(911,6),(902,6),(901,6),(1,6),(0,6)] T.mixed U ?_;refine gL 1 [912] [912] ?_;refine gL 4 [924] [924] ?_;refine bQ 0 ?_;refine bV 9 U (WY _ b6) fun u3 GC HC hleC hp=>?_;obtain ⟨qs,rfl,hqs,rfl⟩:=hp;have hGle:G.le GC:=aP hle1 (aP hup3 hleC);refine bC ?_;refine bQ 2 ?_;refine cD U (iI (α:=F3) T.sl86 U U hqs (show 0≤((2:Nat):Int)∧((2:Nat):Int)<((3:Nat):Int) by decide)) ?_;refine bC ?_;refine bQ 3 ?_;refine cD U (bW T.one85 U (gB hqs (show 0≤((2:Nat):Int)∧((2:Nat):Int)<((3:Nat):Int) by decide) 0 U U)) ?_;refine fO 34 U (show _=Value.pointer (some ⟨b6,11,none⟩) from U) ?_;refine bC ?_;refine gL 5 [] [] ?_;refine bQ 6 ?_;refine jT 925 T.size26 U U U U U U ?_;refine bC ?_;refine iN sR F9 wJ ?_;refine lQ 6 [0,925] ?_;refine pS (A:=[(920,some l,C2 qq .busy none),(921,some dd,.deferred (some [])),(912,some b4,.cells #[.int .i64 2] 3),(911,some dd1,.deferred (some [])),(902,some b3,.cells #[.int .i64 1] 3),(901,some dd0,.deferred (some [])),(1,some b2,.cells #[.int .i64 0] 3),(0,some b1,.cells #[.func (.yield ly) #[] #[]] 130)]) 1000 922 923 U U U U U U ⟨U,U,U,U,U,U,U,U,F9⟩ U U vU U ((hY (Gr x y z 2+k) (2,xk) yk s (WA hx) hgd hi).up hGle) fun vy Gv Hv hlv hp=>?_;obtain ⟨rfl,s',rfl,hp⟩:=hp;rcases hp with ⟨rfl,hst⟩ | ⟨rfl,hst⟩
       · refine aS 6 [0] ?_;refine kE ?_;refine gU none (.inl ⟨U,U⟩) 920 U ⟨U,(s',none),U,.inl ⟨U,U,?_⟩⟩ (hS U (hS U (jO ⟨U,U,U,U,U,U,F9⟩ vU)));exact hst
       refine aS 6 [1] ?_;refine kE ?_;refine gU (some ((.exit 0))) (.inr (.inr ⟨_,U,U⟩)) 920 U ⟨U,(s',some ((.exit 0))),U,.inr ⟨U,_,U,?_⟩⟩ (hS U (hS U (jO ⟨U,U,U,U,U,U,F9⟩ vU)));exact ⟨U,hst⟩
     · skip;have hinv3:inv (Gr x y z 3) s:=by
        exact hi
       obtain ⟨dd2,hdd⟩:∃ q,q=dd:=⟨_,U⟩
       subst hdd;refine eE 7 [] ?_;refine cJ 18 U (show _=Value.int .i64 ((3:Nat):Int) from U) ?_;refine Vv (La.round ?_);refine bE 11 [0] ?_;refine nX ?_;refine iD (.inl U) 921 U ?_;refine iD (.inr U) 911 U ?_;refine iD (.inr U) 901 U ?_;refine jP (.inr U) ?_;refine kE ?_;refine mT (k:=1000) (.inr U) U vU ⟨U,s,U,.inl (by rw [Ry];exact hinv3)⟩
     obtain ⟨rfl,hst⟩:=hi;refine bE 6 [] ?_;refine nX ?_;refine iD (.inl U) 921 U ?_;refine iD (.inr U) 911 U ?_;refine iD (.inr U) 901 U ?_;refine jP (.inr U) ?_;refine kE ?_;refine mT (k:=1000) (.inr U) U vU ⟨U,s,U,.inr hst⟩
   obtain ⟨rfl,hst⟩:=hi;refine bE 6 [] ?_;refine nX ?_;refine iD (.inl U) 911 U ?_;refine iD (.inr U) 901 U ?_;refine jP (.inr U) ?_;refine kE ?_;refine mT (k:=1000) (.inr U) U vU ⟨U,s,U,.inr hst⟩
 obtain ⟨rfl,hst⟩:=hi;refine bE 6 [] ?_;refine nX ?_;refine iD (.inl U) 901 U ?_;refine jP (.inr U) ?_;refine kE ?_;refine mT (k:=1000) (.inr U) U vU ⟨U,s,U,.inr hst⟩
end
theorem HP {p:PV} (hR:sP p=true) {v:Int} (hv:0≤v∧v<uA p p.code.length):∀ (j:Nat),j≤p.outs.length→tl (vF p j) v=tl (tA p p.code.length) v∨(tl (vF p j) v=p.code.length∧∃ i:Nat,i<j∧tJ p p.code.length (p.outs[((i:Nat):Int).toNat]?.getD default)=v)
 | 0,_=>.inl U
 | j+1,hj=>by
   have hr:=Gf hR (show j<p.outs.length by omega);have hh:(vF p j).held[(p.outs[(j:Int).toNat]?.getD default).toNat]?.getD default=tJ p p.code.length (p.outs[(j:Int).toNat]?.getD default):=by unfold tJ;rw [Ci]
   have hin:=Gh hR (aH _) hr;have e:tl (vF p (j+1)) v=if tJ p p.code.length (p.outs[(j:Int).toNat]?.getD default)=v then (p.code.length:Int) else tl (vF p j) v:=by
    unfold tl;show ((vF p j).till.set _ _)[v.toNat]?.getD default=_;rw [hh,xN (by rw [Xk];exact hv),cO hin.1]
   by_cases hd:tJ p p.code.length (p.outs[((j:Nat):Int).toNat]?.getD default)=v
   · rw [aF hd] at e;exact .inr ⟨e,j,by omega,hd⟩
   rw [aD hd] at e;rw [e];rcases HP hR hv j sN with h | ⟨h,i,hi,hiv⟩
   · exact .inl h
   exact .inr ⟨h,i,by omega,hiv⟩
theorem Sb {p:PV} (hR:sP p=true) {v:Int} (hv:0≤v∧v<uA p p.code.length):due p v=-1∨(∃ t:Nat,t<p.code.length∧due p v=t∧HF p t v)∨(due p v=p.code.length∧∃ i:Nat,i<p.outs.length∧tJ p p.code.length (p.outs[((i:Nat):Int).toNat]?.getD default)=v):=by
 unfold due lifeP;rcases HP hR hv p.outs.length (aH _) with h2 | ⟨h2,i,hi,e⟩
 · rw [h2];rcases Gj hR p.code.length (aH _) v hv with h | h
   · exact .inl h
   exact .inr (.inl h)
 exact .inr (.inr ⟨h2,i,hi,e⟩)
def Dg (p:PV) (k:Nat):Nat:=(sZ p k).code.length
def wV (p:PV) (k:Nat):Sl.Instr:=⟨(vX p k).op,least (Ac p k (sZ p k).s).free,stand (sZ p k).s (wX p k),if 1<(tC (vX p k)).length then stand (sZ p k).s (xV p k) else (vX p k).b,(vX p k).c⟩
theorem Ax {p:PV} (hR:sP p=true) {k:Nat} (hk:k<p.code.length) (hn:yA p k=true) :
 sZ p (k+1)=⟨wA (Ac p k (sZ p k).s) (uA p k),max (sZ p k).regs ((least (Ac p k (sZ p k).s).free:Int)+1),(sZ p k).code++[wV p k]⟩:=In hR hk hn
theorem xP {p:PV} (hR:sP p=true) {k:Nat} (hk:k<p.code.length) (hn:yA p k=true):Dg p (k+1)=Dg p k+1:=by
 unfold Dg;rw [Ax hR hk hn];show ((sZ p k).code++[_]).length=_;rw [aB];rfl
theorem Is {p:PV} {k:Nat} (hn:¬yA p k=true):Dg p (k+1)=Dg p k:=by unfold Dg;rw [Hm hn]
theorem Kq (p:PV):Dg p p.code.length=(sU p).code.length:=rfl
theorem Mo {p:PV} (hR:sP p=true) {i k:Nat} (hi:i<Dg p k):∀ j,k≤j→j≤p.code.length→i<Dg p j∧(sZ p j).code[i]?=(sZ p k).code[i]?
 | 0,h,_=>by have:=oE.1 h;subst this;exact ⟨hi,U⟩
 | j+1,h,hj=>by
   by_cases e:k=j+1
   · subst e;exact ⟨hi,U⟩
   obtain ⟨h1,h2⟩:=Mo hR hi j sN sN;by_cases hn:yA p j=true
   · refine ⟨by rw [xP hR sN hn];omega,?_⟩;rw [Ax hR sN hn];show ((sZ p j).code++[_])[i]?=_;rw [bF h1,h2]
   rw [Hm hn];exact ⟨by rw [Is hn];exact h1,h2⟩
theorem EV {p:PV} (hR:sP p=true) {k:Nat} (hk:k<p.code.length) (hn:yA p k=true):Dg p k<(sU p).code.length:=by
 have:=(Mo hR (i:=Dg p k) (k:=k+1) (by rw [xP hR hk hn];omega) p.code.length sN (aH _)).1;exact this
theorem Ae {p:PV} (hR:sP p=true) {k:Nat} (hk:k<p.code.length) (hn:yA p k=true):vX (sU p) (Dg p k)=wV p k:=by
 have h1:=(Mo hR (i:=Dg p k) (k:=k+1) (by rw [xP hR hk hn];omega) p.code.length sN (aH _)).2;have h2:(sZ p (k+1)).code[Dg p k]?=some (wV p k):=by
  rw [Ax hR hk hn];show ((sZ p k).code++[_])[(sZ p k).code.length]?=_;rw [cB (aH _),iH];rfl
 unfold vX;rw [aE];show (sZ p p.code.length).code[Dg p k]?.getD default=_;rw [h1,h2];rfl
theorem Om {p:PV} (hR:sP p=true) {i:Nat}:∀ (k:Nat),k≤p.code.length→i<Dg p k→∃ t,t<k∧yA p t=true∧Dg p t=i
 | 0,_,h=>absurd h (qL _)
 | k+1,hk,h=>by
   by_cases hn:yA p k=true
   · rw [xP hR sN hn] at h;by_cases e:i=Dg p k
     · exact ⟨k,by omega,hn,e.symm⟩
     obtain ⟨t,h1,h2,h3⟩:=Om hR (i:=i) k sN sN;exact ⟨t,by omega,h2,h3⟩
   rw [Is hn] at h;obtain ⟨t,h1,h2,h3⟩:=Om hR (i:=i) k sN h;exact ⟨t,by omega,h2,h3⟩
theorem Kr {p:PV} (hR:sP p=true) {k:Nat}:∀ j,k≤j→j≤p.code.length→Dg p k≤Dg p j
 | 0,h,_=>by rw [oE.1 h];exact aH _
 | j+1,h,hj=>by
   by_cases e:k=j+1
   · rw [e];exact aH _
   have:=Kr hR j (show k≤j by omega) sN;by_cases hn:yA p j=true
   · rw [xP hR sN hn];omega
   rw [Is hn];exact this
theorem CG {p:PV} (hR:sP p=true):∀ k,k≤p.code.length→uA p k=p.ins.toNat+1+Dg p k
 | 0,_=>Aw p
 | k+1,hk=>by
   have ih:=CG hR k sN;by_cases hn:yA p k=true
   · rw [Bp hn,xP hR sN hn];omega
   rw [Oj hn,Is hn];exact ih
theorem Df {p:PV} (hR:sP p=true) {k:Nat} (hk:k<p.code.length) (hn:yA p k=true) (w:Int):stand (sZ p (k+1)).s w=if w=uA p k then (least (Ac p k (sZ p k).s).free:Int) else stand (sZ p k).s w:=by
 rw [Ax hR hk hn];show stand (wA _ _) w=_;rw [Dv,Rq]
theorem Sc {p:PV} (hR:sP p=true) {k:Nat} (hk:k≤p.code.length) (v:Int):0≤stand (sZ p k).s v∧stand (sZ p k).s v<(sU p).regs:=by
 have h1:=(Ah hR k hk).1.ok.ab v;have h2:=Dw hR p.code.length hk (aH _);have h3:=(Ah hR p.code.length (aH _)).2;have h4:(sU p).regs=(sZ p p.code.length).regs:=rfl;omega
theorem Nl {p:PV} (hR:sP p=true) {k:Nat} (hk:k<p.code.length) (hn:yA p k=true) {v:Int} (ha:wC p k v) (hd:due p v≠k):stand (sZ p (k+1)).s v=stand (sZ p k).s v∧¬((least (Ac p k (sZ p k).s).free:Int)=stand (sZ p k).s v):=by
 have hne:v≠uA p k:=fun e=>by have:=ha.1.2;omega
 have h1:=Df hR hk hn v;rw [aD hne] at h1;refine ⟨h1,fun e=>?_⟩;have h2:=Df hR hk hn (uA p k);rw [aF rfl] at h2;exact hne ((Ah hR (k+1) sN).1.i2 _ _ ((uX hR hk hn).2 (.inr ⟨ha,hd⟩)) ((uX hR hk hn).2 (.inl U)) (by rw [h1,h2];exact e.symm))
theorem Fl {p:PV} {k:Nat} {r:Int} (hm:1≤(vX p k).op∧(vX p k).op≤8):r∈tC (wV p k)↔r=stand (sZ p k).s (wX p k)∨(1<(tC (vX p k)).length∧r=stand (sZ p k).s (xV p k)):=by
 by_cases h34:(vX p k).op=3∨(vX p k).op=4
 · have h2:=(zQ (vX p k)).2 h34;have e:tC (wV p k)=[stand (sZ p k).s (wX p k),stand (sZ p k).s (xV p k)]:=by
    unfold tC wV;rw [aF h34,aF h2]
   rw [e];simp [h2]
 have h2:¬1<(tC (vX p k)).length:=fun e=>h34 ((zQ _).1 e);have e:tC (wV p k)=[stand (sZ p k).s (wX p k)]:=by
  unfold tC wV;rw [aD h34,aF hm]
 rw [e];simp [h2]
theorem Bu {p:PV} (hR:sP p=true):∀ (d k:Nat),k+d=p.code.length→∀ v,wC p k v→zK (sU p) (stand (sZ p k).s v) (Dg p k)=true
 | 0,k,hk,v,hv=>by
   have e:k=p.code.length:=sN;subst e;have hd:due p v=p.code.length:=by
    rcases Sb hR hv.1 with h | ⟨t,ht,h,_⟩ | ⟨h,_⟩
    · have:=hv.2;omega
    · have:=hv.2;omega
    exact h
   rcases Sb hR hv.1 with h | ⟨t,ht,h,_⟩ | ⟨_,i,hi,e⟩
   · omega
   · omega
   · rw [Il _ _ (by rw [Kq];exact aH _)];refine bL ?_;show _∈(lifeP p).outs.map (stand (sZ p p.code.length).s);refine dL.2 ⟨v,?_,U⟩;unfold lifeP;rw [yF p _ (aH _),aZ];refine dL.2 ⟨p.outs[i],bT hi,?_⟩;rw [aE,aA hi] at e;exact e
 | d+1,k,hk,v,hv=>by
   have hkn:k<p.code.length:=sN;have hm:=(tK (vZ hR hkn)).1;by_cases hn:yA p k=true
   · have hcl:=EV hR hkn hn;have ct:(sU p).code[Dg p k]?.getD default=wV p k:=by
      have:=Ae hR hkn hn;unfold vX at this;rw [aE] at this;exact this
     have hto:(wV p k).to=(least (Ac p k (sZ p k).s).free:Int):=rfl;have hnew:=Bu hR d (k+1) sN (uA p k) ((uX hR hkn hn).2 (.inl U));rw [Df hR hkn hn,aF rfl,xP hR hkn hn] at hnew;rw [Fj _ _ hcl,ct,hto];by_cases hd:due p v=k
     · rcases BT hR hkn hv hd with e | e
       · rw [hnew,bL ((Fl hm).2 (.inl (by rw [e])))];rfl
       by_cases h2:1<(tC (vX p k)).length
       · rw [hnew,bL ((Fl hm).2 (.inr ⟨h2,by rw [e]⟩))];rfl
       have e2:xV p k=wX p k:=aD h2;rw [hnew,bL ((Fl hm).2 (.inl (by rw [e,e2])))];rfl
     obtain ⟨s1,s2⟩:=Nl hR hkn hn hv hd;have ih:=Bu hR d (k+1) sN v ((uX hR hkn hn).2 (.inr ⟨hv,hd⟩));rw [s1,xP hR hkn hn] at ih;rw [ih,cA s2];simp
   have ih:=Bu hR d (k+1) sN v ((Bq hR hkn hn).2 hv);rw [Hm hn,Is hn] at ih;exact ih
theorem Dx {p:PV} (hR:sP p=true) {i:Nat} (hi:i<(sU p).code.length):yA (sU p) i=true:=by
 obtain ⟨k,hk,hn,e⟩:=Om hR p.code.length (aH _) (i:=i) hi;subst e;rw [Gl (Ad hR) hi,Ae hR hk hn];have:=Bu hR (p.code.length - (k+1)) (k+1) sN (uA p k) ((uX hR hk hn).2 (.inl U));rw [Df hR hk hn,aF rfl,xP hR hk hn] at this;exact this
theorem It {p:PV} (hR:sP p=true) {k:Nat} (hk:k≤p.code.length):uA (sU p) (Dg p k)=uA p k:=by
 have h1:∀ i,i≤(sU p).code.length→uA (sU p) i=p.ins.toNat+1+i:=fun i=>by
  induction i with
  | zero=>intro _;exact Aw (sU p)
  | succ i ih=>intro hi;rw [Bp (Dx hR sN),ih sN];omega
 rw [h1 _ (by have:=Kr hR p.code.length hk (aH _);exact this),CG hR k hk]
theorem zN {p:PV} (hR:sP p=true):∀ k,k≤p.code.length→∀ v,wC p k v→tJ (sU p) (Dg p k) (stand (sZ p k).s v)=v
 | 0,_,v,hv=>by
   obtain ⟨f1,f2,f3,_⟩:=sT hR;obtain ⟨g1,g2,g3⟩:=Mj f1;have hz:=Aw p;have h1:=hv.1;have h2:=hv.2;have hvf:v<(xU p (lifeP p)).free.length:=by
    by_cases e:v=p.ins
    · subst e;have:=g2 h2;omega
    rcases g1 with g1 | g1 <;> omega
   have h3:stand (sZ p 0).s v=v:=(g3 v ⟨h1.1,hvf⟩).1;have h4:=Sc hR (aM _) v;rw [h3] at h4;rw [h3];show tJ (sU p) 0 v=v;rw [Mi h4];show min v p.ins=v;omega
 | k+1,hk,v,hv=>by
   by_cases hn:yA p k=true
   · have hkn:k<p.code.length:=sN;have hcl:=EV hR hkn hn;have hq:=Dx hR hcl;rw [xP hR hkn hn,Dd (Ad hR) hcl hq (Sc hR hk v),Ae hR hkn hn,It hR sN];show (if (least (Ac p k (sZ p k).s).free:Int)=stand (sZ p (k+1)).s v then _ else _)=_;rcases (uX hR hkn hn).1 hv with e | ⟨ha,hd⟩
     · rw [Df hR hkn hn,aF e,aF rfl,e]
     obtain ⟨s1,s2⟩:=Nl hR hkn hn ha hd;rw [s1,aD s2];exact zN hR k sN v ha
   rw [Hm hn,Is hn];exact zN hR k sN v ((Bq hR sN hn).1 hv)
theorem Ve {p:PV} (hR:sP p=true) {k:Nat} (hk:k<p.code.length) (hn:yA p k=true):wX (sU p) (Dg p k)=wX p k∧xV (sU p) (Dg p k)=xV p k:=by
 obtain ⟨hA,hB⟩:=Mh hR hk hn;have hm:=(tK (vZ hR hk)).1;have ct:=Ae hR hk hn;have eA:wX (sU p) (Dg p k)=wX p k:=by
  unfold wX vA;rw [ct];exact zN hR k sN _ hA
 refine ⟨eA,?_⟩;have two:1<(tC (wV p k)).length↔1<(tC (vX p k)).length:=by rw [zQ,zQ];rfl
 by_cases h2:1<(tC (vX p k)).length
 · have:xV (sU p) (Dg p k)=tJ (sU p) (Dg p k) (wV p k).b:=by
    unfold xV vB;rw [ct,aF (two.2 h2)];rfl
   rw [this];show tJ (sU p) (Dg p k) (if 1<(tC (vX p k)).length then _ else _)=_;rw [aF h2];exact zN hR k sN _ hB
 have e1:xV (sU p) (Dg p k)=wX (sU p) (Dg p k):=by
  unfold xV vB wX;rw [ct,aD (fun e=>h2 (two.1 e))]
 have e2:xV p k=wX p k:=aD h2;rw [e1,e2];exact eA
theorem Sd {p:PV} (hR:sP p=true) {i:Nat} (hi:i<p.outs.length):tJ (sU p) (sU p).code.length ((sU p).outs[((i:Nat):Int).toNat]?.getD default)=tJ p p.code.length (p.outs[((i:Nat):Int).toNat]?.getD default):=by
 have ho:(sU p).outs[(i:Int).toNat]?.getD default=stand (sZ p p.code.length).s (tJ p p.code.length (p.outs[(i:Int).toNat]?.getD default)):=by
  show ((lifeP p).outs.map (stand (sZ p p.code.length).s))[(i:Int).toNat]?.getD default=_;unfold lifeP;rw [yF p _ (aH _),aZ,oU,bM,aE,aA hi];rfl
 rw [ho,←Kq];exact zN hR _ (aH _) _ ⟨Gh hR (aH _) (Gf hR hi),by rw [Ok hR hi];exact iM _⟩
theorem Xw {p:PV} (hR:sP p=true) {k:Nat} (hk:k≤p.code.length) {v:Int} (hv:0≤v∧v<uA p k):(Dg p k:Int)≤due (sU p) v↔(k:Int)≤due p v:=by
 have hRq:=Ad hR;constructor
 · intro h;have hv2:0≤v∧v<uA (sU p) (sU p).code.length:=⟨hv.1,by have:=zM p hk;rw [←Kq,It hR (aH _)];omega⟩
   rcases Sb hRq hv2 with h1 | ⟨t,ht,h1,h2⟩ | ⟨h1,i,hi,e⟩
   · omega
   · obtain ⟨k',hk',hn',e⟩:=Om hR p.code.length (aH _) (i:=t) ht;subst e;have hkk:k≤k':=by
      rcases aK k' k with hlt | hge
      · have:=Kr hR k (show k'+1≤k by omega) hk;rw [xP hR hk' hn'] at this;omega
      exact hge
     obtain ⟨d1,d2⟩:=Ve hR hk' hn';have := Gk hR hk' (v := v) ⟨hn', h2.2.elim (fun e => .inl (by rw [e, d1])) (fun e => .inr (by rw [e, d2]))⟩
     omega
   have hlen:(sU p).outs.length=p.outs.length:=by show ((lifeP p).outs.map _).length=_;rw [aN];exact Dt p
   rw [Sd hR sN] at e;rw [←e,Ok hR sN];omega
 intro h;have ha:wC p k v:=⟨hv,h⟩
 have h1:=Bu hR (p.code.length - k) k sN v ha;have h2:=Rn hRq (Sc hR hk v) ((sU p).code.length - Dg p k) (Dg p k) (by have:=Kr hR p.code.length hk (aH _);rw [Kq] at this;omega) h1;rw [zN hR k hk v ha] at h2;exact h2
theorem RE {p:PV} (hR:sP p=true) {k:Nat} (hk:k<p.code.length) (hn:yA p k=true) {v:Int} (hv:0≤v∧v<uA p k):due (sU p) v=Dg p k↔due p v=k:=by
 have h1:=Xw hR (show k≤p.code.length by omega) hv;have h2:=Xw hR (show k+1≤p.code.length by omega) (v:=v) ⟨hv.1,by rw [Bp hn];omega⟩;rw [xP hR hk hn] at h2;omega
theorem Vf {l l':Life} {k k':Nat} {s:Pl} {v:Int} (h:l.till[v.toNat]?.getD default=(k:Int)↔l'.till[v.toNat]?.getD default=(k':Int)):vC l k s v=vC l' k' s v:=by
 unfold vC;by_cases e:l.till[v.toNat]?.getD default=(k:Int)
 · rw [aF e,aF (h.1 e)]
 rw [aD e,aD (fun x=>e (h.2 x))]
theorem Se {l l':Life}:∀ n:Nat,(∀ v:Int,0≤v∧v<n→(tl l v<0↔tl l' v<0))→wB l n=wB l' n
 | 0,_=>rfl
 | n+1,h=>by
   show Du (wB l n) n _=Du (wB l' n) n _;rw [Se n (fun v hv=>h v sN)];unfold Du;congr 3;have:=h n sN;unfold tl at this;exact sC.2 this
theorem CH {p:PV} (hR:sP p=true):∀ k,k≤p.code.length→sZ (sU p) (Dg p k)=sZ p k
 | 0,_=>by
   obtain ⟨f1,f2,f3,_⟩:=sT hR;have hz:=Aw p;have hs:∀ v:Int,0≤v∧v<p.ins+1→(0≤due (sU p) v↔0≤due p v):=fun v hv=>Xw hR (aM _) (v:=v) sN;have e:xU (sU p) (lifeP (sU p))=xU p (lifeP p):=by
    unfold xU;show (if 0≤due (sU p) p.ins then Du (wB _ p.ins.toNat) p.ins (due (sU p) p.ins) else wB _ p.ins.toNat)=(if 0≤due p p.ins then Du (wB _ p.ins.toNat) p.ins (due p p.ins) else wB _ p.ins.toNat);have h1:=hs p.ins sN;have h2:wB (lifeP (sU p)) p.ins.toNat=wB (lifeP p) p.ins.toNat:=Se _ (fun v hv=>by
     have:=hs v sN;show due (sU p) v<0↔due p v<0;omega)
    rw [h2];by_cases hd:0≤due p p.ins
    · rw [aF hd,aF (h1.2 hd)];unfold Du;congr 3;exact sC.2 sN
    rw [aD hd,aD (fun x=>hd (h1.1 x))]
   show (⟨xU (sU p) (lifeP (sU p)),max p.ins (xU (sU p) (lifeP (sU p))).free.length,[]⟩:PkS)=⟨xU p (lifeP p),max p.ins (xU p (lifeP p)).free.length,[]⟩;rw [e]
 | k+1,hk=>by
   have ih:=CH hR k sN;by_cases hn:yA p k=true
   · have hkn:k<p.code.length:=sN;have hcl:=EV hR hkn hn;have hin:=Rl hR hkn;obtain ⟨d1,d2⟩:=Ve hR hkn hn;have e2:Ac (sU p) (Dg p k) (sZ p k).s=Ac p k (sZ p k).s:=by
      unfold Ac;rw [d1,d2,Vf (l:=lifeP (sU p)) (l':=lifeP p) (k':=k) (v:=wX p k) (RE hR hkn hn hin.1)];exact Vf (RE hR hkn hn hin.2)
     rw [xP hR hkn hn,Ax (Ad hR) hcl (Dx hR hcl),Ax hR hkn hn];have et:wV (sU p) (Dg p k)=wV p k:=by
      unfold wV;rw [ih,e2,d1,d2,Ae hR hkn hn];have two:1<(tC (wV p k)).length↔1<(tC (vX p k)).length:=by rw [zQ,zQ];rfl
      by_cases h2:1<(tC (vX p k)).length
      · rw [aF h2,aF (two.2 h2)];rfl
      rw [aD h2,aD (fun x=>h2 (two.1 x))];show (⟨_,_,_,(wV p k).b,_⟩:Sl.Instr)=_;unfold wV;rw [aD h2]
     rw [et,ih,e2,It hR sN]
   rw [Is hn,Hm hn];exact ih
theorem CI {p:PV} (hR:sP p=true):sU (sU p)=sU p:=by
 have h1:=CH hR p.code.length (aH _);rw [Kq] at h1;have hlen:(sU p).outs.length=p.outs.length:=by show ((lifeP p).outs.map _).length=_;rw [aN];exact Dt p
 have h2:(lifeP (sU p)).outs=(lifeP p).outs:=by
  unfold lifeP;rw [yF _ _ (aH _),yF _ _ (aH _),aZ,aZ];refine fL (by rw [aN,aN,hlen]) fun i hi1 hi2=>?_;rw [aN] at hi1 hi2;rw [fA,fA];have:=Sd hR hi2;rw [aE,aA hi2,aA hi1] at this;exact this
 show (⟨p.ins,(sZ (sU p) (sU p).code.length).regs,(sZ (sU p) (sU p).code.length).code,(lifeP (sU p)).outs.map (stand (sZ (sU p) (sU p).code.length).s)⟩:PV)=_;rw [h1,h2];rfl
def rv (p:PV):Nat→Int→Int
 | 0,v=>if v<p.ins then -1 - v else -1000
 | k+1,v=>if yA p k=true∧v=uA p k then (k:Int) else rv p k v
def rvn (p:PV) (v:Int):Int:=rv p p.code.length v
def wh:List (Int×Int)→Int→Int
 | [],_=>-1
 | (a,b) :: l,w=>if a=w then b else wh l w
structure Rel (p:PV) (k:Nat) (l:List (Int×Int)) (s:Pl):Prop where
 r1:∀ v,wC p k v→(rvn p v,stand s v)∈l
 r2:∀ e∈l,∃ v,wC p k v∧rvn p v=e.1∧stand s v=e.2
theorem EW {p:PV} (hR:sP p=true):(sU p).regs≤p.regs:=by
 obtain ⟨h1,h2⟩:=Ah hR p.code.length (aH _);have:=h1.i5;show (sZ p p.code.length).regs≤_;omega
section
attribute [local irreducible] sV sP sU
attribute [local irreducible] Yes
end
theorem CJ {p:PV} {k:Nat} {x:NP} (h:(sX p)[k]?=some x):(∃ j,x.p=vL p j∧x.name=Rs k)∨(x.p=sU (vL p (zA p))∧x.name=Nj):=by
 have hlt:k<(sX p).length:=(bJ.1 h).1;rw [yG] at hlt;rcases aK k (zA p) with hk | hk
 · rw [Ml p hk] at h;obtain rfl:=iW h;exact .inl ⟨_,U,U⟩
 have hk':k=zA p:=sN;subst hk';rw [xK p] at h;obtain rfl:=iW h;exact .inr ⟨U,U⟩
theorem RF {p:PV} (hn:yK p) {k:Nat} {x:NP} (h:(sX p)[k]?=some x):yK x.p:=by
 rcases CJ h with ⟨j,e,_⟩ | ⟨e,_⟩
 · rw [e];exact Mn hn j
 rw [e];exact CB (Mn hn _)
theorem Sf {p:PV} {k:Nat} {l:List R2} (hR:sP p=true) (h:uV p k l) {j:Nat} {x:NP} (hx:(sX p)[j]?=some x):sP x.p=true∧uV x.p k l∧x.p.code.length≤p.code.length:=by
 obtain ⟨h1,h2,h3,h4⟩:=h;obtain ⟨g1,g2,g3,g4,g5⟩:=Ip hR hx;rw [aE] at h4;refine ⟨g1,⟨by rw [g2,h1],by rw [g3,h2],RF h3 hx,?_⟩,g4⟩;rw [aE];exact g5 _ _ k (by rw [yD,h1]) (Rx k) h4
theorem Xx {p:PV} {l:List R2} (h:uE p l) {j:Nat} {x:NP} (hx:(sX p)[j]?=some x):uE x.p l∧x.p.code.length≤p.code.length:=by
 obtain ⟨h0,h1,h2,h3⟩:=h;obtain ⟨g1,g2,g3,g4,g5⟩:=Ip h0 hx;exact ⟨⟨g1,by rw [g2,h1],by rw [g3,h2],g5 _ _ l.length (by rw [Dl,h1]) (Vc l) h3⟩,g4⟩
theorem Xy {k1 k2:Int} {l:List R2} {x y z:PV} (hW:tF k1 k2 l=0) (h1:sP x=true) (h2:uV x k1 l) (h3:sP y=true) (h4:uV y k2 l) (h6:uE z l):tS k1 k2 l x y z=(0,0):=Jv hW h1 h2 h3 h4 h6.1 h6
theorem CK (p:PV):∀ k,(vL p k).regs=p.regs
 | 0=>rfl
 | k+1=>by
   show (vD k (vL p k)).regs=_;rw [←CK p k];unfold vD;split
   · rfl
   split <;> rfl
theorem Mp {p:PV} (hR:sP p=true):(lastP p).regs≤p.regs:=by
 have h:=EW (wD hR (zA p));rw [CK] at h;exact h
theorem Mq {p:PV} (hR:sP p=true):sU (lastP p)=lastP p:=CI (wD hR (zA p))
theorem CL {k:Nat} {l:List R2} (h:Lw k l):(evP k l).code.length≤63*l.length:=(Fv h).len
theorem EX {l:List R2} {o:List Int} (hR:tW l) (ho:Bk o l.length) (h7:l.length≤7):(Kb l o).length≤8000:=by
 obtain ⟨o1,o2,o3⟩:=ho;have hl:=hR.2.1;have hw:=Qm hR o2;have hok:∀ p∈l,Nz p:=fun p hp=>by
  obtain ⟨i,hi,rfl⟩:=fY.1 hp;have:=hR.2.2.1 i hi;rw [aA hi] at this;exact this
 have h1:=Dq (n:=l.length) (l.length - 1) l 0 sN hok;have h2:=Do (n:=l.length) (wh:=l.map tL) o sN o2 o3 hw;have h3:=Dp (n:=l.length) (wh:=l.map tL) sN o sN o2 hw;have h4:=(h1.append (h2.append h3)).len;have:l.length*(l.length - 1)≤7*6:=gQ sN sN;refine bO h4 ?_;omega
end Go.Proofs.YtkdelpdbjfpgmaaGreatDoor
