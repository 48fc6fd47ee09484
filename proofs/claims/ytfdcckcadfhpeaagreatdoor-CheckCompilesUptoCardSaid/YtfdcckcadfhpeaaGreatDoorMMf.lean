/- uJ of the proof (part 6): what the rows' text needs of the texts that lead to it. -/
import Derived.Test.YtfdcckcadfhpeaaGreatDoorMMe
set_option linter.unusedVariables false
set_option linter.unusedSimpArgs false
set_option linter.unusedSectionVars false
set_option maxHeartbeats 4000000
set_option maxRecDepth 100000
namespace Go.Proofs.YtfdcckcadfhpeaaGreatDoor
open Go Go.Sl
theorem dz {k1 k2:Int} {l:List R2} {x y z:PV} (h:¬tT k1 k2 l=0):xQ k1 k2 l x y z=(0,tT k1 k2 l):=by unfold xQ;rw [aE h]
theorem YI {k1 k2:Int} {l:List R2} {x y z:PV} (h:tT k1 k2 l=0) (h1:¬sW x=true):xQ k1 k2 l x y z=(1,80):=by
 unfold xQ;rw [aC (fun h0=>h0 h),aE h1]
theorem YJ {k1 k2:Int} {l:List R2} {x y z:PV} (h:tT k1 k2 l=0) (h1:sW x=true) (h2:¬yK x k1 l):xQ k1 k2 l x y z=(1,180):=by
 unfold xQ;rw [aC (fun h0=>h0 h),aC (fun h0=>h0 h1),aE h2]
theorem YK {k1 k2:Int} {l:List R2} {x y z:PV} (h:tT k1 k2 l=0) (h1:sW x=true) (h2:yK x k1 l) (h3:¬sW y=true):xQ k1 k2 l x y z=(2,80):=by
 unfold xQ;rw [aC (fun h0=>h0 h),aC (fun h0=>h0 h1),aC (fun h0=>h0 h2),aE h3]
theorem YL {k1 k2:Int} {l:List R2} {x y z:PV} (h:tT k1 k2 l=0) (h1:sW x=true) (h2:yK x k1 l) (h3:sW y=true) (h4:¬yK y k2 l):xQ k1 k2 l x y z=(2,180):=by
 unfold xQ;rw [aC (fun h0=>h0 h),aC (fun h0=>h0 h1),aC (fun h0=>h0 h2),aC (fun h0=>h0 h3),aE h4]
theorem YM {k1 k2:Int} {l:List R2} {x y z:PV} (h:tT k1 k2 l=0) (h1:sW x=true) (h2:yK x k1 l) (h3:sW y=true) (h4:yK y k2 l) (h5:¬sW z=true):xQ k1 k2 l x y z=(3,80):=by
 unfold xQ;rw [aC (fun h0=>h0 h),aC (fun h0=>h0 h1),aC (fun h0=>h0 h2),aC (fun h0=>h0 h3),aC (fun h0=>h0 h4),aE h5]
theorem YN {k1 k2:Int} {l:List R2} {x y z:PV} (h:tT k1 k2 l=0) (h1:sW x=true) (h2:yK x k1 l) (h3:sW y=true) (h4:yK y k2 l) (h5:sW z=true) (h6:¬Aj z l):xQ k1 k2 l x y z=(3,180):=by
 unfold xQ;rw [aC (fun h0=>h0 h),aC (fun h0=>h0 h1),aC (fun h0=>h0 h2),aC (fun h0=>h0 h3),aC (fun h0=>h0 h4),aC (fun h0=>h0 h5),aE h6]
theorem Zv {k1 k2:Int} {l:List R2} {x y z:PV} (h:tT k1 k2 l=0) (h1:sW x=true) (h2:yK x k1 l) (h3:sW y=true) (h4:yK y k2 l) (h5:sW z=true) (h6:Aj z l):xQ k1 k2 l x y z=(0,0):=by
 unfold xQ;rw [aC (fun h0=>h0 h),aC (fun h0=>h0 h1),aC (fun h0=>h0 h2),aC (fun h0=>h0 h3),aC (fun h0=>h0 h4),aC (fun h0=>h0 h5),aC (fun h0=>h0 h6)]
section
attribute [local irreducible] yK Aj tT sW uO
theorem c14 (G:A2) (k1 k2:Int) (pl:List R2) (pa:J0 Addr) (pc:Nat) (xp yp zp:PV) (xac xao yac yao zac zao:J0 Addr) (xcc xoc ycc yoc zcc zoc:Nat) (hpa:Arr G pa pl) (hpc:pl.length≤pc) (hpl:pl.length≤1048576) (hxc:Arr G xac xp.code) (hxo:Arr G xao xp.outs) (hx1:xp.code.length≤16384) (hx2:xp.outs.length≤1048576) (hyc:Arr G yac yp.code) (hyo:Arr G yao yp.outs) (hy1:yp.code.length≤16384) (hy2:yp.outs.length≤1048576) (hzc:Arr G zac zp.code) (hzo:Arr G zao zp.outs) (hz1:zp.code.length≤16384) (hz2:zp.outs.length≤1048576) :
 Does Tryz.prog 14 [.agg #[.int .i64 k1,.int .i64 k2,.slice pa pl.length pc,.int .i64 xp.ins,.int .i64 xp.regs,.slice xac xp.code.length xcc,.slice xao xp.outs.length xoc,.int .i64 yp.ins,.int .i64 yp.regs,.slice yac yp.code.length ycc,.slice yao yp.outs.length yoc,.int .i64 zp.ins,.int .i64 zp.regs,.slice zac zp.code.length zcc,.slice zao zp.outs.length zoc]] G [] (fun v G' Ho=>v=.tuple #[.int .i64 (xQ k1 k2 pl xp yp zp).1,.int .i64 (xQ k1 k2 pl xp yp zp).2]∧Ho=[]):=by
 refine D0 Tryz.func14 Tryz.ntmps14 fun w=>?_;by_cases hW:tT k1 k2 pl=0
 case neg =>
  refine aK 2 [] ?_;refine eG 0 fun b1=>?_;refine aS 12 [0,0,0] ?_;refine aZ (cQ (cs:=[_,_,_]) T.st62 U U U) ?_;refine cZ U (pq _ _ _ _ _ _ sV sU) ?_;refine aY 20 [1] ?_;refine jJ ?_;exact ⟨by rw [dz hW],U⟩
 obtain ⟨hP1,hP2,hL,hRL⟩:=vZ hW;obtain ⟨n1,rfl⟩:∃ n:Nat,k1=(n:Int):=⟨k1.toNat,by have:=hP1.1;omega⟩
 obtain ⟨n2,rfl⟩:∃ n:Nat,k2=(n:Int):=⟨k2.toNat,by have:=hP2.1;omega⟩
 have hn1:1≤n1∧n1≤8:=by have:=hP1.1;have:=hP1.2;omega
 have hn2:1≤n2∧n2≤8:=by have:=hP2.1;have:=hP2.2;omega
 have hl15:pl.length≤15:=sU;have hl1:1≤pl.length:=sU;have hRR:pl.length≤15∧(∀ i:Nat,i<pl.length→Oz (pl[i]?.getD default)):=by unfold uO at hRL;exact ⟨hRL.2.1,hRL.2.2.1⟩
 have hok:=hRR.2;have hnr:∀ i:Nat,i<pl.length→near (pl[i]?.getD default).a (pl[i]?.getD default).b:=fun i hi=>(hok i hi).1;refine aK 2 [] ?_;refine eG 0 fun b1=>?_;refine aS 12 [0,0,0] ?_;refine aZ (cQ (cs:=[_,_,_]) T.st62 U U U) ?_;refine cZ U (pq _ _ _ _ _ _ sV sU) ?_;refine aS 17 [0] ?_;refine aZ (iG 0 T.agg26 U U U U) ?_;refine cZ U (po _ _ _ _ _ _ sV sV sU sU) ?_;refine aZ (eJ U) ?_;refine bG 2 [] ?_;refine cF (fun hc1=>?_) fun hc1=>?_;refine bE 8 [] ?_;rotate_left;refine aK 6 [] ?_;refine aZ (iG 0 T.agg26 U U U U) ?_;refine aB 4 [0,0] ?_;refine cU 1 U (c58 _ _ _ _ _ _ _ _ _ _ sV sV sV sU sU hl15 hnr (bR.1 sV) sU sU) fun v1 G1 Ho1 hle1 hp=>?_;obtain ⟨rfl,rfl⟩:=hp;replace hpa:=hpa.up hle1;replace hxc:=hxc.up hle1;replace hxo:=hxo.up hle1;replace hyc:=hyc.up hle1;replace hyo:=hyo.up hle1;replace hzc:=hzc.up hle1;replace hzo:=hzo.up hle1;refine aZ (eJ U) ?_;refine bG 2 [] ?_;refine cF (fun hc2=>?_) fun hc2=>?_;refine bE 8 [] ?_;rotate_left;refine aK 6 [] ?_;refine aZ (iG 0 T.agg26 U U U U) ?_;refine cZ U (po _ _ _ _ _ _ sV sV sU sU) ?_;refine aZ (eJ U) ?_;refine bG 2 [] ?_;refine cF (fun hc3=>?_) fun hc3=>?_;refine bE 8 [] ?_;rotate_left;refine aK 6 [] ?_;refine aZ (iG 0 T.agg26 U U U U) ?_;refine aB 4 [0,0] ?_;refine cU 1 U (c58 _ _ _ _ _ _ _ _ _ _ sV sV sV sU sU hl15 hnr (bR.1 sV) sU sU) fun v2 G2 Ho2 hle2 hp=>?_;obtain ⟨rfl,rfl⟩:=hp;replace hpa:=hpa.up hle2;replace hxc:=hxc.up hle2;replace hxo:=hxo.up hle2;replace hyc:=hyc.up hle2;replace hyo:=hyo.up hle2;replace hzc:=hzc.up hle2;replace hzo:=hzo.up hle2;refine aZ (eJ U) ?_;refine bG 2 [] ?_;refine cF (fun hc4=>?_) fun hc4=>?_;refine bE 8 [] ?_;rotate_left;refine aK 6 [] ?_;refine aZ (iG 0 T.agg26 U U U U) ?_;refine cZ U (po _ _ _ _ _ _ sV sV sU sU) ?_;refine aZ (eJ U) ?_;refine bG 2 [] ?_;refine cF (fun hc5=>?_) fun hc5=>?_;refine bE 8 [] ?_;rotate_left;refine aK 6 [] ?_;refine aZ (iG 0 T.agg26 U U U U) ?_;refine aB 2 [0] ?_;refine cU 1 U (c59 _ _ _ _ _ _ _ _ _ sV sV sV sU sU hpc hl1 hl15 hok) fun v3 G3 Ho3 hle3 hp=>?_;obtain ⟨rfl,rfl⟩:=hp;replace hpa:=hpa.up hle3;replace hxc:=hxc.up hle3;replace hxo:=hxo.up hle3;replace hyc:=hyc.up hle3;replace hyo:=hyo.up hle3;replace hzc:=hzc.up hle3;replace hzo:=hzo.up hle3;refine aZ (eJ U) ?_;refine bG 2 [] ?_;refine cF (fun hc6=>?_) fun hc6=>?_;refine bE 8 [] ?_;rotate_left;refine bE 9 [] ?_;rotate_left
 · refine jJ ?_;exact ⟨by rw [YI hW sV],U⟩
 · refine jJ ?_;exact ⟨by rw [YJ hW (bR.1 hc1) sV],U⟩
 · refine jJ ?_;exact ⟨by rw [YK hW (bR.1 hc1) (bR.1 hc2) sV],U⟩
 · refine jJ ?_;exact ⟨by rw [YL hW (bR.1 hc1) (bR.1 hc2) (bR.1 hc3) sV],U⟩
 · refine jJ ?_;exact ⟨by rw [YM hW (bR.1 hc1) (bR.1 hc2) (bR.1 hc3) (bR.1 hc4) sV],U⟩
 · refine jJ ?_;exact ⟨by rw [YN hW (bR.1 hc1) (bR.1 hc2) (bR.1 hc3) (bR.1 hc4) (bR.1 hc5) sV],U⟩
 refine jJ ?_;exact ⟨by rw [Zv hW (bR.1 hc1) (bR.1 hc2) (bR.1 hc3) (bR.1 hc4) (bR.1 hc5) (bR.1 hc6)],U⟩
end
theorem TH {G:A2} {b:Nat} {c:Array Value} {ty:I9} {z:Nat×Nat} (h:G b=some (.cells c ty z)) {k:Nat} {v:Value} (hv:c[k]?=some v):G.cell b k=some v:=by
 unfold A2.cell;rw [h];exact hv
structure PF where
 p:PH
 f:Nat
 b:Nat
instance:Inhabited PF:=⟨⟨default,0,0⟩⟩
instance:A0 PF:=⟨5,fun x=>[.int .i64 x.p.ins,.int .i64 x.p.regs,.slice x.p.ac x.p.cn x.p.cc,.slice x.p.ao x.p.on x.p.oc,.func (.func x.f) #[] #[.pointer (some ⟨x.b,0,none⟩)]],fun _=>rfl,fun _=>rfl⟩
section
attribute [local irreducible] yK Aj tT sW uO
end
def BJ (to a c:Int):Sl.Instr:=if c=1 then ⟨1,to,a,0,0⟩ else if c=-1 then ⟨2,to,a,0,0⟩ else if wH c=0 then ⟨5,to,a,0,c⟩ else ⟨7,to,a,0,wH c⟩
def YO (i:I5):List Sl.Instr:=if i.op≠1∨i.to≠i.a then [i] else []
theorem ec (to a c:Int):YO (BJ to a c)=Lq to a c:=by
 unfold YO BJ Lq;by_cases h1:c=1
 · simp only [aE h1];by_cases h2:to=a
   · rw [aE h2,aC];rintro (h | h)
     · exact h U
     exact h h2
   rw [aC h2,aE (.inr h2)]
 simp only [aC h1];by_cases h2:c=-1
 · simp only [aE h2];exact aE (.inl (show ¬((2:Int)=1) by decide))
 simp only [aC h2];by_cases h3:wH c=0
 · simp only [aE h3];exact aE (.inl (show ¬((5:Int)=1) by decide))
 simp only [aC h3];exact aE (.inl (show ¬((7:Int)=1) by decide))
theorem c90 (G:A2) (hT:TabOk G) (to a c:Int) (hc:c≠0∧-512≤c∧c≤512):Does Tryz.prog 90 [.int .i64 to,.int .i64 a,.int .i64 c] G [] (fun v G' Ho=>v=.agg #[.int .i64 (BJ to a c).op,.int .i64 (BJ to a c).to,.int .i64 (BJ to a c).a,.int .i64 (BJ to a c).b,.int .i64 (BJ to a c).c]∧G'=G∧Ho=[]):=by
 refine D0 Tryz.func90 Tryz.ntmps90 fun w=>?_;refine aK 2 [] ?_;refine aV 0 U T.zero91 fun b1=>?_;refine bG 11 [] ?_;refine cF (fun hc1=>?_) fun hc1=>?_;refine aK 4 [] ?_;refine aZ (cQ (cs:=[_,_,_,_,_]) T.st91 U U U) ?_;refine aY 6 [0] ?_;refine cW (.inr U) (Ho:=Hp.only _ []) U (.agg 0 U U T.agg91) (bH _ _) ?_;rotate_left;refine bJ 7 [] ?_;refine cF (fun hc2=>?_) fun hc2=>?_;refine aK 4 [] ?_;refine aZ (cQ (cs:=[_,_,_,_,_]) T.st91 U U U) ?_;refine aY 6 [0] ?_;refine cW (.inr U) (Ho:=Hp.only _ []) U (.agg 0 U U T.agg91) (bH _ _) ?_;rotate_left;refine aK 5 [] ?_;apply bS 6 22 28 U;intro hg1;refine aB 7 [] ?_;refine aZ (mA U U) ?_;refine aB 3 [] ?_;exact cC 6 0;intro hg1;refine aB 6 [] ?_;exact cC 6 0;refine bG 3 [] ?_;refine cF (fun hc3=>?_) fun hc3=>?_;refine aK 5 [] ?_;refine aZ (mP U T.u199 U sU) ?_;rotate_left;refine aK 8 [] ?_;refine aZ (cQ (cs:=[_,_,_,_,_]) T.st91 U U U) ?_;refine aY 4 [0] ?_;refine cW (.inr U) (Ho:=Hp.only _ []) U (.agg 0 U U T.agg91) (bH _ _) ?_;rotate_left
 · have e:BJ to a c=⟨1,to,a,0,0⟩:=aE hc1;rw [e];exact ⟨U,U,U⟩
 · have e:BJ to a c=⟨2,to,a,0,0⟩:=(aC hc1).trans (aE hc2);rw [e];exact ⟨U,U,U⟩
 · have hp:wH c≠0:=(Gq ⟨by omega,hc.2.2⟩).1 hc3.2;refine cZ U (jc _ hT _ hp) ?_;refine aZ (cQ (cs:=[_,_,_,_,_]) T.st91 U U U) ?_;refine aY 6 [0] ?_;refine cW (.inr U) (Ho:=Hp.only _ []) U (.agg 0 U U T.agg91) (bH _ _) ?_;have e:BJ to a c=⟨7,to,a,0,wH c⟩:=(aC hc1).trans ((aC hc2).trans (aC hp));rw [e];exact ⟨U,U,U⟩
 have hp:wH c=0:=by
  rcases Int.lt_or_le c 2 with h2 | h2
  · exact Mb h2
  exact cV fun hn=>hc3 ⟨by omega,(Gq ⟨h2,hc.2.2⟩).2 hn⟩
 have e:BJ to a c=⟨5,to,a,0,c⟩:=(aC hc1).trans ((aC hc2).trans (aE hp));rw [e];exact ⟨U,U,U⟩
abbrev Vg (b:Nat) (ins regs:Int) (ac:J0 Addr) (cc:Nat) (code:List I5) (j:List Value) (oa:J0 Addr) (on oc:Nat):Hp:=[(0,some b,.cells #[.int .i64 ins,.int .i64 regs,.slice ac code.length cc,.slice oa on oc] 26),(1,ac.map (·.block),Row 91 code j)]
theorem c88 (G:A2) (b:Nat) (ins regs:Int) (ac:J0 Addr) (cc:Nat) (code:List I5) (j:List Value) (oa:J0 Addr) (on oc:Nat) (op to x y c:Int) (ho:A3 ac cc code j) (hl:code.length≤1048576) :
 Does Tryz.prog 88 [.agg #[.int .i64 op,.int .i64 to,.int .i64 x,.int .i64 y,.int .i64 c],.pointer (some ⟨b,0,none⟩)] G (Vg b ins regs ac cc code j oa on oc)
  (fun v G' Ho=>v=.tuple #[]∧G'=G∧∃ (a':J0 Addr) (c':Nat) (j':List Value),A3 a' c' (code++YO ⟨op,to,x,y,c⟩) j'∧Ho=Vg b ins regs a' c' (code++YO ⟨op,to,x,y,c⟩) j' oa on oc):=by
 unfold Vg;refine D0 Tryz.func88 Tryz.ntmps88 fun w=>?_;refine aK 2 [] ?_;refine eG 2 fun b1=>?_;refine aS 8 [2] ?_;apply cJ 6 6 12 U;intro hg1;refine aB 11 [2,2] ?_;exact cC 6 0;intro hg1;refine aB 6 [] ?_;exact cC 6 0;refine bG 2 [] ?_;refine cF (fun hc1=>?_) fun hc1=>?_;refine aK 4 [0,2] ?_;refine eH (α:=I5) 3 [⟨op,to,x,y,c⟩] U T.sl23 T.el91 U U U U U fun b2=>?_;refine iP (α:=I5) 1 T.sl23 T.el91 (eP 3 U) fun a1 c1 junk1 ho1=>?_;refine aY 3 [0] ?_;rotate_left;refine kG ?_;rotate_left
 · have e:YO ⟨op,to,x,y,c⟩=[⟨op,to,x,y,c⟩]:=aE hc1;rw [e];refine jX Am (Ho:=[(0,some b,.cells #[.int .i64 ins,.int .i64 regs,.slice a1 (code++[(⟨op,to,x,y,c⟩:I5)]).length c1,.slice oa on oc] 26),(1,a1.map (·.block),Row 91 (code++[⟨op,to,x,y,c⟩]) junk1)]) U ⟨U,U,I3⟩ ?_;exact ⟨U,U,a1,c1,junk1,ho1,U⟩
 have e:YO ⟨op,to,x,y,c⟩=[]:=aC hc1;rw [e,cK];refine jX Am (Ho:=[(0,some b,.cells #[.int .i64 ins,.int .i64 regs,.slice ac code.length cc,.slice oa on oc] 26),(1,ac.map (·.block),Row 91 code j)]) U ⟨U,U,I3⟩ ?_;exact ⟨U,U,ac,cc,j,ho,U⟩
theorem kg (G:A2) (b:Nat) (ins regs:Int) (ac:J0 Addr) (cc:Nat) (code:List I5) (j:List Value) (oa:J0 Addr) (on oc:Nat) (to a c:Int) (ho:A3 ac cc code j) (hl:code.length≤1048576) :
 Does Tryz.prog 88 [.agg #[.int .i64 (BJ to a c).op,.int .i64 (BJ to a c).to,.int .i64 (BJ to a c).a,.int .i64 (BJ to a c).b,.int .i64 (BJ to a c).c],.pointer (some ⟨b,0,none⟩)] G (Vg b ins regs ac cc code j oa on oc)
  (fun v G' Ho=>v=.tuple #[]∧G'=G∧∃ (a':J0 Addr) (c':Nat) (j':List Value),A3 a' c' (code++Lq to a c) j'∧Ho=Vg b ins regs a' c' (code++Lq to a c) j' oa on oc):=by
 rw [←ec to a c];exact c88 G b ins regs ac cc code j oa on oc _ _ _ _ _ ho hl
theorem YP (G:A2) (b:Nat) (ins regs:Int) (ac:J0 Addr) (cc:Nat) (code:List I5) (j:List Value) (oa:J0 Addr) (on oc:Nat) (op to x y c:Int) (hop:op≠1) (ho:A3 ac cc code j) (hl:code.length≤1048576) :
 Does Tryz.prog 88 [.agg #[.int .i64 op,.int .i64 to,.int .i64 x,.int .i64 y,.int .i64 c],.pointer (some ⟨b,0,none⟩)] G (Vg b ins regs ac cc code j oa on oc)
  (fun v G' Ho=>v=.tuple #[]∧G'=G∧∃ (a':J0 Addr) (c':Nat) (j':List Value),A3 a' c' (code++[⟨op,to,x,y,c⟩]) j'∧Ho=Vg b ins regs a' c' (code++[⟨op,to,x,y,c⟩]) j' oa on oc):=by
 rw [show ([⟨op,to,x,y,c⟩]:List Sl.Instr)=YO ⟨op,to,x,y,c⟩ from (aE (.inl hop)).symm];exact c88 G b ins regs ac cc code j oa on oc _ _ _ _ _ ho hl
theorem Zw (to a c:Int):(Lq to a c).length≤1:=by
 unfold Lq
 repeat' split
 all_goals simp
theorem KM (to c:Int):∀ (n:Nat) (a:Int),(Kq to c a n).length≤n
 | 0,_=>aH _
 | n+1,a=>by
   show (Lq to a c++Kq to c to n).length≤n+1;rw [aD];have h1:=KM to c n to;have h2:=Zw to a c;omega
theorem TI (to c a:Int):Kq to c a 0=[]:=rfl
theorem TJ (to c a:Int) (n:Nat):Kq to c a (n+1)=Lq to a c++Kq to c to n:=rfl
section
attribute [local irreducible] Kq Lq BJ YO
theorem tp (G:A2) (hT:TabOk G) (b b7:Nat) (ins regs:Int) (ac:J0 Addr) (cc:Nat) (code:List I5) (j:List Value) (oa:J0 Addr) (on oc:Nat) (to a c:Int) (n:Nat) (hc:c≠0∧-512≤c∧c≤512)
 (hb7:G b7=some (.cells #[.func (.func 88) #[] #[.pointer (some ⟨b,0,none⟩)]] 150 (0,0))) (ho:A3 ac cc code j) (hl:code.length+n≤1048576) :
 Does Tryz.prog 89 [.int .i64 to,.int .i64 a,.int .i64 c,.int .i64 (n:Int),.pointer (some ⟨b7,0,none⟩)] G (Vg b ins regs ac cc code j oa on oc)
  (fun v G' Ho=>v=.tuple #[]∧G'=G∧∃ (a':J0 Addr) (c':Nat) (j':List Value),A3 a' c' (code++Kq to c a n) j'∧Ho=Vg b ins regs a' c' (code++Kq to c a n) j' oa on oc):=by
 unfold Vg;refine D0 Tryz.func89 Tryz.ntmps89 fun w=>?_;refine bJ 7 [] ?_;refine fY (ι:=Nat×Int×List I5×(J0 Addr×Nat×List Value)) (fun (i,x,cd,(o,d,jj))=>([(10,.int .i64 (i:Int)),(1,.int .i64 x),(9,.int .i64 (n:Int)),(0,.int .i64 to),(2,.int .i64 c),(4,.pointer (some ⟨b7,0,none⟩))],[(0,some b,.cells #[.int .i64 ins,.int .i64 regs,.slice o cd.length d,.slice oa on oc] 26),(1,o.map (·.block),Row 91 cd jj)])) (fun (i,x,cd,(o,d,jj))=>i≤n∧cd++Kq to c x (n - i)=code++Kq to c a n∧A3 o d cd jj∧cd.length≤code.length+i) (fun (i,x,cd,(o,d,jj))=>n - i) ((0,a,code,(ac,cc,j))) (⟨aP _,U,ho,aH _⟩) ⟨U,U,U,U,U,U,I3⟩ ⟨U,U,I3⟩ fun ⟨i,x,cd,(o,d,jj)⟩=>fun hk=>?_;obtain ⟨hi,hcd,hown,hlen⟩:=hk;rcases aN i n with hin | hin
 · obtain ⟨m,hm⟩:∃ m,n - i=m+1:=⟨n - i - 1,by omega⟩
   rw [hm,TJ] at hcd;refine bJ 12 [1] ?_;refine lO [] [] T.mixed U ?_;refine fH 0 [] U (eE T.one150 U (TH hb7 U)) ?_;refine eO [[1],[2],[3]] ?_;refine dB 4 ?_;refine cZ U (c90 _ hT to x c hc) ?_;refine cY 5 ?_;refine kX (fst:=[]) (cap:=[.pointer (some ⟨b,0,none⟩)]) 0 U T.fn88 U U (kg G b ins regs o d cd jj oa on oc to x c hown sU) (tB ⟨U,U,I3⟩) fun v9 G9 Ho9 hle9 hp=>?_;obtain ⟨rfl,rfl,o9,d9,j9,how9,rfl⟩:=hp;refine fB ?_;refine fI 11 [] ?_;have hl1:=Zw to x c;refine cO ((i+1,to,cd++Lq to x c,(o9,d9,j9))) ?_ ?_
   · refine ⟨by omega,?_,how9,by rw [aD];omega⟩;rw [bA,show n - (i+1)=m by omega];exact hcd
   show n - (i+1)<n - i;omega
 have hz:n - i=0:=sU;rw [hz,TI,cK] at hcd;subst hcd;refine bE 11 [0] ?_;refine jX Am (Ho:=[(0,some b,.cells #[.int .i64 ins,.int .i64 regs,.slice o (code++Kq to c a n).length d,.slice oa on oc] 26),(1,o.map (·.block),Row 91 (code++Kq to c a n) jj)]) U ⟨U,U,I3⟩ ?_;exact ⟨U,U,o,d,jj,hown,U⟩
end
theorem Gz {k:Nat} {l:List R2} (hR:uO l) (hk:1≤k∧k≤8):Sc k l:=⟨hk.1,hk.2,hR.1,hR.2.1,fun i hi=>(hR.2.2.1 i hi).1⟩
theorem Xf {l:List R2} (hR:uO l) {i:Nat} (hi:i<l.length):near (l[i]?.getD default).a (l[i]?.getD default).b∧¬((l[i]?.getD default).a=0∧(l[i]?.getD default).b=0):=hR.2.2.1 i hi
theorem YQ {k:Nat} (h:k=1) (i:Nat):NU k i=0:=aE h
theorem Zx {k:Nat} (h:¬k=1) (i:Nat):NU k i=(k:Int)+i:=aC h
theorem TK {k n i:Nat} {q:R2} (h:k=1):Cs k n i q=[]:=aE h
theorem NW {k n i:Nat} {q:R2} (h:¬k=1) (h0:¬(q.a=0∧q.b=0)) (ha:q.a=0):Cs k n i q=Kq ((k:Int)+i) q.b 0 (k - 1):=by unfold Cs;rw [aC h,aC h0,aE ha]
theorem HU {k n i:Nat} {q:R2} (h:¬k=1) (ha:¬q.a=0) (hb:q.b=0):Cs k n i q=Kq ((k:Int)+i) q.a ((k:Int) - 1) (k - 1):=by unfold Cs;rw [aC h,aC (fun h=>ha h.1),aC ha,aE hb]
theorem NX {k n i:Nat} {q:R2} (h:¬k=1) (ha:¬q.a=0) (hb:¬q.b=0):Cs k n i q=PP k ((k:Int)+i) ((k:Int)+n) q.a q.b ((k:Int) - 1) (k - 1):=by unfold Cs;rw [aC h,aC (fun h=>ha h.1),aC ha,aC hb]
theorem TL (k:Nat) (to tm a b fr:Int):PP k to tm a b fr 0=[]:=rfl
theorem TM (k:Nat) (to tm a b fr:Int) (m:Nat):PP k to tm a b fr (m+1)=Lq to fr a++(KG to tm b m (k - 1 - m)++PP k to tm a b to m):=rfl
theorem KN {to tm b j:Int} {n:Nat} (h:b=1∨(b=-1∧n % 2=0)):KG to tm b j n=[⟨3,to,to,j,0⟩]:=aE h
theorem YR {to tm b j:Int} {n:Nat} (h:¬(b=1∨(b=-1∧n % 2=0))) (h1:b=-1):KG to tm b j n=[⟨4,to,to,j,0⟩]:=(aC h).trans (aE h1)
theorem YS {to tm b j:Int} {n:Nat} (h:¬(b=1∨(b=-1∧n % 2=0))) (h1:¬b=-1):KG to tm b j n=Kq tm b j n++[⟨3,to,to,tm,0⟩]:=(aC h).trans (aC h1)
theorem YT (k n i:Nat):ED k n i []=[]:=rfl
section
attribute [local irreducible] Kq Lq BJ YO uO PP KG Cs ED NU
theorem c43 (G:A2) (hT:TabOk G) (k:Nat) (a:J0 Addr) (c:Nat) (l:List R2) (ha:Arr G a l) (hl:l.length≤1048576) (hR:uO l) (hk1:1≤k) (hk8:k≤8) :
 Does Tryz.prog 43 [.int .i64 (k:Int),.slice a l.length c] G [] (fun v G' Ho=>∃ ca oa cc oc,v=.tuple #[.agg #[.int .i64 (xG k l).ins,.int .i64 (xG k l).regs,.slice ca (xG k l).code.length cc,.slice oa (xG k l).outs.length oc],.int .i64 0]∧Arr G' ca (xG k l).code∧Arr G' oa (xG k l).outs∧Ho=[]):=by
 have hE:=Gz hR ⟨hk1,hk8⟩;have hl15:=hE.2.2.2.1;have hln:=hE.2.2.1;refine D0 Tryz.func43 Tryz.ntmps43 fun w=>?_;refine aK 2 [] ?_;refine aV 0 U T.zero26 fun b1=>?_;refine bG 3 [] ?_;refine pH ?_;refine aK 6 [] ?_;refine iW 18 ?_;refine aB 6 [] ?_;refine iW 22 ?_;refine aB 3 [] ?_;refine cZ U (c87 _ _ _ _ sV sU hR) ?_;refine aB 1 [] ?_;refine aZ (eJ U) ?_;refine aS 14 [0] ?_;refine aZ (cQ (cs:=[_,_,_,_]) T.st26 U U U) ?_;refine aV 1 U T.zero26 fun b2=>?_;refine aS 5 [1] ?_;refine aZ (mO U U) ?_;refine aV 2 U T.zero150 fun b3=>?_;refine aS 14 [2] ?_;refine aZ (mO U U) ?_;refine bG 7 [] ?_;refine Wc.freeze 2 U fun G1 hle1 hb3=>?_;refine dK 2 (Row 91 ([]:List I5) []) (dK 3 (Row 3 ([]:List Int) []) ?_);replace ha:=ha.up hle1;have hT1:=hT.up hle1;replace hb3:G1 b3=some (.cells #[.func (.func 88) #[] #[.pointer (some ⟨b2,0,none⟩)]] 150 (0,0)):=hb3;have hcell:G1.cell b3 0=some (.func (.func 88) #[] #[.pointer (some ⟨b2,0,none⟩)]):=TH hb3 U;refine bJ 8 [] ?_;refine fY (ι:=Nat×(List I5×J0 Addr×Nat×List Value)×(List Int×J0 Addr×Nat×List Value)) (fun (i,(cd,o,d,jj),(os,oo,od,kk))=>([(43,.int .i64 (i:Int)),(6,.pointer (some ⟨b2,0,none⟩)),(4,.pointer (some ⟨b1,0,none⟩)),(42,.int .i64 (l.length:Int)),(41,.slice a (List.length l) c),(9,.func (Go.Fn.func 89) #[] #[.pointer (some (Addr.mk b3 0 none))]),(8,.int .i64 ((↑k:Int)+(l.length:Int))),(7,.pointer (some (Addr.mk b3 0 none))),(5,.int .i64 0),(0,.int .i64 (↑k:Int))],[(0,some b1,.cells #[.int .i64 0,.int .i64 0,.slice none 0 0,.slice none 0 0] 26),(1,some b2,.cells #[.int .i64 (k:Int),.int .i64 ((k:Int)+l.length+1),.slice o cd.length d,.slice oo os.length od] 26),(2,o.map (·.block),Row 91 cd jj),(3,oo.map (·.block),Row 3 os kk)])) (fun (i,(cd,o,d,jj),(os,oo,od,kk))=>i≤l.length∧cd=ED k l.length 0 (l.take i)∧os=(List.range i).map (NU k)∧A3 o d cd jj∧A3 oo od os kk∧cd.length≤63*i∧os.length=i) (fun (i,(cd,o,d,jj),(os,oo,od,kk))=>l.length - i) ((0,([],none,0,[]),([],none,0,[]))) (⟨aP _,(YT _ _ _).symm,U,dN,dN,aP _,U⟩) ⟨U,U,U,U,U,U,U,U,U,U,I3⟩ ⟨U,U,U,U,I3⟩ fun ⟨i,(cd,o,d,jj),(os,oo,od,kk)⟩=>fun hk=>?_;obtain ⟨hi,hcd,hos,hown,hoo,hcl,hol⟩:=hk;rcases aN i l.length with hil | hil
 · have hT2:ED k l.length 0 (l.take (i+1))=cd++Cs k l.length i (l[(i:Int).toNat]?.getD default):=by
    rw [hcd,aG,dA,aA hil,dI];show ED k l.length 0 (l.take i++[l[i]])=_;rw [EE,cP,bM,fW sU]
   have hO2:(List.range (i+1)).map (NU k)=os++[NU k i]:=by
    rw [hos,List.range_succ,jV];rfl
   have hq:near (l[(i:Int).toNat]?.getD default).a (l[(i:Int).toNat]?.getD default).b∧¬((l[(i:Int).toNat]?.getD default).a=0∧(l[(i:Int).toNat]?.getD default).b=0):=by rw [aG];exact Xf hR hil
   have hq':-16≤(l[(i:Int).toNat]?.getD default).a∧(l[(i:Int).toNat]?.getD default).a≤16∧-16≤(l[(i:Int).toNat]?.getD default).b∧(l[(i:Int).toNat]?.getD default).b≤16:=by have:=hq.1;unfold near at this;omega
   have hlen2:∀ x:Int,(os++[x]).length=i+1:=fun x=>by rw [aD,hol];rfl
   have hcl2:(ED k l.length 0 (l.take (i+1))).length≤63*(i+1):=by
    have h9:=(Sb (n:=l.length) hk1 hk8 (l.take (i+1)) 0 (by rw [bM];omega) (fun q hq=>Xd hE.2.2.2.2 q (qP hq))).len;rw [bM,fW sU] at h9;exact h9
   have hn1:((k - 1:Nat):Int)=(k:Int) - 1:=sU;refine aK 14 [1] ?_;refine gG (α:=R2) T.sl22 ?_;refine mL T.agg52 ?_;refine aV 4 U T.zero52 fun b4=>?_;refine aS 17 [4,1] ?_;refine eH (α:=Int) 5 [((↑k:Int)+(↑i:Int))] U T.sl24 T.el3 U U U U U fun b5=>?_;refine iP (α:=Int) 3 T.sl24 T.el3 (eP 5 U) fun a1 c1 junk1 ho1=>?_;refine bG 13 [1] ?_;refine cF (fun hc1=>?_) fun hc1=>?_;refine aK 5 [1] ?_;rotate_left;refine aK 6 [4] ?_;apply bS 4 68 72 U;intro hg1;refine aB 7 [4] ?_;exact cC 4 0;intro hg1;refine aB 4 [] ?_;exact cC 4 0;refine bG 12 [0,4] ?_;refine cF (fun hc2=>?_) fun hc2=>?_;refine aK 8 [4] ?_;rotate_left;refine bJ 8 [4] ?_;refine cF (fun hc3=>?_) fun hc3=>?_;refine aK 10 [4] ?_;rotate_left;refine bJ 18 [] ?_;rotate_left
   · refine aZ (dM (α:=Int) T.sl24 U U ho1 (show 0≤(i:Int)∧(i:Int)<(((os++[((k:Int)+i)]).length:Nat):Int) by rw [hlen2];omega)) ?_;refine dJ (α:=Int) (m:=(i:Int)) (z:=(0:Int)) 3 T.size3 U U U ho1 (by rw [hlen2];omega) U fun ho2=>?_;have hset:(os++[((k:Int)+i)]).set (i:Int).toNat 0=os++[(0:Int)]:=by
      rw [aG,←hol,List.set_append_right _ _ (aH _),iX];rfl
     rw [hset] at ho2;refine aY 11 [] ?_;have hk:k=1:=sU;have e8:NU k i=0:=YQ hk i;have e9:Cs k l.length i (l[(i:Int).toNat]?.getD default)=[]:=TK hk;rw [e9,cK] at hT2;rw [e8] at hO2;refine iV 3 (Row 3 (os++[(0:Int)]) junk1) U (by rw [hset]) (iV 1 (.cells #[.int .i64 (k:Int),.int .i64 ((k:Int)+l.length+1),.slice o cd.length d,.slice a1 (os++[(0:Int)]).length c1] 26) U (congrArg (fun n:Nat=>Obj.cells #[.int .i64 (k:Int),.int .i64 ((k:Int)+l.length+1),.slice o cd.length d,.slice a1 n c1] 26 (0,0)) (show (os++[((k:Int)+i)]).length=(os++[(0:Int)]).length by rw [hlen2,hlen2])) ?_);refine cO ((i+1,(cd,o,d,jj),(os++[0],a1,c1,junk1))) ?_ ?_
     · exact ⟨by omega,hT2.symm,hO2.symm,hown,ho2,by rw [←hT2];exact hcl2,hlen2 _⟩
     show l.length - (i+1)<l.length - i;omega
   · have hk:¬k=1:=sU;rw [Zx hk i] at hO2;have hb0:(l[(i:Int).toNat]?.getD default).b≠0:=fun h=>hq.2 ⟨by assumption,h⟩;refine iK 86 U (show _=Value.int .i64 ((k - 1:Nat):Int) by rw [hn1]) ?_;refine kX (fst:=[]) (cap:=[.pointer (some ⟨b3,0,none⟩)]) 1 U T.fn89 U U (tp G1 hT1 b2 b3 _ _ o d cd jj a1 (os++[((k:Int)+i)]).length c1 ((k:Int)+i) 0 (l[(i:Int).toNat]?.getD default).b (k - 1) sU hb3 hown sU) (tB ⟨U,U,I3⟩) fun v9 G9 Ho9 hle9 hp=>?_;obtain ⟨rfl,rfl,o9,d9,j9,how9,rfl⟩:=hp;refine aY 11 [] ?_;have e9:Cs k l.length i (l[(i:Int).toNat]?.getD default)=Kq ((k:Int)+i) (l[(i:Int).toNat]?.getD default).b 0 (k - 1):=NW hk hq.2 sV;rw [e9] at hT2;refine cO ((i+1,(cd++Kq ((k:Int)+i) (l[(i:Int).toNat]?.getD default).b 0 (k - 1),o9,d9,j9),(os++[((k:Int)+i)],a1,c1,junk1))) ?_ ?_
     · exact ⟨by omega,hT2.symm,hO2.symm,how9,ho1,by rw [←hT2];exact hcl2,hlen2 _⟩
     show l.length - (i+1)<l.length - i;omega
   · have hk:¬k=1:=sU;rw [Zx hk i] at hO2;refine iK 99 U (show _=Value.int .i64 ((k - 1:Nat):Int) by rw [hn1]) ?_;refine kX (fst:=[]) (cap:=[.pointer (some ⟨b3,0,none⟩)]) 1 U T.fn89 U U (tp G1 hT1 b2 b3 _ _ o d cd jj a1 (os++[((k:Int)+i)]).length c1 ((k:Int)+i) ((k:Int) - 1) (l[(i:Int).toNat]?.getD default).a (k - 1) sU hb3 hown sU) (tB ⟨U,U,I3⟩) fun v9 G9 Ho9 hle9 hp=>?_;obtain ⟨rfl,rfl,o9,d9,j9,how9,rfl⟩:=hp;refine aY 11 [] ?_;have e9:Cs k l.length i (l[(i:Int).toNat]?.getD default)=Kq ((k:Int)+i) (l[(i:Int).toNat]?.getD default).a ((k:Int) - 1) (k - 1):=HU hk sV sV;rw [e9] at hT2;refine cO ((i+1,(cd++Kq ((k:Int)+i) (l[(i:Int).toNat]?.getD default).a ((k:Int) - 1) (k - 1),o9,d9,j9),(os++[((k:Int)+i)],a1,c1,junk1))) ?_ ?_
     · exact ⟨by omega,hT2.symm,hO2.symm,how9,ho1,by rw [←hT2];exact hcl2,hlen2 _⟩
     show l.length - (i+1)<l.length - i;omega
   have hk:¬k=1:=sU;rw [Zx hk i] at hO2;have e9:Cs k l.length i (l[(i:Int).toNat]?.getD default)=PP k ((k:Int)+i) ((k:Int)+l.length) (l[(i:Int).toNat]?.getD default).a (l[(i:Int).toNat]?.getD default).b ((k:Int) - 1) (k - 1):=NX hk sV sV;rw [e9] at hT2;refine kY 14 U (show _=Value.int .i64 (((k - 1:Nat):Int) - 1) by rw [hn1];congr 1;omega) ?_;refine fY (ι:=Nat×Int×(List I5×J0 Addr×Nat×List Value)) (fun (m,fr,(ce,o',d',jj'))=>([(14,.int .i64 ((m:Int) - 1)),(13,.int .i64 fr),(43,.int .i64 (i:Int)),(42,.int .i64 (l.length:Int)),(41,.slice a l.length c),(6,.pointer (some ⟨b2,0,none⟩)),(4,.pointer (some ⟨b1,0,none⟩)),(9,.func (.func 89) #[] #[.pointer (some ⟨b3,0,none⟩)]),(8,.int .i64 ((k:Int)+l.length)),(7,.pointer (some ⟨b3,0,none⟩)),(5,.int .i64 0),(0,.int .i64 (k:Int)),(12,.int .i64 ((k:Int)+i)),(11,.pointer (some ⟨b4,0,none⟩))],[(0,some b1,.cells #[.int .i64 0,.int .i64 0,.slice none 0 0,.slice none 0 0] 26),(1,some b2,.cells #[.int .i64 (k:Int),.int .i64 ((k:Int)+l.length+1),.slice o' ce.length d',.slice a1 (os++[((k:Int)+i)]).length c1] 26),(2,o'.map (·.block),Row 91 ce jj'),(3,a1.map (·.block),Row 3 (os++[((k:Int)+i)]) junk1),(4,some b4,.cells #[.int .i64 (l[(i:Int).toNat]?.getD default).a,.int .i64 (l[(i:Int).toNat]?.getD default).b] 52),(5,some b5,Row (α:=Int) 3 ([(↑k:Int)+(↑i:Int)]) ([]))])) (fun (m,fr,(ce,o',d',jj'))=>m≤k - 1∧ce++PP k ((k:Int)+i) ((k:Int)+l.length) (l[(i:Int).toNat]?.getD default).a (l[(i:Int).toNat]?.getD default).b fr m=cd++PP k ((k:Int)+i) ((k:Int)+l.length) (l[(i:Int).toNat]?.getD default).a (l[(i:Int).toNat]?.getD default).b ((k:Int) - 1) (k - 1)∧A3 o' d' ce jj'∧ce.length≤cd.length+9*(k - 1 - m)) (fun (m,fr,(ce,o',d',jj'))=>m) ((k - 1,(k:Int) - 1,(cd,o,d,jj))) (⟨aH _,U,hown,Nat.le_add_right _ _⟩) ⟨U,U,U,U,U,U,U,U,U,U,U,U,U,U,I3⟩ ⟨U,U,U,U,U,U,I3⟩ fun ⟨m,fr,(ce,o',d',jj')⟩=>fun hk=>?_;obtain ⟨hm,hce,hown',hcel⟩:=hk;rcases fQ m with hm0 | hm0
   · subst hm0;rw [TL,cK] at hce;refine bE 18 [0] ?_;rw [←hce] at hT2;refine cO ((i+1,(ce,o',d',jj'),(os++[((k:Int)+i)],a1,c1,junk1))) ?_ ?_
     · exact ⟨by omega,hT2.symm,hO2.symm,hown',ho1,by rw [←hT2];exact hcl2,hlen2 _⟩
     show l.length - (i+1)<l.length - i;omega
   obtain ⟨m,rfl⟩:∃ m',m=m'+1:=⟨m - 1,by omega⟩
   rw [TM] at hce;have hl1:=Zw ((k:Int)+i) fr (l[(i:Int).toNat]?.getD default).a;have hl2:=KM ((k:Int)+l.length) (l[(i:Int).toNat]?.getD default).b (k - 1 - m) (m:Int);have hnm:((k - 1 - m:Nat):Int)=(k:Int) - 1 - m:=sU;refine kY 14 U (show _=Value.int .i64 (m:Int) by congr 1;omega) ?_;refine bJ 13 [1] ?_;refine lO [4] [] T.mixed U ?_;refine fH 0 [] U (eE T.one150 U hcell) ?_;refine eO [[1],[2],[3],[4,4]] ?_;refine dB 5 ?_;refine cZ U (c90 _ hT1 ((k:Int)+i) fr (l[(i:Int).toNat]?.getD default).a sU) ?_;refine cY 6 ?_;refine kX (fst:=[]) (cap:=[.pointer (some ⟨b2,0,none⟩)]) 1 U T.fn88 U U (kg G1 b2 _ _ o' d' ce jj' a1 (os++[((k:Int)+i)]).length c1 ((k:Int)+i) fr (l[(i:Int).toNat]?.getD default).a hown' sU) (tB ⟨U,U,I3⟩) fun v6 G6 Ho6 hle6 hp=>?_;obtain ⟨rfl,rfl,o6,d6,j6,how6,rfl⟩:=hp;refine fB ?_;have hhb:∀ n:Nat,((n:Int)=(k:Int) - 1 - m)→(n % 2=0↔((k:Int) - 1 - m) % 2=0):=fun n h=>sU;refine oS 26 [4] ?_;refine cF (fun hc4=>?_) fun hc4=>?_;refine aK 4 [1] ?_;refine aZ (eE T.one150 U sV) ?_;refine aB 3 [] ?_;refine aZ (cQ (cs:=[_,_,_,_,_]) T.st91 U U U) ?_;rotate_left;refine aK 5 [4] ?_;apply bS 4 141 145 U;intro hg1;refine aB 3 [] ?_;refine aZ (kU U U sU) ?_;refine aB 3 [] ?_;exact cC 4 0;intro hg1;refine aB 4 [] ?_;exact cC 4 0;refine bG 3 [] ?_;refine cF (fun hc5=>?_) fun hc5=>?_;refine aK 1 [] ?_;refine aZ (eE T.one150 U sV) ?_;refine aB 3 [] ?_;refine aZ (cQ (cs:=[_,_,_,_,_]) T.st91 U U U) ?_;rotate_left;refine bJ 8 [4] ?_;refine cF (fun hc6=>?_) fun hc6=>?_;refine aK 1 [] ?_;refine aZ (eE T.one150 U sV) ?_;refine aB 3 [] ?_;refine aZ (cQ (cs:=[_,_,_,_,_]) T.st91 U U U) ?_;rotate_left;refine aK 8 [4] ?_;rotate_left
   · skip;refine kX (fst:=[]) (cap:=[.pointer (some ⟨b2,0,none⟩)]) 1 U T.fn88 U U (YP _ b2 _ _ o6 d6 (ce++Lq ((k:Int)+i) fr (l[(i:Int).toNat]?.getD default).a) j6 a1 (os++[((k:Int)+i)]).length c1 3 ((k:Int)+i) ((k:Int)+i) (m:Int) 0 tI how6 IX) (tB ⟨U,U,I3⟩) fun v7 G7 Ho7 hle7 hp=>?_;obtain ⟨rfl,rfl,o7,d7,j7,how7,rfl⟩:=hp;refine aY 9 [] ?_;refine dW 14 U (show _=Value.int .i64 ((m:Int) - 1) from U) ?_;rw [show KG ((k:Int)+i) ((k:Int)+l.length) (l[(i:Int).toNat]?.getD default).b (m:Int) (k - 1 - m)=[⟨3,((k:Int)+i),((k:Int)+i),(m:Int),0⟩] from KN (.inl sV)] at hce;refine cO ((m,((k:Int)+i),(ce++Lq ((k:Int)+i) fr (l[(i:Int).toNat]?.getD default).a++[⟨3,((k:Int)+i),((k:Int)+i),(m:Int),0⟩],o7,d7,j7))) ?_ ?_
     · refine ⟨by omega,?_,how7,by simp only [aD,aU,cD];omega⟩;rw [←hce];simp only [bA]
     show m<m+1;omega
   · skip;refine kX (fst:=[]) (cap:=[.pointer (some ⟨b2,0,none⟩)]) 1 U T.fn88 U U (YP _ b2 _ _ o6 d6 (ce++Lq ((k:Int)+i) fr (l[(i:Int).toNat]?.getD default).a) j6 a1 (os++[((k:Int)+i)]).length c1 3 ((k:Int)+i) ((k:Int)+i) (m:Int) 0 tI how6 IX) (tB ⟨U,U,I3⟩) fun v7 G7 Ho7 hle7 hp=>?_;obtain ⟨rfl,rfl,o7,d7,j7,how7,rfl⟩:=hp;refine aY 9 [] ?_;refine dW 14 U (show _=Value.int .i64 ((m:Int) - 1) from U) ?_;rw [show KG ((k:Int)+i) ((k:Int)+l.length) (l[(i:Int).toNat]?.getD default).b (m:Int) (k - 1 - m)=[⟨3,((k:Int)+i),((k:Int)+i),(m:Int),0⟩] from KN (.inr sU)] at hce;refine cO ((m,((k:Int)+i),(ce++Lq ((k:Int)+i) fr (l[(i:Int).toNat]?.getD default).a++[⟨3,((k:Int)+i),((k:Int)+i),(m:Int),0⟩],o7,d7,j7))) ?_ ?_
     · refine ⟨by omega,?_,how7,by simp only [aD,aU,cD];omega⟩;rw [←hce];simp only [bA]
     show m<m+1;omega
   · skip;refine kX (fst:=[]) (cap:=[.pointer (some ⟨b2,0,none⟩)]) 1 U T.fn88 U U (YP _ b2 _ _ o6 d6 (ce++Lq ((k:Int)+i) fr (l[(i:Int).toNat]?.getD default).a) j6 a1 (os++[((k:Int)+i)]).length c1 4 ((k:Int)+i) ((k:Int)+i) (m:Int) 0 tI how6 IX) (tB ⟨U,U,I3⟩) fun v7 G7 Ho7 hle7 hp=>?_;obtain ⟨rfl,rfl,o7,d7,j7,how7,rfl⟩:=hp;refine aY 9 [] ?_;refine dW 14 U (show _=Value.int .i64 ((m:Int) - 1) from U) ?_;rw [show KG ((k:Int)+i) ((k:Int)+l.length) (l[(i:Int).toNat]?.getD default).b (m:Int) (k - 1 - m)=[⟨4,((k:Int)+i),((k:Int)+i),(m:Int),0⟩] from YR (fun h=>by first | omega | (rcases h with h | h <;> omega)) sV] at hce;refine cO ((m,((k:Int)+i),(ce++Lq ((k:Int)+i) fr (l[(i:Int).toNat]?.getD default).a++[⟨4,((k:Int)+i),((k:Int)+i),(m:Int),0⟩],o7,d7,j7))) ?_ ?_
     · refine ⟨by omega,?_,how7,by simp only [aD,aU,cD];omega⟩;rw [←hce];simp only [bA]
     show m<m+1;omega
   refine iK 126 U (show _=Value.int .i64 ((k - 1 - m:Nat):Int) by rw [hnm]) ?_;have hb9:(l[(i:Int).toNat]?.getD default).b≠0:=by assumption
   refine kX (fst:=[]) (cap:=[.pointer (some ⟨b3,0,none⟩)]) 1 U T.fn89 U U (tp _ sV b2 b3 _ _ o6 d6 (ce++Lq ((k:Int)+i) fr (l[(i:Int).toNat]?.getD default).a) j6 a1 (os++[((k:Int)+i)]).length c1 ((k:Int)+l.length) (m:Int) (l[(i:Int).toNat]?.getD default).b (k - 1 - m) sU hb3 how6 (by simp only [aD];omega)) (tB ⟨U,U,I3⟩) fun v7 G7 Ho7 hle7 hp=>?_;obtain ⟨rfl,rfl,o7,d7,j7,how7,rfl⟩:=hp;refine aS 3 [] ?_;refine aZ (eE T.one150 U sV) ?_;refine aB 3 [] ?_;refine aZ (cQ (cs:=[_,_,_,_,_]) T.st91 U U U) ?_;refine kX (fst:=[]) (cap:=[.pointer (some ⟨b2,0,none⟩)]) 1 U T.fn88 U U (YP _ b2 _ _ o7 d7 (ce++Lq ((k:Int)+i) fr (l[(i:Int).toNat]?.getD default).a++Kq ((k:Int)+l.length) (l[(i:Int).toNat]?.getD default).b (m:Int) (k - 1 - m)) j7 a1 (os++[((k:Int)+i)]).length c1 3 ((k:Int)+i) ((k:Int)+i) ((k:Int)+l.length) 0 tI how7 IX) (tB ⟨U,U,I3⟩) fun v8 G8 Ho8 hle8 hp=>?_;obtain ⟨rfl,rfl,o8,d8,j8,how8,rfl⟩:=hp;refine aY 9 [] ?_;refine dW 14 U (show _=Value.int .i64 ((m:Int) - 1) from U) ?_;rw [show KG ((k:Int)+i) ((k:Int)+l.length) (l[(i:Int).toNat]?.getD default).b (m:Int) (k - 1 - m)=Kq ((k:Int)+l.length) (l[(i:Int).toNat]?.getD default).b (m:Int) (k - 1 - m)++[⟨3,((k:Int)+i),((k:Int)+i),((k:Int)+l.length),0⟩] from YS (fun h=>by first | omega | (rcases h with h | h <;> omega)) sV] at hce;refine cO ((m,((k:Int)+i),(ce++Lq ((k:Int)+i) fr (l[(i:Int).toNat]?.getD default).a++Kq ((k:Int)+l.length) (l[(i:Int).toNat]?.getD default).b (m:Int) (k - 1 - m)++[⟨3,((k:Int)+i),((k:Int)+i),((k:Int)+l.length),0⟩],o8,d8,j8))) ?_ ?_
   · refine ⟨by omega,?_,how8,by simp only [aD,aU,cD];omega⟩;rw [←hce];simp only [bA]
   show m<m+1;omega
 have hin:i=l.length:=sU;have hcd':cd=(xG k l).code:=by rw [hcd,hin,bI];rfl
 have hos':os=(xG k l).outs:=by rw [hos,hin];rfl
 refine bE 20 [0,1,0] ?_;refine nG ?_;refine fO 2 U hown (fun G8 hle8 hA8=>fO 3 U hoo (fun G9 hle9 hA9=>?_));refine gD (.inr U) (Ho:=[]) U (.agg 0 U U T.agg26) (.tmp U) I3 ?_;clear hcd hos;subst hcd' hos';exact ⟨o,oo,d,od,U,hA8.up hle9,hA9,U⟩
end
end Go.Proofs.YtfdcckcadfhpeaaGreatDoor
namespace Go.Sl
open Go
section
variable {P:I6} {B:Bs} {e:B0} {D:List Deferred} {H H':Hp} {G:A2}
theorem B3.ren {w:I8} (hh:B3 H G w) (σ:Nat→Nat) (hσ:∀ t x,H'.get t=some x→H.get (σ t)=some x) (hi:∀ t t' x y,H'.get t=some x→H'.get t'=some y→σ t=σ t'→t=t'):B3 H' G w:=
 ⟨fun t b o x=>hh.own _ b o (hσ _ _ x),fun t t' b o o' x y=>hi t t' _ _ x y (hh.one _ _ b _ _ (hσ _ _ x) (hσ _ _ y)),hh.imm,fun t b o x=>hh.off _ b o (hσ _ _ x)⟩
theorem A5.ren {a:Act} {w:I8} (hh:A5 B ⟨e,D,H,G⟩ a w) (σ:Nat→Nat) (hσ:∀ t x,H'.get t=some x→H.get (σ t)=some x) (hi:∀ t t' x y,H'.get t=some x→H'.get t'=some y→σ t=σ t'→t=t'):A5 B ⟨e,D,H',G⟩ a w:=
 ⟨hh.size,hh.defers,hh.env,hh.mem.ren σ hσ hi,hh.upd,fun t b o x=>hh.mine _ b o (hσ _ _ x),hh.le,hh.new⟩
end
abbrev Hp.two (x y:J0 Nat×Obj) (T:Hp):Hp:=(0,x) :: (1,y) :: T.shift 2
theorem It (x y:J0 Nat×Obj) (T:Hp) (t:Nat):(Hp.two x y T).get t=if t=0 then some x else if t=1 then some y else T.get (t - 2):=by
 unfold Hp.two;rw [bF];by_cases h0:0=t
 · subst h0;rw [aE rfl,aE rfl]
 rw [aC h0,aC (kA h0),bF];by_cases h1:1=t
 · subst h1;rw [aE rfl,aE rfl]
 rw [aC h1,aC (kA h1),fU,aE (by omega)]
section
variable {P:I6} {ops:Array Oper} {rest:List Oper} {B:Bs} {e:B0} {D:List Deferred} {H:Hp} {G:A2} {K:Act→I8→Prop}
 {ty:I9} {pos:String} {after:Array Edge} {d:Nat}
theorem Mx {g:I7} {l:Nat} {xs:Array I7} {ats:Array I9} {vs:List Value} {A Hi:Hp} {x1 x2:J0 Nat×Obj} {post:Value→A2→Hp→Prop} (k r1 r2:Nat)
 (hn:Nat.ble (d+1) B.n=true) (hg:e.ev g=some (.func (.yield l) #[] #[])) (hx:e.evs xs.toList=some vs) (h1:H.get r1=some x1) (h2:H.get r2=some x2) (hr:(Nat.ble (r1+1) k && Nat.ble (r2+1) k && !Nat.beq r1 r2)=true)
 (hH:H.sub A) (hA1:A.get r1=none) (hA2:A.get r2=none) (ht:H.tl k Hi) (hA:By k A=true)
 (hF:C5 P l vs G (Hp.two x1 x2 Hi) post) (h:∀ v G' Ho,G.le G'→post v G' Ho→Wl P ops rest B ⟨(d,v) :: e,D,A++Ho.shift k,G'⟩ K) :
 Wl P ops (⟨some d,.call { callee:=.value g,args:=xs,argTypes:=ats },ty,pos,after,none⟩ :: rest) B ⟨e,D,H,G⟩ K:=by
 simp only [aF,eW] at hr;have hr1:=bD hr.1.1;have hr2:=bD hr.1.2;have hr3:r1≠r2:=fun q=>by subst q;have:=hr.2;simp at this
 intro a w hh;refine Wl.yield (H:=A++(Hp.two x1 x2 Hi).shift k) k hn hg hx U hA hF h a w (hh.ren (fun t=>if t<k then t else if t=k then r1 else if t=k+1 then r2 else t - 2) (fun t x hx=>?_) (fun t t' x y hx hy he=>?_))
 · rw [eL] at hx;by_cases htk:t<k
   · simp only [aE htk];rw [fU,aC (by omega),Option.or_none] at hx;exact kK hH t x hx
   rw [qB hA t sU,iH,fU,aE (by omega),It] at hx;simp only [aC htk];by_cases h0:t=k
   · rw [aE (by omega)] at hx;rw [aE h0,←hx];exact h1
   rw [aC (by omega)] at hx;rw [aC h0];by_cases h9:t=k+1
   · rw [aE (by omega)] at hx;rw [aE h9,←hx];exact h2
   rw [aC (by omega)] at hx;rw [aC h9];refine ht _ _ ?_;rw [fU,aE (by omega),←hx];congr 1;omega
 have hlow:∀ u z,u<k→Hp.get (A++(Hp.two x1 x2 Hi).shift k) u=some z→u≠r1∧u≠r2:=fun u z hu hz=>by
  rw [eL,fU,aC (by omega),Option.or_none] at hz;exact ⟨fun q=>by (subst q;rw [hA1] at hz;cases hz),fun q=>by (subst q;rw [hA2] at hz;cases hz)⟩
 have q1:=hlow t x;have q2:=hlow t' y;by_cases c1:t<k
 · have p1:=q1 c1 hx;by_cases c2:t'<k
   · simpa [c1,c2] using he
   simp only [aE c1,aC c2] at he;split at he <;> rename_i c3
   · omega
   split at he <;> omega
 by_cases c2:t'<k
 · have p2:=q2 c2 hy;simp only [aC c1,aE c2] at he;split at he <;> rename_i c3
   · omega
   split at he <;> omega
 simp only [aC c1,aC c2] at he;split at he <;> rename_i c3
 · split at he <;> rename_i c4
   · omega
   split at he <;> omega
 split at he <;> rename_i c4
 · split at he <;> rename_i c5
   · omega
   split at he <;> omega
 split at he <;> rename_i c5
 · omega
 split at he <;> omega
end
section
variable {P:I6} {B:Bs} {e:B0} {D:List Deferred} {H:Hp} {G:A2}
theorem Xg {ι:Type} {r:J0 Nat} {c:Code} {Q:Exit→Act→I8→Prop} (k:Nat) (I:ι→B0×Hp) (T:ι→Hp) (g:ι→A2) (φ:ι→Prop) (μ:ι→Nat) (i0:ι) (h0:φ i0) (hg:G=g i0)
 (he:e.sub (I i0).1) (hH:H.sub (I i0).2) (ht:H.tl k (T i0))
 (hb:∀ i,φ i→Wc r P c B ⟨(I i).1,D,(I i).2++(T i).shift k,g i⟩ (Exit.then (Fj B (fun i=>⟨(I i).1,D,(I i).2++(T i).shift k,g i⟩) φ μ (μ i)) Q)):Wc r P (.loop c) B ⟨e,D,H,G⟩ Q:=
 Jm (fun i=>⟨(I i).1,D,(I i).2++(T i).shift k,g i⟩) φ μ i0 h0 (fun _ _ h=>by rw [hg] at h;exact h.cutT he hH ht) hb
theorem Iu {ι:Type} {I:ι→B0×Hp} {T:ι→Hp} {g:ι→A2} {k:Nat} {φ:ι→Prop} {μ:ι→Nat} {m:Nat} {Q:Exit→Act→I8→Prop} (j:ι) (hφ:φ j) (hμ:μ j<m) (hg:G=g j)
 (he:e.sub (I j).1) (hH:H.sub (I j).2) (ht:H.tl k (T j)):Ar (Exit.then (Fj B (fun i=>⟨(I i).1,D,(I i).2++(T i).shift k,g i⟩) φ μ m) Q) .normal B ⟨e,D,H,G⟩:=
 fun a w hh=>⟨j,hφ,hμ,by rw [hg] at hh;exact hh.cutT he hH ht⟩
end
def Xh {β γ:Type} (P:I6) (f:FuncId) (caps:List Value) (G:A2) (enc:β→γ→List Value) (o1 o2:β→γ→J0 Nat×Obj) (good:β→γ→Prop) (xs:List β):Prop:=
 ∀ (ι:Type) (J:ι→Hp) (inv:Nat→ι→Prop) (stop:ι→Prop) (l:Nat) (i0:ι),inv 0 i0→
  (∀ k x y i,xs[k]?=some x→good x y→inv k i→C5 P l (enc x y) G (Hp.two (o1 x y) (o2 x y) (J i)) (fun v G' Ho=>G'=G∧∃ j,Ho=J j∧((v=.bool true∧inv (k+1) j)∨(v=.bool false∧stop j))))→
  Does P f (.func (.yield l) #[] #[] :: caps) G (J i0) (fun v G' Ho=>G'=G∧∃ j,Ho=J j∧(inv xs.length j∨stop j))
section stmt
variable {P:I6} {B:Bs} {e:B0} {D:List Deferred} {H:Hp} {G:A2}
variable {β γ ι:Type} {Q:Exit→Act→I8→Prop} {f:FuncId} {caps:List Value} {enc:β→γ→List Value} {o1 o2:β→γ→J0 Nat×Obj} {good:β→γ→Prop} {xs:List β} {ps:List Nat} {assign body:Code} {g:I7}
theorem Ia (tl td u1 u2:Nat) (I:ι→Hp) (inv:Nat→ι→Prop) (stop:Code→ι→Prop) (i0:ι) (hg:e.ev g=some (.func (.func f) #[] caps.toArray)) (hf:vF P f)
 (hps:∀ x y,(enc x y).length=ps.length) (hpb:ps.all (fun t=>Nat.ble (t+1) B.n)=true) (hit:Xh P f caps G enc o1 o2 good xs) (h0:inv 0 i0) (hH:∀ t x,(I i0).get t=some x→H.get t=some x)
 (htl:Nat.beq tl td=false∧∀ i,(I i).get tl=none) (hu:Nat.beq u1 u2=false)
 (hround:∀ k x y i l dd q w0,xs[k]?=some x→good x y→inv k i→Wc (some l) P assign ⟨B.n,w0,(Hp.two (o1 x y) (o2 x y) (RJ tl td q l dd (I i) none)).has,G⟩ ⟨B0.ps ps (enc x y) e,[],(u1,o1 x y) :: (u2,o2 x y) :: RJ tl td q l dd (I i) none,G⟩
  (Rb P l body (B6 G (Hp.two (o1 x y) (o2 x y) (RJ tl td q l dd (I i) none)) w0 (fun v G' Ho=>G'=G∧∃ j:ι×J0 Code,Ho=RJ tl td q l dd (I j.1) j.2∧((v=.bool true∧j.2=none∧inv (k+1) j.1)∨(v=.bool false∧∃ c,j.2=some c∧stop c j.1))))))
 (hdone:∀ j dd,inv xs.length j→Ar Q .normal B ⟨e,mark dd :: D,(td,some dd,.deferred (some [])) :: I j,G⟩)
 (hstop:∀ j dd c,stop c j→Wc none P c B ⟨e,mark dd :: D,(td,some dd,.deferred (some [])) :: I j,G⟩ Q) :
 Wc none P (.rangeFunc g ps.toArray assign body) B ⟨e,D,H,G⟩ Q:=by
 intro a w hh;refine wpIn_rangeFunc fun fn _=>?_;obtain ⟨q,hq⟩:∃ q:Loop,q={ state:=.ready,pending:=none,fn,tmps:=a.tmps,params:=ps.toArray,assign,body,defers:=w.heap.size }:=⟨_,U⟩
 obtain ⟨fnn,hf1,hf2,hf3⟩:=hf;obtain ⟨ht3,htI⟩:=htl;have hne:tl≠td:=fun h=>by subst h;simp at ht3
 have hune:u1≠u2:=fun h=>by subst h;simp at hu
 have hA:=hh.alloc td (.deferred (some []));have hB:=hA.alloc tl (lrec q .ready none);rw [sF] at hB;refine ⟨w.heap.size+1,[mark w.heap.size],(w.alloc (.deferred (some []))).alloc (lrec q .ready none),{ target:=.fn (.func f) caps.toArray,args:=#[.func (.yield (w.heap.size+1)) #[] #[]] },(w.alloc (.deferred (some []))).alloc (lrec q .ready none),f,
  (.func (.yield (w.heap.size+1)) #[] #[] :: caps).toArray,(w.alloc (.deferred (some []))).alloc (lrec q .ready none),?_,?_,?_,?_,fun h=>by simp [FF] at h,?_⟩
 · have:=rA (P:=P) (w:=w) fn a.tmps ps.toArray assign body;rw [hq];exact this
 · have hev:Act.eval a g=.func (.func f) #[] caps.toArray:=hh.eval hg;simp only [resolve,hev];simp [go_sem]
 · intro f' hf';trivial
 · simp [invoke,xV _ _ hf1 hf2 hf3]
 have hB':A5 B ⟨e,D,RJ tl td q (w.heap.size+1) w.heap.size (I i0) none,G⟩ a ((w.alloc (.deferred (some []))).alloc (lrec q .ready none)):=by
  refine hB.weaken (fun _ _ h=>h) fun t x hx=>?_;rw [bF] at hx ⊢;split at hx <;> rename_i h1
  · rw [aE h1];exact hx
  rw [aC h1];rw [bF] at hx ⊢;split at hx <;> rename_i h2
  · rw [aE h2];exact hx
  rw [aC h2];exact hH t x hx
 have hC:=hit (ι×J0 Code) (fun s=>RJ tl td q (w.heap.size+1) w.heap.size (I s.1) s.2) (fun k j=>j.2=none∧inv k j.1) (fun j=>∃ c,j.2=some c∧stop c j.1) (w.heap.size+1) (i0,none) ⟨U,h0⟩ (fun k x y i hx hgd hi=>?_)
 · refine yS.2 ((hC _ hB'.mem).mono fun ex w' ⟨v,G',Ho,h1,h2,h3,h4,h5,h6,h7,j,h8,h9⟩=>?_);subst h1 h7;have hcl:=hB'.called 0 (Hi:=RJ tl td q (w.heap.size+1) w.heap.size (I i0) none) (fun t x hx=>by rw [cP];exact hx) h2 h3 h4 h5 h6;have hD:A5 B ⟨e,D,Ho,G'⟩ a w':=hcl.weaken (fun _ _ h=>h) (fun t x hx=>by
    rw [eL,fU,aE (aP _),mS,hx];rfl)
   rw [h8] at hD;obtain ⟨ji,jp⟩:=j;have hget:Hp.get (RJ tl td q (w.heap.size+1) w.heap.size (I ji) jp) tl=some (some (w.heap.size+1),lrec q (PN jp) jp):=by
    rw [bF,aE rfl]
   have hbk:=hD.mem.own tl _ _ hget;have hlt:=(bX.1 hbk).1;have hE:=hD.set hget (o':=lrec q .exhausted jp) (wU w' _ _) (gQ hlt);have hF:A5 B ⟨e,D,(td,some w.heap.size,.deferred (some [])) :: I ji,G'⟩ a (w'.putObj (w.heap.size+1) (lrec q .exhausted jp)):=by
    refine hE.weaken (fun _ _ h=>h) fun t x hx=>?_;rw [bF] at hx ⊢;have htn:tl≠t:=fun h=>by
     subst h;rw [aC (kA hne)] at hx;have:=htI ji;rw [hx] at this;cases this
    rw [aC htn,bF,aC htn,bF];exact hx
   have hG:A5 B ⟨e,mark w.heap.size :: D,(td,some w.heap.size,.deferred (some [])) :: I ji,G'⟩ { a with defers:=[mark w.heap.size]++a.defers } (w'.putObj (w.heap.size+1) (lrec q .exhausted jp)):=
    ⟨hF.size,by show [mark w.heap.size]++a.defers=_;rw [hF.defers];rfl,hF.env,hF.mem,hF.upd,hF.mine,hF.le,hF.new⟩
   have hend:(Instr.endLoop (w.heap.size+1)).run P w'=.ok jp (w'.putObj (w.heap.size+1) (lrec q .exhausted jp)):=run_endLoop hbk (by cases jp <;> simp [PN]);refine ⟨jp,_,hend,?_⟩;rcases h9 with ⟨hj,hi⟩ | ⟨c,hj,hs⟩
   · have hj':jp=none:=hj;subst hj';exact hdone ji _ hi _ _ hG
   have hj':jp=some c:=hj;subst hj';exact hstop ji _ c hs _ _ hG
 obtain ⟨i,ip⟩:=i;obtain ⟨hip,hi⟩:=hi;have hip':ip=none:=hip;subst hip';intro w2 hw2;have hl2:w2.heap[w.heap.size+1]?=some (lrec q .ready none):=hw2.own (tl+2) _ _ (by rw [It,aC (by omega),aC (by omega),iQ,bF,aE rfl];rfl);have hq2:q.params=ps.toArray∧q.tmps=a.tmps∧q.assign=assign∧q.body=body:=by rw [hq];exact ⟨U,U,U,U⟩
 have hy:=run_yield (P:=P) (args:=(enc x y).toArray) hl2 (by show _=q.params.size;rw [hq2.1];simp [hps x y]);refine ⟨_,_,_,_,hy,roundIn_of_wpIn (F:=Fence.wide) (n:=0) I3 ?_⟩;have hz:=Ft ps (enc x y) e a.tmps hh.size hh.env hpb;have hr:=hround k x y i (w.heap.size+1) w.heap.size q w2 hx hgd hi;have hhold0:A5 ⟨B.n,w2,(Hp.two (o1 x y) (o2 x y) (RJ tl td q (w.heap.size+1) w.heap.size (I i) none)).has,G⟩ ⟨B0.ps ps (enc x y) e,[],Hp.two (o1 x y) (o2 x y) (RJ tl td q (w.heap.size+1) w.heap.size (I i) none),G⟩
  { tmps:=(q.params.zip (enc x y).toArray).foldl (fun tmps (t,a)=>tmps.setIfInBounds t a) q.tmps,defers:=[] } w2:=by
  refine ⟨?_,U,?_,hw2,kZ _ _,fun t b o hx=>.inr ⟨t,o,hx⟩,cX _,fun b h1 h2=>(h1 h2).elim⟩
  · show ((q.params.zip (enc x y).toArray).foldl _ q.tmps).size=B.n;rw [hq2.1,hq2.2.1];have:=hz.1;simpa using this
  intro i v hv;show ((q.params.zip (enc x y).toArray).foldl _ q.tmps)[i]?=some v;rw [hq2.1,hq2.2.1];have:=hz.2 i v hv;simpa using this
 have hhold:=hhold0.ren (H':=(u1,o1 x y) :: (u2,o2 x y) :: RJ tl td q (w.heap.size+1) w.heap.size (I i) none) (fun t=>if t=u1 then 0 else if t=u2 then 1 else t+2) (fun t z hz=>by
  rw [It];rw [bF] at hz;by_cases c1:t=u1
  · rw [aE c1.symm] at hz;rw [aE c1,aE rfl];exact hz
  rw [aC (kA c1),bF] at hz;by_cases c2:t=u2
  · rw [aE c2.symm] at hz;rw [aC c1,aE c2,aC (by decide),aE rfl];exact hz
  rw [aC (kA c2)] at hz;rw [aC c1,aC c2,aC (by omega),aC (by omega),iQ];exact hz) (fun t t' z z' _ _ he=>by
  by_cases c1:t=u1
  · rw [aE c1] at he;by_cases c2:t'=u1
    · omega
    rw [aC c2] at he;split at he <;> omega
  rw [aC c1] at he;by_cases c2:t'=u1
  · rw [aE c2] at he;split at he <;> omega
  rw [aC c2] at he;split at he <;> split at he <;> omega)
 have h:=hr _ w2 hhold;show q.assign.wpIn (FF (some (w.heap.size+1))) 0 P (Rb P (w.heap.size+1) q.body _) _ _;rw [hq2.2.2.1,hq2.2.2.2];exact h
end stmt
section
variable {P:I6} {e:B0} {H:Hp} {G:A2} {ty:I9}
end
end Go.Sl
namespace Go.Proofs.YtfdcckcadfhpeaaGreatDoor
open Go Go.Sl
theorem My (G:A2) (b:Nat) (n m:Int) (sv wv:Value) (hn:0≤n∧n≤1000) (hm:0≤m∧m≤1000) :
 Does Tryz.prog 196 [.pointer (some ⟨b,0,none⟩),.int .i64 m] G [(0,some b,.cells #[.int .i64 n,sv,wv] 267)] (fun v G' Ho=>v=.int .i64 (n+m)∧G'=G∧Ho=[(0,some b,.cells #[.int .i64 n,sv,wv] 267)]):=by
 refine D0 Tryz.func196 Tryz.ntmps196 fun w=>?_;refine bE 17 [0] ?_;refine cW (.inr U) (Ho:=[(0,some b,.cells #[.int .i64 n,sv,wv] 267)]) U (.tmp U) ⟨U,I3⟩ ?_;exact ⟨U,U,U⟩
theorem Mz (G:A2) (b:Nat) (n m:Int) (sv wv:Value) (hn:0≤n∧n≤1000) (hm:0≤m∧m≤1000) :
 Does Tryz.prog 233 [.pointer (some ⟨b,0,none⟩),.int .i64 m] G [(0,some b,.cells #[.int .i64 n,sv,wv] 267)] (fun v G' Ho=>v=.int .i64 (2*n+m)∧G'=G∧Ho=[(0,some b,.cells #[.int .i64 n,sv,wv] 267)]):=by
 refine D0 Tryz.func233 Tryz.ntmps233 fun w=>?_;refine aK 11 [0] ?_;refine aZ (kH U U sU) ?_;refine aY 6 [] ?_;refine cW (.inr U) (Ho:=[(0,some b,.cells #[.int .i64 n,sv,wv] 267)]) U (.tmp U) ⟨U,I3⟩ ?_;exact ⟨U,U,U⟩
theorem EI (G:A2) (b:Nat) (n:Int) (sv wv:Value) (hn:0≤n∧n≤1000) :
 Does Tryz.prog 231 [.pointer (some ⟨b,0,none⟩)] G [(0,some b,.cells #[.int .i64 n,sv,wv] 267)] (fun v G' Ho=>v=.int .i64 (3*n)∧G'=G∧Ho=[(0,some b,.cells #[.int .i64 n,sv,wv] 267)]):=by
 refine D0 Tryz.func231 Tryz.ntmps231 fun w=>?_;refine aK 11 [0] ?_;refine aZ (kH U U sU) ?_;refine aY 4 [] ?_;refine cW (.inr U) (Ho:=[(0,some b,.cells #[.int .i64 n,sv,wv] 267)]) U (.tmp U) ⟨U,I3⟩ ?_;exact ⟨U,U,U⟩
theorem tq (G:A2) (b:Nat) (n:Int) (ac:J0 Addr) (cc:Nat) (code:List I5) (j:List Value) (wa:J0 Addr) (wn wc:Nat) (to x c:Int) (e:Nat) (ho:A3 ac cc code j) (hl:(code++Bl to x c e).length≤1048576) (hc:-512≤c∧c≤512) (he:e≤1000) :
 Does Tryz.prog 230 [.pointer (some ⟨b,0,none⟩),.int .i64 to,.int .i64 x,.int .i64 c,.int .i64 e] G [(0,some b,.cells #[.int .i64 n,.slice ac code.length cc,.slice wa wn wc] 267),(1,ac.map (·.block),Row 91 code j)]
  (fun v G' Ho=>v=.tuple #[]∧G'=G∧∃ (a':J0 Addr) (c':Nat) (j':List Value),A3 a' c' (code++Bl to x c e) j'∧Ho=[(0,some b,.cells #[.int .i64 n,.slice a' (code++Bl to x c e).length c',.slice wa wn wc] 267),(1,a'.map (·.block),Row 91 (code++Bl to x c e) j')]):=by
 have hl0:code.length≤1048576:=by rw [aD] at hl;omega
 refine D0 Tryz.func230 Tryz.ntmps230 fun w=>?_;refine aK 6 [] ?_;apply bS 3 14 17 U;intro hg1;refine aB 5 [] ?_;exact cC 3 0;intro hg1;refine aB 3 [] ?_;exact cC 3 0;refine aB 1 [] ?_;apply cJ 3 18 21 U;intro hg1;refine aB 5 [] ?_;exact cC 3 0;intro hg1;refine aB 3 [] ?_;exact cC 3 0;refine aB 1 [] ?_;apply cJ 3 22 25 U;intro hg1;refine aB 5 [] ?_;exact cC 3 0;intro hg1;refine aB 3 [] ?_;exact cC 3 0;refine bG 2 [] ?_;refine cF (fun hc1=>?_) fun hc1=>?_;refine aK 6 [] ?_;apply bS 4 28 32 U;intro hg1;refine aB 3 [] ?_;refine aZ (kU U U sU) ?_;refine aB 3 [] ?_;exact cC 4 0;intro hg1;refine aB 4 [] ?_;exact cC 4 0;refine bG 2 [] ?_;refine cF (fun hc2=>?_) fun hc2=>?_;refine aK 10 [] ?_;refine fF 0 U T.fn195 U (Hk _ b n ac cc code j wa wn wc _ _ _ ho hl0) (tB ⟨U,U,I3⟩) fun v1 G1 Ho1 hle1 hp=>?_;obtain ⟨rfl,rfl,a1,d1,j1,ho1,rfl⟩:=hp;refine aY 4 [] ?_;rotate_left;refine aK 8 [] ?_;refine fF 0 U T.fn195 U (Hk _ b n ac cc code j wa wn wc _ _ _ ho hl0) (tB ⟨U,U,I3⟩) fun v1 G1 Ho1 hle1 hp=>?_;obtain ⟨rfl,rfl,a1,d1,j1,ho1,rfl⟩:=hp;refine aY 4 [] ?_;rotate_left;refine bJ 17 [] ?_;rotate_left
 · have e1:Bl to x c e=tE to x 1:=by unfold Bl;rw [aE (by omega),aE (by omega)]
   rw [e1];refine jX Am (Ho:=[(0,some b,.cells #[.int .i64 n,.slice a1 (code++tE to x 1).length d1,.slice wa wn wc] 267),(1,a1.map (·.block),Row 91 (code++tE to x 1) j1)]) U ⟨U,U,I3⟩ ?_;exact ⟨U,U,a1,d1,j1,ho1,U⟩
 · have e1:Bl to x c e=tE to x c:=by unfold Bl;rw [aE (by omega),aC (by omega)]
   rw [e1];refine jX Am (Ho:=[(0,some b,.cells #[.int .i64 n,.slice a1 (code++tE to x c).length d1,.slice wa wn wc] 267),(1,a1.map (·.block),Row 91 (code++tE to x c) j1)]) U ⟨U,U,I3⟩ ?_;exact ⟨U,U,a1,d1,j1,ho1,U⟩
 have hT0:code++Rr to c x 1 e=code++Bl to x c e:=by unfold Bl;rw [aC (by omega)]
 generalize code++Bl to x c e=Tg at *;refine fY (ι:=Nat×Int×Int×List I5×(J0 Addr×Nat×List Value)) (fun (t,fr,k,cd,(o,d,q))=>([(40,.int .i64 (t:Int)),(11,.int .i64 k),(10,.int .i64 fr),(39,Go.Value.int Go.IntKind.i64 (↑e:Int)),(0,Go.Value.pointer (Option.some (Go.Addr.mk b 0 Option.none))),(1,Go.Value.int Go.IntKind.i64 to),(3,Go.Value.int Go.IntKind.i64 c)],[(0,some b,.cells #[.int .i64 n,.slice o cd.length d,.slice wa wn wc] 267),(1,o.map (·.block),Row 91 cd q)])) (fun (t,fr,k,cd,(o,d,q))=>t≤e∧(-512≤k∧k≤512)∧cd++Rr to c fr k (e - t)=Tg∧A3 o d cd q) (fun (t,fr,k,cd,(o,d,q))=>e - t) ((0,x,1,code,(ac,cc,j))) (⟨aP _,by omega,hT0,ho⟩) ⟨U,U,U,U,U,U,U,I3⟩ ⟨U,U,I3⟩ fun ⟨t,fr,k,cd,(o,d,q)⟩=>fun hk=>?_;obtain ⟨ht1,ht2,ht3,ht4⟩:=hk;have htl:cd.length≤1048576:=by rw [←ht3,aD] at hl;omega
 have hkc:(k*c).natAbs≤512*512:=by rw [fM];exact gO sU sU
 have hkc2:-9223372036854775808≤k*c∧k*c≤9223372036854775807:=sU;have hkc3:-9223372036854775808≤1*c∧1*c≤9223372036854775807:=sU;rcases aN t e with hte | hte
 · have e2:e - t=(e - (t+1))+1:=sU;rw [e2] at ht3;unfold Rr at ht3;refine aK 16 [1] ?_;refine aZ (kH U U sU) ?_;refine aB 2 [] ?_;apply cJ 5 46 51 U;intro hg1;refine aB 5 [] ?_;refine aZ (kH U U sU) ?_;refine aB 3 [] ?_;exact cC 5 0;intro hg1;refine aB 5 [] ?_;exact cC 5 0;refine bG 2 [] ?_;refine cF (fun hc2=>?_) fun hc2=>?_;refine aK 6 [] ?_;refine fF 0 U T.fn195 U (Hk _ b n o d cd q wa wn wc _ _ _ ht4 htl) (tB ⟨U,U,I3⟩) fun v1 G1 Ho1 hle1 hp=>?_;obtain ⟨rfl,rfl,a1,d1,j1,ho1,rfl⟩:=hp;refine aS 11 [] ?_;refine aZ (kH U U sU) ?_;refine aY 8 [] ?_;rotate_left;refine aK 5 [] ?_;refine aZ (kH U U sU) ?_;refine aY 8 [] ?_;rotate_left
   · refine dW 40 U (show _=Value.int .i64 ((t+1:Nat):Int) from U) ?_;refine dW 11 U (show _=Value.int .i64 c by rw [eN]) ?_;refine cO ((t+1,to,c,cd++tE to fr k,(a1,d1,j1))) ?_ ?_
     · rw [aE hc2,←bA] at ht3;exact ⟨hte,hc,ht3,ho1⟩
     show e - (t+1)<e - t;omega
   refine dW 40 U (show _=Value.int .i64 ((t+1:Nat):Int) from U) ?_;refine cO ((t+1,fr,k*c,cd,(o,d,q))) ?_ ?_
   · rw [aC hc2] at ht3;exact ⟨hte,by omega,ht3,ht4⟩
   show e - (t+1)<e - t;omega
 have hte:t=e:=sU;subst hte;rw [iX] at ht3;have ht3:cd++tE to fr k=Tg:=ht3;subst ht3;refine aK 17 [0] ?_;refine fF 0 U T.fn195 U (Hk _ b n o d cd q wa wn wc _ _ _ ht4 htl) (tB ⟨U,U,I3⟩) fun v1 G1 Ho1 hle1 hp=>?_;obtain ⟨rfl,rfl,a1,d1,j1,ho1,rfl⟩:=hp;refine eC ?_;refine jX Am (Ho:=[(0,some b,.cells #[.int .i64 n,.slice a1 (cd++tE to fr k).length d1,.slice wa wn wc] 267),(1,a1.map (·.block),Row 91 (cd++tE to fr k) j1)]) U ⟨U,U,I3⟩ ?_;exact ⟨U,U,a1,d1,j1,ho1,U⟩
section
variable {P:I6} {e:B0} {H:Hp} {G:A2}
theorem Ol {ty:I9} {T et:I9} {len i:Nat} {x y:I7} {cs:List Value} {v:Value} (hT:P.underlying T=some (.array len et)) (h1:P.plainKey et=true) (hs:(P.info? et).map (·.size)=some 1)
 (hx:e.ev x=some (.agg cs.toArray)) (hy:e.ev y=some (.int .i64 (i:Int))) (hi:i<len) (hv:cs[i]?=some v):Qy P (.index T x y) ty e H G v:=fun a w _ _ _ _ hh=>by
 have hp:(part et cs.toArray i).run P w=.ok v w:=by
  unfold Program.plainKey at h1;cases hu:P.underlying et with
  | none=>simp [hu] at h1
  | some d=>cases d <;> simp [hu] at h1 <;> simp [part,isAgg,bB hu,hv,Result.andThen]
 have hsz:=Go.Sl.run_sizeOf (P:=P) w hs;have h2:(0:Int)≤(i:Int)∧(i:Int)<(len:Int):=sU;simp only [execOp,hh.eval hx,hh.eval hy,Instr.index,asIntOf,bK,bO,aR,bB hT];rw [aE h2];simp only [bK,hsz,aR,aG,Nat.mul_one,hp,bO]
end
theorem TN:Tryz.prog.underlying 145=some (.array 2 3):=sX
theorem aw:Tryz.prog.plainKey 3=true:=sX
theorem kh:(Tryz.prog.info? 3).map (·.size)=some 1:=sX
theorem Na (a b:Int):∀ (n k j:Nat),k≤j→j<SS a b n k→Fy a b (j:Int)=false∧Fy a b (-(j:Int))=false
 | 0,k,j,h1,h2=>by unfold SS at h2;omega
 | n+1,k,j,h1,h2=>by
   unfold SS at h2;split at h2
   · omega
   rename_i hh;by_cases hjk:j=k
   · subst hjk;cases h3:Fy a b (j:Int) <;> cases h4:Fy a b (-(j:Int)) <;> simp [h3,h4] at hh ⊢
   exact Na a b n (k+1) j sU h2
theorem ed (G:A2) (x y:Int) (hn:near x y) (h0:¬(x=0∧y=0)) :
 Does Tryz.prog 192 [.agg #[.int .i64 x,.int .i64 y]] G [] (fun v G' Ho=>v=.tuple #[.int .i64 (Int.gcd x y),.int .i64 (bezS x y),.int .i64 (bezT x y),.int .i64 0]∧G'=G∧Ho=[]):=by
 have hn2:=hn;unfold near at hn2;refine D0 Tryz.func192 Tryz.ntmps192 fun w=>?_;obtain ⟨hb1,hb2,hb3,hb4⟩:=Gt hn h0;have q1:=xO x (Int.gcd x y);have hg0:0<Int.gcd x y:=Nat.pos_of_ne_zero fun h1=>h0 (Int.gcd_eq_zero_iff.mp h1);have hg16:Int.gcd x y≤16:=by
  by_cases ha:x=0
  · have:=rF sU (show Int.gcd x y ∣ y.natAbs from Nat.gcd_dvd_right _ _);omega
  have:=rF sU (show Int.gcd x y ∣ x.natAbs from Nat.gcd_dvd_left _ _);omega
 refine aK 2 [] ?_;refine eG 0 fun b1=>?_;refine aS 12 [0,0] ?_;refine oH U T.fn227 U (ju _ _ _ sU sU) ?_;refine aS 8 [0] ?_;refine oH U T.fn72 U (c72 _ _ _) ?_;refine aZ (eJ U) ?_;refine bG 3 [] ?_;refine cF (fun hc1=>?_) fun hc1=>?_;refine bE 11 [] ?_;refine Pe (.inr U) (Ho:=Hp.only _ []) U (.tmp U) (.tmp U) (.tmp U) (.tmp U) (bH _ _) ?_;rotate_left;refine bJ 16 [0,0] ?_;refine cF (fun hc2=>?_) fun hc2=>?_;refine dG ?_;refine lO [0] [] T.mixed U ?_;refine eT 0 [] sX U U (dF U) ?_;refine eT 1 [] sX U U (fT T.fa52_0 U) ?_;refine eT 2 [0] sX U U (jP 0 T.one3 U U U) ?_;refine eT 3 [] sX U U (dF U) ?_;refine eT 4 [] sX U U (nV U U sU sU) ?_;refine eT 5 [] sX U U (jL U) ?_;refine eT 6 [] sX U U (jL U) ?_;refine eT 7 [] sX U U (jL U) ?_;refine eT 8 [] sX U U (jL U) ?_;refine kO sX ⟨U,I3⟩ yF ?_;refine fI 4 [] ?_;refine Pe (.inr U) (Ho:=Hp.only _ []) U (.tmp U) (.tmp U) (.tmp U) (.tmp U) (bH _ _) ?_;rotate_left;refine bJ 9 [] ?_;rotate_left
 · exact absurd hn hc1
 · refine ⟨?_,U,U⟩;unfold bezS bezT;rw [aE hc2,aE hc2]
 refine gZ (ι:=Nat) (fun k=>([(7,.int .i64 (k:Int)),(6,Go.Value.int Go.IntKind.i64 (↑(Int.gcd x y):Int)),(1,Go.Value.pointer (Option.some (Go.Addr.mk b1 0 Option.none)))],[(0,Option.some b1,Go.Obj.cells #[Go.Value.int Go.IntKind.i64 x,Go.Value.int Go.IntKind.i64 y] 52)])) (fun k=>k≤Dz x y) (fun k=>Dz x y+1 - k) (0) (aP _) fun k=>fun (hk:k≤Dz x y)=>?_;have hm1:((k:Int)*x).natAbs≤15*16:=by rw [fM];exact gO sU sU
 have hm2:(-(k:Int)*x).natAbs≤15*16:=by rw [fM];exact gO sU sU
 have hm3:-9223372036854775808≤(k:Int)*x∧(k:Int)*x≤9223372036854775807:=sU;have hm4:-9223372036854775808≤-(k:Int)*x∧-(k:Int)*x≤9223372036854775807:=sU;refine aK 6 [] ?_;refine aZ (qL U sU) ?_;refine aZ (sL (cs:=[_,_]) T.ar145 U U U) ?_;refine bG 4 [] ?_;refine gZ (ι:=Nat) (fun i=>([(37,.int .i64 (i:Int)),(7,.int .i64 (k:Int)),(36,Go.Value.agg #[Go.Value.int Go.IntKind.i64 (↑k:Int),Go.Value.int Go.IntKind.i64 (-(↑k:Int))]),(6,Go.Value.int Go.IntKind.i64 (↑(Int.gcd x y):Int)),(1,Go.Value.pointer (Option.some (Go.Addr.mk b1 0 Option.none)))],[(0,Option.some b1,Go.Obj.cells #[Go.Value.int Go.IntKind.i64 x,Go.Value.int Go.IntKind.i64 y] 52)])) (fun i=>i≤2∧(1≤i→Fy x y (k:Int)=false)∧(2≤i→Fy x y (-(k:Int))=false)) (fun i=>2 - i) (0) (⟨aP _,fun h=>absurd h sU,fun h=>absurd h sU⟩) fun i=>fun hk=>?_;obtain ⟨hi1,hi2,hi3⟩:=hk;have hcase:i=0∨i=1∨i=2:=sU;have q2:=xO ((Int.gcd x y:Int) - (k:Int)*x) y;have q3:=xO ((Int.gcd x y:Int) - -(k:Int)*x) y;have hit:∀ s:Int,Fy x y s=true↔((Int.gcd x y:Int) - s*x).tmod y=0:=fun s=>by unfold Fy;rw [beq_iff_eq]
 rcases hcase with hi | hi | hi
 · subst hi;refine aK 13 [1] ?_;refine aZ (Ol (i:=0) (cs:=[.int .i64 (k:Int),.int .i64 (-(k:Int))]) TN aw kh U U tI U) ?_;refine aS 9 [0] ?_;refine aZ (kH U U sU) ?_;refine aB 3 [0] ?_;refine aZ (sJ U U sU) ?_;refine bG 3 [] ?_;refine cF (fun hc3=>?_) fun hc3=>?_;refine dG ?_;refine lO [0] [] T.mixed U ?_;refine eT 0 [] sX U U (dF U) ?_;refine eT 1 [] sX U U (dF U) ?_;refine eT 2 [] sX U U (dF U) ?_;refine eT 3 [] sX U U (dF U) ?_;refine eT 4 [] sX U U (fT T.fa52_0 U) ?_;refine eT 5 [0] sX U U (jP 0 T.one3 U U U) ?_;refine eT 6 [] sX U U (kH U U sU) ?_;refine eT 7 [] sX U U (Qy.sub U U sU) ?_;refine eT 8 [] sX U U (fT T.fa52_1 U) ?_;refine eT 9 [0] sX U U (jP 0 T.one3 U U U) ?_;refine eT 10 [] sX U U (nV U U sU sU) ?_;refine eT 11 [] sX U U (jL U) ?_;refine eT 12 [] sX U U (jL U) ?_;refine eT 13 [] sX U U (jL U) ?_;refine eT 14 [] sX U U (jL U) ?_;refine kO sX ⟨U,I3⟩ yF ?_;refine fI 10 [] ?_;refine Pe (.inr U) (Ho:=Hp.only _ []) U (.tmp U) (.tmp U) (.tmp U) (.tmp U) (bH _ _) ?_;rotate_left;refine bE 7 [] ?_;rotate_left
   · have hkk:k=Dz x y:=by
      rcases aN k (Dz x y) with h | h
      · have:=(Na x y 16 0 k (aP _) h).1;rw [(hit _).2 hc3] at this;cases this
      omega
     have hs:bezS x y=k:=by unfold bezS;rw [aC hc2,←hkk,aE ((hit _).2 hc3)]
     have ht:bezT x y=((Int.gcd x y:Int) - (k:Int)*x).tdiv y:=by unfold bezT;rw [aC hc2,hs]
     refine ⟨by rw [hs,ht],U,U⟩
   refine dW 37 U (show _=Value.int .i64 ((1:Nat):Int) from U) ?_;refine cO (1) ?_ ?_
   · refine ⟨by omega,fun _=>?_,fun h=>absurd h sU⟩;cases hh:Fy x y (k:Int)
     · rfl
     exact absurd ((hit _).1 hh) hc3
   show 2 - 1<2 - 0;omega
 · subst hi;refine aK 13 [1] ?_;refine aZ (Ol (i:=1) (cs:=[.int .i64 (k:Int),.int .i64 (-(k:Int))]) TN aw kh U U tI U) ?_;refine aS 9 [0] ?_;refine aZ (kH U U sU) ?_;refine aB 3 [0] ?_;refine aZ (sJ U U sU) ?_;refine bG 3 [] ?_;refine cF (fun hc3=>?_) fun hc3=>?_;refine dG ?_;refine lO [0] [] T.mixed U ?_;refine eT 0 [] sX U U (dF U) ?_;refine eT 1 [] sX U U (dF U) ?_;refine eT 2 [] sX U U (dF U) ?_;refine eT 3 [] sX U U (dF U) ?_;refine eT 4 [] sX U U (fT T.fa52_0 U) ?_;refine eT 5 [0] sX U U (jP 0 T.one3 U U U) ?_;refine eT 6 [] sX U U (kH U U sU) ?_;refine eT 7 [] sX U U (Qy.sub U U sU) ?_;refine eT 8 [] sX U U (fT T.fa52_1 U) ?_;refine eT 9 [0] sX U U (jP 0 T.one3 U U U) ?_;refine eT 10 [] sX U U (nV U U sU sU) ?_;refine eT 11 [] sX U U (jL U) ?_;refine eT 12 [] sX U U (jL U) ?_;refine eT 13 [] sX U U (jL U) ?_;refine eT 14 [] sX U U (jL U) ?_;refine kO sX ⟨U,I3⟩ yF ?_;refine fI 10 [] ?_;refine Pe (.inr U) (Ho:=Hp.only _ []) U (.tmp U) (.tmp U) (.tmp U) (.tmp U) (bH _ _) ?_;rotate_left;refine bE 7 [] ?_;rotate_left
   · have hkk:k=Dz x y:=by
      rcases aN k (Dz x y) with h | h
      · have:=(Na x y 16 0 k (aP _) h).2;rw [(hit _).2 hc3] at this;cases this
      omega
     have hs:bezS x y=-k:=by unfold bezS;rw [aC hc2,←hkk,aC (by rw [hi2 sU];decide)]
     have ht:bezT x y=((Int.gcd x y:Int) - -(k:Int)*x).tdiv y:=by unfold bezT;rw [aC hc2,hs]
     refine ⟨by rw [hs,ht],U,U⟩
   refine dW 37 U (show _=Value.int .i64 ((2:Nat):Int) from U) ?_;refine cO (2) ?_ ?_
   · refine ⟨by omega,fun _=>hi2 sU,fun _=>?_⟩;cases hh:Fy x y (-(k:Int))
     · rfl
     exact absurd ((hit _).1 hh) hc3
   show 2 - 2<2 - 1;omega
 subst hi;refine bE 18 [0] ?_;refine dW 7 U (show _=Value.int .i64 ((k+1:Nat):Int) from U) ?_;refine cO (k+1) ?_ ?_
 · rcases aN k (Dz x y) with h | h
   · exact h
   have hkk:k=Dz x y:=sU;have h1:=hi2 sU;have h2:=hi3 sU;rw [hkk] at h1 h2;rw [h1,h2] at hb4;rcases hb4 with h | h | h
   · exact absurd h hc2
   · cases h
   cases h
 show Dz x y+1 - (k+1)<Dz x y+1 - k;omega
theorem Se (l:List Int):uD l=l.map (Value.int .i64):=by
 induction l with
 | nil=>rfl
 | cons x l ih=>rw [xD,ih];rfl
theorem TO (l l':List Int) (jk:List Value) (h:l'.length=l.length):Go.Sort.putCells (Value.int .i64) 0 l'.toArray (uD l++jk).toArray=(uD l'++jk).toArray:=by
 rw [Se,Se];apply Array.ext_getElem?;intro k;simp only [Go.Sort.putCells,Array.getElem?_mapIdx,jR,oV,aP,true_and,cP,mS];by_cases hk:k<l'.length
 · rw [bC Qm,bC Qm,bQ,bQ,aA (show k<l.length by omega),aA hk];simp [hk]
 rw [cS Qm,cS Qm,aT,aT,h];cases jk[k - l.length]? with
 | none=>rfl
 | some v=>simp [hk];intro h2;omega
theorem NY {w:I8} {G:A2} {b:Nat} {l:List Int} {jk:List Value} {E:I9} (hw:B3 [(0,some b,Row E l jk)] G w):Go.Sort.Holds (Value.int .i64) w b 0 l.toArray:=by
 intro j hj;have hj:j<l.length:=by simpa using hj
 have ho:w.heap[b]?=some (Row E l jk):=hw.own 0 b _ U;constructor
 · show World.cell? w ⟨b,0+j,none⟩=_;unfold World.cell?;rw [show w.heap[(⟨b,0+j,none⟩:Addr).block]?=some (Row E l jk) from ho];show (uD l++jk).toArray[0+j]?=_;rw [cP,jR,Se,bC (by rw [aT];exact hj),bQ,aA hj];simp [hj]
 show World.frozen? w ⟨b,0+j,none⟩=_;unfold World.frozen?;rw [show w.heap[(⟨b,0+j,none⟩:Addr).block]?=some (Row E l jk) from ho];show (decide (0≤0+j) && decide (0+j<0))=false;simp
theorem YU {w:I8} {G:A2} {b n:Nat} {l l':List Int} {jk:List Value} {E:I9} {os:Array Obj} (hw:B3 [(0,some b,Row E l jk)] G w) (hlen:l'.length=l.length) {v:Value} :
 B6 G [(0,some b,Row E l jk)] w (fun v' G' Ho=>v'=v∧G'=G∧Ho=[(0,some b,Row E l' jk)]) (.returned v) (Go.Sort.grow (Go.Sort.putRow (Value.int .i64) (Go.Sort.ahead w n) b 0 l'.toArray) os):=by
 have ho:w.heap[b]?=some (Row E l jk):=hw.own 0 b _ U;have hb:b<w.heap.size:=by
  rcases aN b w.heap.size with h | h
  · exact h
  rw [gU h] at ho;cases ho
 have hget:∀ k,k<w.heap.size→(Go.Sort.grow (Go.Sort.putRow (Value.int .i64) (Go.Sort.ahead w n) b 0 l'.toArray) os).heap[k]?=if b=k then some (Row E l' jk) else w.heap[k]?:=by
  intro k hk;show ((w.heap.modify b (Go.Sort.onCells (Go.Sort.putCells (Value.int .i64) 0 l'.toArray)))++os)[k]?=_;rw [lK (by rw [Array.size_modify];exact hk),qJ];split
  · rename_i e;subst e;rw [ho];show some (Obj.cells (Go.Sort.putCells (Value.int .i64) 0 l'.toArray (uD l++jk).toArray) E (0,0))=_;rw [TO _ _ _ hlen];rfl
  rfl
 have hone:∀ {o':Obj} {t b':Nat} {o:Obj},Hp.get [(0,some b,o')] t=some (some b',o)→t=0∧b=b'∧o'=o:=by
  intro o' t b' o h;rw [bF] at h;split at h
  · rename_i e;simp at h;exact ⟨e.symm,h.1,h.2⟩
  simp [Hp.get] at h
 refine ⟨v,G,[(0,some b,Row E l' jk)],U,⟨?_,?_,?_,?_⟩,cX _,⟨U,U,U,?_,?_⟩,?_,?_,U,U,U⟩
 · intro t b' o h;obtain ⟨_,e,e2⟩:=hone h;subst e;subst e2;rw [hget b hb,aE rfl]
 · intro t t' b' o o' h h';rw [(hone h).1,(hone h').1]
 · intro b' o h;have h1:=hw.imm b' o h;have h2:b'<w.heap.size:=by
    rcases aN b' w.heap.size with h | h
    · exact h
    rw [gU h] at h1;cases h1
   rw [hget b' h2,aC]
   · exact h1
   intro e;subst e;have:=hw.off 0 b _ U;rw [h] at this;cases this
 · intro t b' o h;obtain ⟨_,e,_⟩:=hone h;subst e;exact hw.off 0 b _ U
 · show w.heap.size≤((w.heap.modify b _)++os).size;rw [Array.size_append,Array.size_modify];omega
 · intro k hk hx;rw [hget k hk,aC];intro e;subst e;exact hx ⟨0,_,U⟩
 · intro b' h h';exact absurd h' h
 intro t b' o h;obtain ⟨_,e,_⟩:=hone h;subst e;exact .inr ⟨0,_,U⟩
theorem tr (G:A2) (b c:Nat) (l:List Int) (jk:List Value) (h:l.length<4611686018427387904) :
 Does Tryz.prog 190 [.slice (some ⟨b,0,none⟩) l.length c] G [(0,some b,Row 3 l jk)] (fun v G' Ho=>v=.tuple #[]∧G'=G∧Ho=[(0,some b,Row 3 (l.mergeSort fun x y=>decide (x≤y)) jk)]):=fun w hw=>by
 have ho:w.heap[b]?=some (Row 3 l jk):=hw.own 0 b _ U;have hb:b<w.heap.size:=by
  rcases aN b w.heap.size with h | h
  · exact h
  rw [gU h] at ho;cases ho
 have h69:Calls Tryz.prog 190 #[.slice (some ⟨b,0,none⟩) l.length c] w _:=Any.slices_Sort_int Tryz.laysSort b 0 c l w (NY hw) hb h;refine h69.mono ?_;rintro e w' ⟨rfl,n,os,rfl⟩;exact YU hw (List.length_mergeSort l)
theorem kj (G:A2) (c:Nat):Does Tryz.prog 190 [.slice none 0 c] G [] (fun v G' Ho=>v=.tuple #[]∧G'=G∧Ho=[]):=fun w hw=>by
 have h69:Calls Tryz.prog 190 #[.slice none 0 c] w _:=Any.slices_Sort_int_none Tryz.laysSort none c w;refine h69.mono ?_;rintro e w' ⟨rfl,rfl⟩;exact ⟨_,G,[],U,hw,cX _,kZ _ _,fun _ h h'=>absurd h' h,fun t b o h=>by simp [Hp.get] at h,U,U,U⟩
theorem NZ (l:List Int):(l.mergeSort fun x y=>decide (x≤y)).Pairwise (·≤·):=
 (List.pairwise_mergeSort (le:=fun x y:Int=>decide (x≤y)) (fun a b c h1 h2=>by simp at *;omega) (fun a b=>by simp;omega) l).imp (fun h=>by simpa using h)
section
attribute [local irreducible] uO
theorem ko (G:A2) (a b c d:Int) (h:near a b) (h':near c d):Does Tryz.prog 229 [.agg #[.int .i64 a,.int .i64 b],.agg #[.int .i64 c,.int .i64 d]] G [] (fun v G' Ho=>v=.tuple #[.int .i64 (a*d - c*b),.int .i64 0]∧G'=G∧Ho=[]):=
 (sm G a b c d).mono fun v G' Ho _ ⟨e1,e2,e3⟩=>⟨by rw [e1,aE ⟨h,h'⟩,aE ⟨h,h'⟩],e2,e3⟩
end
theorem tu (G:A2) (b:Nat) (ac:J0 Addr) (cc:Nat) (code:List I5) (j:List Value) (wa:J0 Addr) (wc:Nat) (wh:List R2) (k:Int) (la:J0 Addr) (lc:Nat) (left:List Int) (e:Nat) (ho:A3 ac cc code j) (hw:Arr G wa wh) (hla:Arr G la left)
 (hwl:wh.length≤15) (hk:0≤k∧k<wh.length) (hll:left.length≤15) (hleft:∀ i,i<left.length→0≤left[i]?.getD default∧left[i]?.getD default<wh.length) (he:e≤14) (hok:∀ i,i<wh.length→Oz (wh[i]?.getD default)) (hl:(code++zS wh.length wh k e left).length≤1048576) :
 Does Tryz.prog 194 [.pointer (some ⟨b,0,none⟩),.int .i64 k,.slice la left.length lc,.int .i64 e] G [(0,some b,.cells #[.int .i64 wh.length,.slice ac code.length cc,.slice wa wh.length wc] 267),(1,ac.map (·.block),Row 91 code j)]
  (fun v G' Ho=>v=.tuple #[]∧G'=G∧∃ (a':J0 Addr) (c':Nat) (j':List Value),A3 a' c' (code++zS wh.length wh k e left) j'∧Ho=[(0,some b,.cells #[.int .i64 wh.length,.slice a' (code++zS wh.length wh k e left).length c',.slice wa wh.length wc] 267),(1,a'.map (·.block),Row 91 (code++zS wh.length wh k e left) j')]):=by
 have hl0:code.length≤1048576:=by rw [aD] at hl;omega
 obtain ⟨hnk,hzk⟩:=hok k.toNat sU;obtain ⟨_,b2,_,_⟩:=Gt hnk hzk;refine jN Tryz.func194 U Tryz.ntmps194 U fun w=>?_;refine pH ?_;refine aK 7 [0] ?_;refine fS U (lY (α:=R2) T.sl22 U U sV sU) ?_;refine fS U (jK T.agg52 U (nS sV sU) U) ?_;refine aV 2 U T.zero52 fun b1=>?_;refine aS 6 [2,2] ?_;refine oH U T.fn192 U (ed _ _ _ sV sV) ?_;refine bG 22 [] ?_;generalize hTg:code++zS wh.length wh k e left=Tg at *;refine fY (ι:=Nat×List I5×(J0 Addr×Nat×List Value)) (fun (t,cd,(o,d,q))=>([(35,.int .i64 (t:Int)),(34,Go.Value.int Go.IntKind.i64 (↑(List.length left):Int)),(33,Go.Value.slice la (List.length left) lc),(11,Go.Value.int Go.IntKind.i64 (Go.Proofs.YtfdcckcadfhpeaaGreatDoor.bezT (Go.Sl.R2.a (Option.getD wh[Int.toNat k]? Inhabited.default)) (Go.Sl.R2.b (Option.getD wh[Int.toNat k]? Inhabited.default)))),(10,Go.Value.int Go.IntKind.i64 (Go.Proofs.YtfdcckcadfhpeaaGreatDoor.bezS (Go.Sl.R2.a (Option.getD wh[Int.toNat k]? Inhabited.default)) (Go.Sl.R2.b (Option.getD wh[Int.toNat k]? Inhabited.default)))),(8,Go.Value.pointer (Option.some (Go.Addr.mk b1 0 Option.none))),(0,Go.Value.pointer (Option.some (Go.Addr.mk b 0 Option.none))),(1,Go.Value.int Go.IntKind.i64 k),(3,Go.Value.int Go.IntKind.i64 (↑e:Int))],[(0,some b,.cells #[.int .i64 wh.length,.slice o cd.length d,.slice wa wh.length wc] 267),(1,o.map (·.block),Row 91 cd q),(2,Option.some b1,Go.Obj.cells (List.toArray (Go.Sl.A0.enc (Option.getD wh[Int.toNat k]? Inhabited.default))) 52)])) (fun (t,cd,(o,d,q))=>t≤left.length∧cd++zS wh.length wh k e (left.drop t)=Tg∧A3 o d cd q) (fun (t,cd,(o,d,q))=>left.length - t) ((0,code,(ac,cc,j))) (⟨aP _,hTg,ho⟩) ⟨U,U,U,U,U,U,U,U,U,I3⟩ ⟨U,U,U,I3⟩ fun ⟨t,cd,(o,d,q)⟩=>fun hk=>?_;obtain ⟨ht1,ht3,ht4⟩:=hk;have htl:cd.length≤1048576:=by rw [←ht3,aD] at hl;omega
 rcases aN t left.length with hte | hte
 · have hi:=hleft t hte;have hdr:left.drop t=left[(t:Int).toNat]?.getD default :: left.drop (t+1):=by
    rw [dC hte,aG,aA hte];rfl
   rw [aG] at hdr;obtain ⟨hni,hzi⟩:=hok (left[(t:Int).toNat]?.getD default).toNat (by rw [aG];omega);have hi':0≤left[(t:Int).toNat]?.getD default∧left[(t:Int).toNat]?.getD default<wh.length:=by rw [aG];exact hi
   rw [hdr] at ht3;have ht3:cd++(De wh.length wh k e (left[(t:Int).toNat]?.getD default)++zS wh.length wh k e (left.drop (t+1)))=Tg:=by rw [aG];exact ht3
   have hlr:-512≤Cr wh k (left[(t:Int).toNat]?.getD default)∧Cr wh k (left[(t:Int).toNat]?.getD default)≤512:=KD b2 hni;have hm1:(bezS (wh[k.toNat]?.getD default).a (wh[k.toNat]?.getD default).b*(wh[(left[(t:Int).toNat]?.getD default).toNat]?.getD default).a).natAbs≤17*16:=by rw [fM];exact gO sU (by unfold near at hni;omega)
   have hm2:(bezT (wh[k.toNat]?.getD default).a (wh[k.toNat]?.getD default).b*(wh[(left[(t:Int).toNat]?.getD default).toNat]?.getD default).b).natAbs≤17*16:=by rw [fM];exact gO sU (by unfold near at hni;omega)
   have hTl:cd.length+(De wh.length wh k e (left[(t:Int).toNat]?.getD default)).length≤1048576:=by rw [←ht3,aD,aD] at hl;omega
   unfold De at ht3 hTl;rw [aD] at hTl;refine aK 13 [1] ?_;refine fS U (lY (α:=Int) T.sl24 U U sV sU) ?_;refine fS U (eE T.one3 U (jO sV sU 0 U U)) ?_;refine aS 10 [0] ?_;refine fS U (lY (α:=R2) T.sl22 U U sV sU) ?_;refine fS U (jK T.agg52 U (nS sV sU) U) ?_;refine aV 3 U T.zero52 fun b3=>?_;refine aS 7 [3,2,3] ?_;refine oH U T.fn229 U (ko _ _ _ _ _ sV sV) ?_;refine aS 12 [3] ?_;refine fS U (kH U U sU) ?_;refine aB 3 [3] ?_;refine fS U (kH U U sU) ?_;refine aS 10 [] ?_;apply cJ 3 63 66 U;intro hg1;refine aB 5 [] ?_;exact iO 3 0 U U U U U;intro hg1;refine aB 3 [] ?_;exact iO 3 0 U U U U U;refine bG 2 [] ?_;refine oA U (fun hc1=>?_) fun hc1=>?_;refine aK 4 [] ?_;refine dS 0 U T.fn231 U (EI _ b _ _ _ sU) (tB ⟨U,I3⟩) ?_;refine aB 3 [] ?_;rotate_left;refine bJ 9 [] ?_;refine oA U (fun hc2=>?_) fun hc2=>?_;refine bE 8 [] ?_;rotate_left;refine aK 6 [] ?_;rotate_left
   · have hcc:Cr wh k (left[(t:Int).toNat]?.getD default)≠0∨e=0:=by
      rcases hc1 with h | h
      · exact .inl h
      exact .inr sU
     rw [aE hcc] at ht3 hTl;rw [aD,gF] at hTl;have hq1:(cd++Bl (3*(wh.length:Int)) k (Cr wh k (left[(t:Int).toNat]?.getD default)) e).length≤1048576:=by rw [aD];omega
     refine fF 0 U T.fn230 U (tq _ b _ o d cd q wa _ wc (3*(wh.length:Int)) k (Cr wh k (left[(t:Int).toNat]?.getD default)) e ht4 hq1 hlr sU) (tB ⟨U,U,I3⟩) fun v1 G1 Ho1 hle1 hp=>?_;obtain ⟨rfl,rfl,a1,d1,j1,ho1,rfl⟩:=hp;refine aS 7 [] ?_;refine dS 0 U T.fn231 U (EI _ b _ _ _ sU) (tB ⟨U,I3⟩) ?_;refine fF 0 U T.fn228 U (Vf _ b _ a1 d1 (cd++Bl (3*(wh.length:Int)) k (Cr wh k (left[(t:Int).toNat]?.getD default)) e) j1 wa _ wc _ _ _ _ _ ho1 hq1) (tB ⟨U,U,I3⟩) fun v2 G2 Ho2 hle2 hp=>?_;obtain ⟨rfl,rfl,a2,d2,j2,ho2,rfl⟩:=hp;refine bG 9 [] ?_;refine oA U (fun hc2=>?_) fun hc2=>?_;refine bE 8 [] ?_;rotate_left;refine aK 6 [] ?_;rotate_left
     · have hdd:Bm wh k (left[(t:Int).toNat]?.getD default)=1:=hc2;rw [aE hdd,cK] at ht3;refine dW 35 U (show _=Value.int .i64 ((t+1:Nat):Int) from U) ?_;refine gW ((t+1,(cd++Bl (3*(wh.length:Int)) k (Cr wh k (left[(t:Int).toNat]?.getD default)) e++[(⟨4,(left[(t:Int).toNat]?.getD default),(left[(t:Int).toNat]?.getD default),3*(wh.length:Int),0⟩:I5)]),(a2,d2,j2))) ?_ ?_ U ⟨U,U,U,U,U,U,U,U,U,I3⟩ ⟨U,U,U,I3⟩
       · refine ⟨hte,?_,ho2⟩;rw [←ht3];simp only [bA]
       show left.length - (t+1)<left.length - t;omega
     have hdd:¬Bm wh k (left[(t:Int).toNat]?.getD default)=1:=hc2;rw [aC hdd] at ht3 hTl;have hq2:(cd++Bl (3*(wh.length:Int)) k (Cr wh k (left[(t:Int).toNat]?.getD default)) e++[(⟨4,(left[(t:Int).toNat]?.getD default),(left[(t:Int).toNat]?.getD default),3*(wh.length:Int),0⟩:I5)]).length≤1048576:=by rw [aD,aD,gF];omega
     refine fF 0 U T.fn193 U (dt _ b _ a2 d2 (cd++Bl (3*(wh.length:Int)) k (Cr wh k (left[(t:Int).toNat]?.getD default)) e++[(⟨4,(left[(t:Int).toNat]?.getD default),(left[(t:Int).toNat]?.getD default),3*(wh.length:Int),0⟩:I5)]) j2 wa _ wc _ _ ho2 hq2) (tB ⟨U,U,I3⟩) fun v3 G3 Ho3 hle3 hp=>?_;obtain ⟨rfl,rfl,a3,d3,j3,ho3,rfl⟩:=hp;refine aY 7 [] ?_;refine dW 35 U (show _=Value.int .i64 ((t+1:Nat):Int) from U) ?_;refine gW ((t+1,(cd++Bl (3*(wh.length:Int)) k (Cr wh k (left[(t:Int).toNat]?.getD default)) e++[(⟨4,(left[(t:Int).toNat]?.getD default),(left[(t:Int).toNat]?.getD default),3*(wh.length:Int),0⟩:I5)])++yB (left[(t:Int).toNat]?.getD default) (Bm wh k (left[(t:Int).toNat]?.getD default)),(a3,d3,j3))) ?_ ?_ U ⟨U,U,U,U,U,U,U,U,U,I3⟩ ⟨U,U,U,I3⟩
     · refine ⟨hte,?_,ho3⟩;rw [←ht3];simp only [bA]
     show left.length - (t+1)<left.length - t;omega
   · have hcc:¬(Cr wh k (left[(t:Int).toNat]?.getD default)≠0∨e=0):=fun h=>hc1 (h.elim .inl (fun h=>.inr sU));rw [aC hcc] at ht3 hTl;have hdd:Bm wh k (left[(t:Int).toNat]?.getD default)=1:=hc2;rw [aE hdd] at ht3;refine dW 35 U (show _=Value.int .i64 ((t+1:Nat):Int) from U) ?_;refine gW ((t+1,cd,(o,d,q))) ?_ ?_ U ⟨U,U,U,U,U,U,U,U,U,I3⟩ ⟨U,U,U,I3⟩
     · exact ⟨hte,ht3,ht4⟩
     show left.length - (t+1)<left.length - t;omega
   have hcc:¬(Cr wh k (left[(t:Int).toNat]?.getD default)≠0∨e=0):=fun h=>hc1 (h.elim .inl (fun h=>.inr sU));rw [aC hcc] at ht3 hTl;have hdd:¬Bm wh k (left[(t:Int).toNat]?.getD default)=1:=hc2;rw [aC hdd] at ht3;refine fF 0 U T.fn193 U (dt _ b _ o d cd q wa _ wc _ _ ht4 htl) (tB ⟨U,U,I3⟩) fun v1 G1 Ho1 hle1 hp=>?_;obtain ⟨rfl,rfl,a1,d1,j1,ho1,rfl⟩:=hp;refine aY 7 [] ?_;refine dW 35 U (show _=Value.int .i64 ((t+1:Nat):Int) from U) ?_;refine gW ((t+1,cd++yB (left[(t:Int).toNat]?.getD default) (Bm wh k (left[(t:Int).toNat]?.getD default)),(a1,d1,j1))) ?_ ?_ U ⟨U,U,U,U,U,U,U,U,U,I3⟩ ⟨U,U,U,I3⟩
   · refine ⟨hte,?_,ho1⟩;rw [←ht3,fJ];simp only [bA]
   show left.length - (t+1)<left.length - t;omega
 have hte:t=left.length:=sU;subst hte;rw [nB] at ht3;have ht3:cd=Tg:=by rw [←ht3];exact (cK _).symm
 subst ht3;refine bE 11 [0] ?_;refine sS ?_;refine jX Am (Ho:=[(0,some b,.cells #[.int .i64 wh.length,.slice o cd.length d,.slice wa wh.length wc] 267),(1,o.map (·.block),Row 91 cd q)]) U ⟨U,U,I3⟩ ?_;exact ⟨U,U,o,d,q,ht4,U⟩
end Go.Proofs.YtfdcckcadfhpeaaGreatDoor
namespace Go.Sl
open Go
theorem D1 (y:Bool):Value.bool y=Value.bool (decide (y=true)):=by cases y <;> rfl
section
variable {α:Type} [A0 α] [Inhabited α] {P:I6} {ops:Array Oper} {rest:List Oper} {B:Bs} {e:B0} {D:List Deferred} {H:Hp} {G:A2} {K:Act→I8→Prop}
 {ty:I9} {pos:String} {after:Array Edge} {d:Nat}
end
section
variable {α:Type} [A0 α] {P:I6} {ops:Array Oper} {rest:List Oper} {B:Bs} {e:B0} {D:List Deferred} {H:Hp} {G:A2} {K:Act→I8→Prop}
 {ty:I9} {pos:String} {after:Array Edge} {d:Nat}
end
end Go.Sl
namespace Go.Proofs.YtfdcckcadfhpeaaGreatDoor
open Go Go.Sl
theorem Eb {n u v:Int} {ti:List Bool} {m:Nat} {low own:Bool} (hl:(decide (0<m) && ti[m - 1]?.getD false && decide (u≠0))=low) (ho:(ti[m]?.getD false && decide (v≠0))=own) :
 Ce n u v ti m=(ti.set m (own || low),(if low then tE (3*n) (2*n+(m - 1)) u else [])++(if own && low then tE (2*n+m) (2*n+m) v++[⟨3,2*n+m,2*n+m,3*n,0⟩] else if own then tE (2*n+m) (2*n+m) v else if low then tE (2*n+m) (3*n) 1 else [])):=by
 subst hl ho;rfl
theorem tv (G:A2) (b:Nat) (ac:J0 Addr) (cc:Nat) (code:List I5) (j:List Value) (wa:J0 Addr) (wc:Nat) (wh:List R2) (k:Int) (e:Nat) (ho:A3 ac cc code j) (hw:Arr G wa wh)
 (hwl:wh.length≤15) (hk:0≤k∧k<wh.length) (he:e<wh.length) (hok:Oz (wh[k.toNat]?.getD default)) (hl:(code++Ak wh.length (bezS (wh[k.toNat]?.getD default).a (wh[k.toNat]?.getD default).b) (bezT (wh[k.toNat]?.getD default).a (wh[k.toNat]?.getD default).b) k e).length≤1048576) :
 Does Tryz.prog 232 [.pointer (some ⟨b,0,none⟩),.int .i64 k,.int .i64 e] G [(0,some b,.cells #[.int .i64 wh.length,.slice ac code.length cc,.slice wa wh.length wc] 267),(1,ac.map (·.block),Row 91 code j)]
  (fun v G' Ho=>G'=G∧∃ (a':J0 Addr) (c':Nat) (j':List Value) (th:List Bool) (cd:List I5) (tb:Nat),th=yR wh.length (bezS (wh[k.toNat]?.getD default).a (wh[k.toNat]?.getD default).b) (bezT (wh[k.toNat]?.getD default).a (wh[k.toNat]?.getD default).b) e∧
   cd=code++Ak wh.length (bezS (wh[k.toNat]?.getD default).a (wh[k.toNat]?.getD default).b) (bezT (wh[k.toNat]?.getD default).a (wh[k.toNat]?.getD default).b) k e∧v=.slice (some ⟨tb,0,none⟩) th.length th.length∧A3 a' c' cd j'∧A3 (some ⟨tb,0,none⟩) th.length th []∧
   Ho=[(0,some b,.cells #[.int .i64 wh.length,.slice a' cd.length c',.slice wa wh.length wc] 267),(1,a'.map (·.block),Row 91 cd j'),(2,some tb,Row 4 th [])]):=by
 have hl0:code.length≤1048576:=by rw [aD] at hl;omega
 obtain ⟨hnk,hzk⟩:=hok;obtain ⟨_,b2,_,_⟩:=Gt hnk hzk;refine jN Tryz.func232 U Tryz.ntmps232 U fun w=>?_;refine aK 12 [0] ?_;refine fS U (lY (α:=R2) T.sl22 U U sV sU) ?_;refine fS U (jK T.agg52 U (nS sV sU) U) ?_;refine oH U T.fn192 U (ed _ _ _ sV sV) ?_;refine aS 15 [] ?_;refine gM (α:=Bool) 2 U T.sl138 T.el4 U U sU sU fun b1=>?_;refine aS 6 [] ?_;generalize hu:bezS (wh[k.toNat]?.getD default).a (wh[k.toNat]?.getD default).b=u at *;generalize hv:bezT (wh[k.toNat]?.getD default).a (wh[k.toNat]?.getD default).b=v at *;have hR1:List.replicate ((e:Int)+1).toNat (default:Bool)=List.replicate (e+1) false:=by rw [show ((e:Int)+1).toNat=e+1 by omega];rfl
 generalize hR0:List.replicate ((e:Int)+1).toNat (default:Bool)=R0 at *;have hR0l:R0.length=e+1:=by rw [hR1,aM]
 have hoR:A3 (some ⟨b1,0,none⟩) R0.length R0 []:=iJ Qo;refine fS U (dM (α:=Bool) T.sl138 U U sV sU) ?_;refine dJ (z:=_) 2 T.size4 U U U sV sU U fun ho1=>?_;refine aS 6 [] ?_;refine dS 0 U T.fn233 U (Mz _ b _ _ _ _ sU sU) (tB ⟨U,I3⟩) ?_;refine fS U (dF U) ?_;refine fF 0 U T.fn195 U (Hk _ b _ ac cc code j wa _ wc _ _ _ ho hl0) (tB ⟨U,U,I3⟩) fun v1 G1 Ho1 hle1 hp=>?_;obtain ⟨rfl,rfl,a1,d1,j1,ho1,rfl⟩:=hp;refine bG 9 [] ?_;have hTg:code++Ak wh.length u v k e=(code++tE (2*(wh.length:Int)+0) k 1)++(Ir wh.length u v e 1 (R0.set (Int.toNat 0) true)).2:=by
  unfold Ak;rw [dV,hR1,bA];rfl
 have hTh:yR wh.length u v e=(Ir wh.length u v e 1 (R0.set (Int.toNat 0) true)).1:=by unfold yR;rw [hR1];rfl
 generalize code++Ak wh.length u v k e=Tg at *;generalize yR wh.length u v e=Th at *;refine kY 11 U (show _=Value.slice (some ⟨b1,0,none⟩) (R0.set (Int.toNat 0) true).length (e+1) by rw [aI,hR0l]) ?_;refine fY (ι:=Nat×List Bool×List I5×(J0 Addr×Nat×List Value)) (fun (d,th,cd,(o,dd,q))=>([(12,.int .i64 (d:Int)),(11,.slice (some ⟨b1,0,none⟩) th.length (e+1)),(9,Go.Value.int Go.IntKind.i64 v),(8,Go.Value.int Go.IntKind.i64 u),(6,Go.Value.slice Option.none 0 0),(0,Go.Value.pointer (Option.some (Go.Addr.mk b 0 Option.none))),(2,Go.Value.int Go.IntKind.i64 (↑e:Int))],[(0,some b,.cells #[.int .i64 wh.length,.slice o cd.length dd,.slice wa wh.length wc] 267),(1,o.map (·.block),Row 91 cd q),(2,some b1,Row 4 th [])])) (fun (d,th,cd,(o,dd,q))=>(1≤d∧d≤e+1)∧th.length=e+1∧(Ir wh.length u v (e+1 - d) d th).1=Th∧cd++(Ir wh.length u v (e+1 - d) d th).2=Tg∧A3 (some ⟨b1,0,none⟩) (e+1) th []∧A3 o dd cd q) (fun (d,th,cd,(o,dd,q))=>e+1 - d) ((1,_,code++tE (2*(wh.length:Int)+0) k 1,(a1,d1,j1))) (⟨by omega,by rw [aI,hR0l],hTh.symm,hTg.symm,by rw [←hR0l];assumption,ho1⟩) ⟨U,U,U,U,U,U,U,I3⟩ ⟨U,U,U,I3⟩ fun ⟨d,th,cd,(o,dd,q)⟩=>fun hk=>?_;obtain ⟨⟨hd1,hd2⟩,hth,hT1,hT2,hoT,hoC⟩:=hk;have hcl:cd.length≤1048576:=by rw [←hT2,aD] at hl;omega
 rcases aN d (e+1) with hde | hde
 · have e1:e+1 - d=(e+1 - (d+1))+1:=sU;rw [e1] at hT1 hT2;unfold Ir at hT1 hT2;simp only at hT1 hT2;refine bJ 20 [1] ?_;generalize hA1:(Ww wh.length u v (d+1) th).1=A1 at *;generalize hB1:(Ww wh.length u v (d+1) th).2=B1 at *;have hcb:(cd++B1).length≤1048576:=by rw [←hT2,←bA,aD] at hl;omega
   refine kY 13 U (show _=Value.int .i64 (((d+1:Nat):Int) - 1) by congr 1;omega) ?_;refine fY (ι:=Nat×List Bool×List I5×(J0 Addr×Nat×List Value)) (fun (m,ti,ci,(o,dd,q))=>([(13,.int .i64 ((m:Int) - 1)),(2,.int .i64 (e:Int)),(12,.int .i64 (d:Int)),(11,.slice (some ⟨b1,0,none⟩) ti.length (e+1)),(9,Go.Value.int Go.IntKind.i64 v),(8,Go.Value.int Go.IntKind.i64 u),(6,Go.Value.slice Option.none 0 0),(0,Go.Value.pointer (Option.some (Go.Addr.mk b 0 Option.none)))],[(0,some b,.cells #[.int .i64 wh.length,.slice o ci.length dd,.slice wa wh.length wc] 267),(1,o.map (·.block),Row 91 ci q),(2,some b1,Row 4 ti [])])) (fun (m,ti,ci,(o,dd,q))=>m≤d+1∧ti.length=e+1∧(Ww wh.length u v m ti).1=A1∧ci++(Ww wh.length u v m ti).2=cd++B1∧A3 (some ⟨b1,0,none⟩) (e+1) ti []∧A3 o dd ci q) (fun (m,ti,ci,(o,dd,q))=>m) ((d+1,th,cd,(o,dd,q))) (⟨aH _,hth,hA1,by rw [hB1],hoT,hoC⟩) ⟨U,U,U,U,U,U,U,U,I3⟩ ⟨U,U,U,I3⟩ fun ⟨m,ti,ci,(o,dd,q)⟩=>fun hk=>?_;obtain ⟨hm1,hti,hS1,hS2,hoTi,hoCi⟩:=hk;have hcil:ci.length≤1048576:=by rw [←hS2,aD] at hcb;omega
   match m,hm1,hS1,hS2 with
   | 0,hm1,hS1,hS2 =>
     have hS1:ti=A1:=hS1;have hS2:ci=cd++B1:=by rw [←hS2];exact (cK _).symm
     refine bE 19 [0] ?_;refine dW 12 U (show _=Value.int .i64 ((d+1:Nat):Int) from U) ?_;refine gW ((d+1,ti,ci,(o,dd,q))) ?_ ?_ U ⟨U,U,U,U,U,U,U,I3⟩ ⟨U,U,U,I3⟩
     · refine ⟨by omega,hti,?_,?_,hoTi,hoCi⟩
       · rw [hS1];exact hT1
       rw [hS1,hS2,bA];exact hT2
     · show e+1 - (d+1)<e+1 - d;omega
   | m+1,hm1,hS1,hS2 =>
     refine kY 13 U (show _=Value.int .i64 (m:Int) by congr 1;omega) ?_;unfold Ww at hS1 hS2;simp only at hS1 hS2;have hdf:∀ z:Nat,ti[z]?.getD default=ti[z]?.getD false:=fun z=>rfl;have hlowF:(¬(0<m∧ti[m - 1]?.getD false=true∧u≠0))→(decide (0<m) && ti[m - 1]?.getD false && decide (u≠0))=false:=fun h=>by
      cases hx:ti[m - 1]?.getD false <;> by_cases h1:0<m <;> by_cases h2:u≠0 <;> simp [h1,h2];exact h ⟨h1,hx,h2⟩
     have hownF:(¬(ti[m]?.getD false=true∧v≠0))→(ti[m]?.getD false && decide (v≠0))=false:=fun h=>by
      cases hx:ti[m]?.getD false <;> by_cases h2:v≠0 <;> simp [h2];exact h ⟨hx,h2⟩
     have hownT:(ti[m]?.getD false=true∧v≠0)→(ti[m]?.getD false && decide (v≠0))=true:=fun h=>by rw [h.1,cL h.2];rfl
     have hlowT:(0<m∧ti[m - 1]?.getD false=true∧u≠0)→(decide (0<m) && ti[m - 1]?.getD false && decide (u≠0))=true:=fun h=>by rw [h.2.1,cL h.1,cL h.2.2];rfl
     have hbd:(ci++(Ce wh.length u v ti m).2).length≤1048576:=by
      have:(ci++((Ce wh.length u v ti m).2++(Ww wh.length u v m (Ce wh.length u v ti m).1).2)).length≤1048576:=by rw [hS2];exact hcb
      rw [aD,aD] at this;rw [aD];omega
     have hoN:∀ {x:Bool},A3 (some ⟨b1,0,none⟩) (e+1) (ti.set m x) []:=hoTi.elim (fun h=>by cases h.1) (fun ⟨b,h1,h2,h3,h4⟩=>.inr ⟨b,h1,by rw [aI];exact h2,by rw [aI];exact h3,h4⟩);rcases fQ m with hm0 | hm0
     · by_cases hO:ti[(m:Int).toNat]?.getD default=true∧v≠0
       · have hrs:=Eb (n:=wh.length) (hlowF (fun h=>by omega)) (hownT hO);rw [hrs] at hbd;refine aK 17 [1] ?_;refine rD 51 U xL ?_;refine aS 17 [] ?_;refine fS U (dM (α:=Bool) T.sl138 U U sV sU) ?_;refine fS U (eX 2 0 T.one4 U U sV sU U U) ?_;refine fS U (dF U) ?_;refine iK 66 U (Go.Sl.D1 _) ?_;apply bS 3 66 69 U;intro hg1;refine aB 5 [] ?_;exact iO 3 0 U U U U U;intro hg1;refine aB 3 [] ?_;exact iO 3 0 U U U U U;refine aS 18 [0] ?_;refine nU 82 U xL ?_;refine aS 18 [0,1] ?_;refine dS 0 U T.fn233 U (Mz _ b _ _ _ _ sU sU) (tB ⟨U,I3⟩) ?_;refine aB 2 [] ?_;refine dS 0 U T.fn233 U (Mz _ b _ _ _ _ sU sU) (tB ⟨U,I3⟩) ?_;refine fS U (dF U) ?_;refine fF 0 U T.fn195 U (Hk _ b _ o dd ci q wa _ wc _ _ _ hoCi hcil) (tB ⟨U,U,I3⟩) fun v2 G2 Ho2 hle2 hp=>?_;obtain ⟨rfl,rfl,a2,d2,j2,ho2,rfl⟩:=hp;refine aS 8 [] ?_;refine nU 127 U xL ?_;refine aB 2 [] ?_;refine fS U (dM (α:=Bool) T.sl138 U U sV sU) ?_;refine dJ (z:=_) 2 T.size4 U U U sV sU U fun ho3=>?_;refine aY 8 [] ?_;refine iV 2 (Row 4 (ti.set m (true || false)) []) U Vp ?_;refine dW 13 U (show _=Value.int .i64 ((m:Int) - 1) from U) ?_;refine dW 11 U (show _=Value.slice (some ⟨b1,0,none⟩) (ti.set m (true || false)).length (e+1) by rw [aI]) ?_;refine gW ((m,ti.set m (true || false),ci++tE (2*(wh.length:Int)+(m:Int)) (2*(wh.length:Int)+(m:Int)) v,(a2,d2,j2))) ?_ ?_ U ⟨U,U,U,U,U,U,U,U,I3⟩ ⟨U,U,U,I3⟩
         · refine ⟨by omega,by rw [aI];exact hti,?_,?_,hoN,ho2⟩
           · rw [←hS1,hrs]
           rw [←hS2,hrs];simp
         show m<m+1;omega
       have hrs:=Eb (n:=wh.length) (hlowF (fun h=>by omega)) (hownF hO);refine aK 17 [1] ?_;refine rD 51 U xL ?_;refine aS 17 [] ?_;refine fS U (dM (α:=Bool) T.sl138 U U sV sU) ?_;refine fS U (eX 2 0 T.one4 U U sV sU U U) ?_;refine fS U (dF U) ?_;refine iK 66 U (Go.Sl.D1 _) ?_;apply bS 3 66 69 U;intro hg1;refine aB 5 [] ?_;exact iO 3 0 U U U U U;intro hg1;refine aB 3 [] ?_;exact iO 3 0 U U U U U;refine aS 18 [0] ?_;refine rD 82 U xL ?_;refine aS 28 [0,0,0] ?_;refine rD 127 U xL ?_;refine aB 3 [] ?_;refine fS U (dM (α:=Bool) T.sl138 U U sV sU) ?_;refine dJ (z:=_) 2 T.size4 U U U sV sU U fun ho2=>?_;refine aY 8 [] ?_;refine iV 2 (Row 4 (ti.set m (false || false)) []) U Vp ?_;refine dW 13 U (show _=Value.int .i64 ((m:Int) - 1) from U) ?_;refine dW 11 U (show _=Value.slice (some ⟨b1,0,none⟩) (ti.set m (false || false)).length (e+1) by rw [aI]) ?_;refine gW ((m,ti.set m (false || false),ci,(o,dd,q))) ?_ ?_ U ⟨U,U,U,U,U,U,U,U,I3⟩ ⟨U,U,U,I3⟩
       · refine ⟨by omega,by rw [aI];exact hti,?_,?_,hoN,hoCi⟩
         · rw [←hS1,hrs]
         rw [←hS2,hrs];simp
       show m<m+1;omega
     have hm1e:((m:Int) - 1).toNat=m - 1:=sU;by_cases hL:ti[((m:Int) - 1).toNat]?.getD default=true∧u≠0
     · have hlow:=hlowT ⟨hm0,by rw [←hm1e];exact hL.1,hL.2⟩;by_cases hO:ti[(m:Int).toNat]?.getD default=true∧v≠0
       · have hOL:(ti[(m:Int).toNat]?.getD default=true∧v≠0)∧ti[((m:Int) - 1).toNat]?.getD default=true∧u≠0:=⟨hO,hL⟩
         have hrs:=Eb (n:=wh.length) hlow (hownT hO);rw [hrs] at hbd;have hb1:((ci++tE (3*(wh.length:Int)) (2*(wh.length:Int)+((m:Int) - 1)) u)++tE (2*(wh.length:Int)+(m:Int)) (2*(wh.length:Int)+(m:Int)) v).length≤1048576:=by
          simp only [Bool.and_self,gL,aD,gF] at hbd;simp only [aD];omega
         have hb0:(ci++tE (3*(wh.length:Int)) (2*(wh.length:Int)+((m:Int) - 1)) u).length≤1048576:=by rw [aD] at hb1;omega
         refine aK 17 [1] ?_;refine nU 51 U xL ?_;refine aB 7 [] ?_;refine fS U (dM (α:=Bool) T.sl138 U U sV sU) ?_;refine pP U U ?_;refine fS U (eX 2 0 T.one4 U U sV sU U U) ?_;refine aB 2 [] ?_;refine iK 58 U (Go.Sl.D1 _) ?_;apply bS 3 58 61 U;intro hg1;refine aB 5 [] ?_;exact iO 3 0 U U U U U;intro hg1;refine aB 3 [] ?_;exact iO 3 0 U U U U U;refine aS 7 [] ?_;refine fS U (dM (α:=Bool) T.sl138 U U sV sU) ?_;refine fS U (eX 2 0 T.one4 U U sV sU U U) ?_;refine fS U (dF U) ?_;refine iK 66 U (Go.Sl.D1 _) ?_;apply bS 3 66 69 U;intro hg1;refine aB 5 [] ?_;exact iO 3 0 U U U U U;intro hg1;refine aB 3 [] ?_;exact iO 3 0 U U U U U;refine aS 13 [1] ?_;refine dS 0 U T.fn231 U (EI _ b _ _ _ sU) (tB ⟨U,I3⟩) ?_;refine aB 3 [] ?_;refine dS 0 U T.fn233 U (Mz _ b _ _ _ _ sU sU) (tB ⟨U,I3⟩) ?_;refine fS U (dF U) ?_;refine fF 0 U T.fn195 U (Hk _ b _ o dd ci q wa _ wc _ _ _ hoCi hcil) (tB ⟨U,U,I3⟩) fun v2 G2 Ho2 hle2 hp=>?_;obtain ⟨rfl,rfl,a2,d2,j2,ho2,rfl⟩:=hp;refine aS 8 [] ?_;refine nU 82 U xL ?_;refine aS 12 [1] ?_;refine dS 0 U T.fn233 U (Mz _ b _ _ _ _ sU sU) (tB ⟨U,I3⟩) ?_;refine aB 2 [] ?_;refine dS 0 U T.fn233 U (Mz _ b _ _ _ _ sU sU) (tB ⟨U,I3⟩) ?_;refine fS U (dF U) ?_;refine fF 0 U T.fn195 U (Hk _ b _ a2 d2 (ci++tE (3*(wh.length:Int)) (2*(wh.length:Int)+((m:Int) - 1)) u) j2 wa _ wc _ _ _ ho2 hb0) (tB ⟨U,U,I3⟩) fun v3 G3 Ho3 hle3 hp=>?_;obtain ⟨rfl,rfl,a3,d3,j3,ho3,rfl⟩:=hp;refine aS 6 [] ?_;refine dS 0 U T.fn233 U (Mz _ b _ _ _ _ sU sU) (tB ⟨U,I3⟩) ?_;refine aB 2 [] ?_;refine dS 0 U T.fn233 U (Mz _ b _ _ _ _ sU sU) (tB ⟨U,I3⟩) ?_;refine fS U (dF U) ?_;refine dS 0 U T.fn231 U (EI _ b _ _ _ sU) (tB ⟨U,I3⟩) ?_;refine fF 0 U T.fn228 U (Vf _ b _ a3 d3 ((ci++tE (3*(wh.length:Int)) (2*(wh.length:Int)+((m:Int) - 1)) u)++tE (2*(wh.length:Int)+(m:Int)) (2*(wh.length:Int)+(m:Int)) v) j3 wa _ wc _ _ _ _ _ ho3 hb1) (tB ⟨U,U,I3⟩) fun v4 G4 Ho4 hle4 hp=>?_;obtain ⟨rfl,rfl,a4,d4,j4,ho4,rfl⟩:=hp;refine aS 8 [] ?_;refine nU 127 U xL ?_;refine aB 2 [] ?_;refine fS U (dM (α:=Bool) T.sl138 U U sV sU) ?_;refine dJ (z:=_) 2 T.size4 U U U sV sU U fun ho5=>?_;refine aY 8 [] ?_;refine iV 2 (Row 4 (ti.set m (true || true)) []) U Vp ?_;refine dW 13 U (show _=Value.int .i64 ((m:Int) - 1) from U) ?_;refine dW 11 U (show _=Value.slice (some ⟨b1,0,none⟩) (ti.set m (true || true)).length (e+1) by rw [aI]) ?_;refine gW ((m,ti.set m (true || true),((ci++tE (3*(wh.length:Int)) (2*(wh.length:Int)+((m:Int) - 1)) u)++tE (2*(wh.length:Int)+(m:Int)) (2*(wh.length:Int)+(m:Int)) v)++[(⟨3,2*(wh.length:Int)+(m:Int),2*(wh.length:Int)+(m:Int),3*(wh.length:Int),0⟩:I5)],(a4,d4,j4))) ?_ ?_ U ⟨U,U,U,U,U,U,U,U,I3⟩ ⟨U,U,U,I3⟩
         · refine ⟨by omega,by rw [aI];exact hti,?_,?_,hoN,ho4⟩
           · rw [←hS1,hrs]
           rw [←hS2,hrs];simp
         show m<m+1;omega
       have hOL:¬((ti[(m:Int).toNat]?.getD default=true∧v≠0)∧ti[((m:Int) - 1).toNat]?.getD default=true∧u≠0):=fun h=>hO h.1;have hrs:=Eb (n:=wh.length) hlow (hownF hO);rw [hrs] at hbd;have hb0:(ci++tE (3*(wh.length:Int)) (2*(wh.length:Int)+((m:Int) - 1)) u).length≤1048576:=by
        simp only [gL,aD] at hbd;simp only [aD];omega
       refine aK 17 [1] ?_;refine nU 51 U xL ?_;refine aB 7 [] ?_;refine fS U (dM (α:=Bool) T.sl138 U U sV sU) ?_;refine pP U U ?_;refine fS U (eX 2 0 T.one4 U U sV sU U U) ?_;refine aB 2 [] ?_;refine iK 58 U (Go.Sl.D1 _) ?_;apply bS 3 58 61 U;intro hg1;refine aB 5 [] ?_;exact iO 3 0 U U U U U;intro hg1;refine aB 3 [] ?_;exact iO 3 0 U U U U U;refine aS 7 [] ?_;refine fS U (dM (α:=Bool) T.sl138 U U sV sU) ?_;refine fS U (eX 2 0 T.one4 U U sV sU U U) ?_;refine fS U (dF U) ?_;refine iK 66 U (Go.Sl.D1 _) ?_;apply bS 3 66 69 U;intro hg1;refine aB 5 [] ?_;exact iO 3 0 U U U U U;intro hg1;refine aB 3 [] ?_;exact iO 3 0 U U U U U;refine aS 13 [1] ?_;refine dS 0 U T.fn231 U (EI _ b _ _ _ sU) (tB ⟨U,I3⟩) ?_;refine aB 3 [] ?_;refine dS 0 U T.fn233 U (Mz _ b _ _ _ _ sU sU) (tB ⟨U,I3⟩) ?_;refine fS U (dF U) ?_;refine fF 0 U T.fn195 U (Hk _ b _ o dd ci q wa _ wc _ _ _ hoCi hcil) (tB ⟨U,U,I3⟩) fun v2 G2 Ho2 hle2 hp=>?_;obtain ⟨rfl,rfl,a2,d2,j2,ho2,rfl⟩:=hp;refine aS 8 [] ?_;refine rD 82 U xL ?_;refine aS 24 [0,0,1] ?_;refine dS 0 U T.fn233 U (Mz _ b _ _ _ _ sU sU) (tB ⟨U,I3⟩) ?_;refine fS U (dF U) ?_;refine dS 0 U T.fn231 U (EI _ b _ _ _ sU) (tB ⟨U,I3⟩) ?_;refine fF 0 U T.fn195 U (Hk _ b _ a2 d2 (ci++tE (3*(wh.length:Int)) (2*(wh.length:Int)+((m:Int) - 1)) u) j2 wa _ wc _ _ _ ho2 hb0) (tB ⟨U,U,I3⟩) fun v3 G3 Ho3 hle3 hp=>?_;obtain ⟨rfl,rfl,a3,d3,j3,ho3,rfl⟩:=hp;refine aS 8 [] ?_;refine rD 127 U xL ?_;refine aB 3 [] ?_;refine fS U (dM (α:=Bool) T.sl138 U U sV sU) ?_;refine dJ (z:=_) 2 T.size4 U U U sV sU U fun ho4=>?_;refine aY 8 [] ?_;refine iV 2 (Row 4 (ti.set m (false || true)) []) U Vp ?_;refine dW 13 U (show _=Value.int .i64 ((m:Int) - 1) from U) ?_;refine dW 11 U (show _=Value.slice (some ⟨b1,0,none⟩) (ti.set m (false || true)).length (e+1) by rw [aI]) ?_;refine gW ((m,ti.set m (false || true),(ci++tE (3*(wh.length:Int)) (2*(wh.length:Int)+((m:Int) - 1)) u)++tE (2*(wh.length:Int)+(m:Int)) (3*(wh.length:Int)) 1,(a3,d3,j3))) ?_ ?_ U ⟨U,U,U,U,U,U,U,U,I3⟩ ⟨U,U,U,I3⟩
       · refine ⟨by omega,by rw [aI];exact hti,?_,?_,hoN,ho3⟩
         · rw [←hS1,hrs]
         rw [←hS2,hrs];simp
       show m<m+1;omega
     have hOL:¬((ti[(m:Int).toNat]?.getD default=true∧v≠0)∧ti[((m:Int) - 1).toNat]?.getD default=true∧u≠0):=fun h=>hL h.2;have hlow:=hlowF (fun h=>hL ⟨by rw [hm1e];exact h.2.1,h.2.2⟩);by_cases hO:ti[(m:Int).toNat]?.getD default=true∧v≠0
     · have hrs:=Eb (n:=wh.length) hlow (hownT hO);rw [hrs] at hbd;refine aK 17 [1] ?_;refine nU 51 U xL ?_;refine aB 7 [] ?_;refine fS U (dM (α:=Bool) T.sl138 U U sV sU) ?_;refine pP U U ?_;refine fS U (eX 2 0 T.one4 U U sV sU U U) ?_;refine aB 2 [] ?_;refine iK 58 U (Go.Sl.D1 _) ?_;apply bS 3 58 61 U;intro hg1;refine aB 5 [] ?_;exact iO 3 0 U U U U U;intro hg1;refine aB 3 [] ?_;exact iO 3 0 U U U U U;refine aS 7 [] ?_;refine fS U (dM (α:=Bool) T.sl138 U U sV sU) ?_;refine fS U (eX 2 0 T.one4 U U sV sU U U) ?_;refine fS U (dF U) ?_;refine iK 66 U (Go.Sl.D1 _) ?_;apply bS 3 66 69 U;intro hg1;refine aB 5 [] ?_;exact iO 3 0 U U U U U;intro hg1;refine aB 3 [] ?_;exact iO 3 0 U U U U U;refine aS 18 [0] ?_;refine nU 82 U xL ?_;refine aS 18 [0,1] ?_;refine dS 0 U T.fn233 U (Mz _ b _ _ _ _ sU sU) (tB ⟨U,I3⟩) ?_;refine aB 2 [] ?_;refine dS 0 U T.fn233 U (Mz _ b _ _ _ _ sU sU) (tB ⟨U,I3⟩) ?_;refine fS U (dF U) ?_;refine fF 0 U T.fn195 U (Hk _ b _ o dd ci q wa _ wc _ _ _ hoCi hcil) (tB ⟨U,U,I3⟩) fun v2 G2 Ho2 hle2 hp=>?_;obtain ⟨rfl,rfl,a2,d2,j2,ho2,rfl⟩:=hp;refine aS 8 [] ?_;refine nU 127 U xL ?_;refine aB 2 [] ?_;refine fS U (dM (α:=Bool) T.sl138 U U sV sU) ?_;refine dJ (z:=_) 2 T.size4 U U U sV sU U fun ho3=>?_;refine aY 8 [] ?_;refine iV 2 (Row 4 (ti.set m (true || false)) []) U Vp ?_;refine dW 13 U (show _=Value.int .i64 ((m:Int) - 1) from U) ?_;refine dW 11 U (show _=Value.slice (some ⟨b1,0,none⟩) (ti.set m (true || false)).length (e+1) by rw [aI]) ?_;refine gW ((m,ti.set m (true || false),ci++tE (2*(wh.length:Int)+(m:Int)) (2*(wh.length:Int)+(m:Int)) v,(a2,d2,j2))) ?_ ?_ U ⟨U,U,U,U,U,U,U,U,I3⟩ ⟨U,U,U,I3⟩
       · refine ⟨by omega,by rw [aI];exact hti,?_,?_,hoN,ho2⟩
         · rw [←hS1,hrs]
         rw [←hS2,hrs];simp
       show m<m+1;omega
     have hrs:=Eb (n:=wh.length) hlow (hownF hO);refine aK 17 [1] ?_;refine nU 51 U xL ?_;refine aB 7 [] ?_;refine fS U (dM (α:=Bool) T.sl138 U U sV sU) ?_;refine pP U U ?_;refine fS U (eX 2 0 T.one4 U U sV sU U U) ?_;refine aB 2 [] ?_;refine iK 58 U (Go.Sl.D1 _) ?_;apply bS 3 58 61 U;intro hg1;refine aB 5 [] ?_;exact iO 3 0 U U U U U;intro hg1;refine aB 3 [] ?_;exact iO 3 0 U U U U U;refine aS 7 [] ?_;refine fS U (dM (α:=Bool) T.sl138 U U sV sU) ?_;refine fS U (eX 2 0 T.one4 U U sV sU U U) ?_;refine fS U (dF U) ?_;refine iK 66 U (Go.Sl.D1 _) ?_;apply bS 3 66 69 U;intro hg1;refine aB 5 [] ?_;exact iO 3 0 U U U U U;intro hg1;refine aB 3 [] ?_;exact iO 3 0 U U U U U;refine aS 18 [0] ?_;refine rD 82 U xL ?_;refine aS 28 [0,0,0] ?_;refine rD 127 U xL ?_;refine aB 3 [] ?_;refine fS U (dM (α:=Bool) T.sl138 U U sV sU) ?_;refine dJ (z:=_) 2 T.size4 U U U sV sU U fun ho2=>?_;refine aY 8 [] ?_;refine iV 2 (Row 4 (ti.set m (false || false)) []) U Vp ?_;refine dW 13 U (show _=Value.int .i64 ((m:Int) - 1) from U) ?_;refine dW 11 U (show _=Value.slice (some ⟨b1,0,none⟩) (ti.set m (false || false)).length (e+1) by rw [aI]) ?_;refine gW ((m,ti.set m (false || false),ci,(o,dd,q))) ?_ ?_ U ⟨U,U,U,U,U,U,U,U,I3⟩ ⟨U,U,U,I3⟩
     · refine ⟨by omega,by rw [aI];exact hti,?_,?_,hoN,hoCi⟩
       · rw [←hS1,hrs]
       rw [←hS2,hrs];simp
     show m<m+1;omega
 have hde:d=e+1:=sU;subst hde;rw [iX] at hT1 hT2;have hT1:th=Th:=hT1;have hT2:cd=Tg:=by rw [←hT2];exact (cK _).symm
 subst hT1 hT2;refine bE 21 [0] ?_;refine cW Am (Ho:=[(0,some b,.cells #[.int .i64 wh.length,.slice o cd.length dd,.slice wa wh.length wc] 267),(1,o.map (·.block),Row 91 cd q),(2,some b1,Row 4 th [])]) U (.tmp U) ⟨U,U,U,I3⟩ ?_;exact ⟨U,o,dd,q,th,cd,b1,U,U,by rw [hth],hoC,by rw [hth];exact hoT,U⟩
def ax (n:Int) (p:R2) (e m:Nat):List Sl.Instr:=if m=e+1 then Kj n p e else Zr n p m
theorem EJ (n:Int) (th:List Bool) {t:Nat} (h:t<th.length):Dl n (th.drop t) t=(if th[((t:Nat):Int).toNat]?.getD default=true then [(⟨3,n+t,n+t,2*n+t,0⟩:I5)] else [])++Dl n (th.drop (t+1)) (t+1):=by
 rw [dC h,aG,aA h];rfl
theorem tz (G:A2) (b:Nat) (ac:J0 Addr) (cc:Nat) (code:List I5) (j:List Value) (wa:J0 Addr) (wc:Nat) (wh:List R2) (k:Int) (e:Nat) (ho:A3 ac cc code j) (hw:Arr G wa wh)
 (hwl:wh.length≤15) (hk:0≤k∧k<wh.length) (he1:1≤e) (he:e<wh.length) (hok:Oz (wh[k.toNat]?.getD default)) (hl:(code++yC wh.length wh k e).length≤1048576) :
 Does Tryz.prog 197 [.pointer (some ⟨b,0,none⟩),.int .i64 k,.int .i64 e] G [(0,some b,.cells #[.int .i64 wh.length,.slice ac code.length cc,.slice wa wh.length wc] 267),(1,ac.map (·.block),Row 91 code j)]
  (fun v G' Ho=>v=.tuple #[]∧G'=G∧∃ (a':J0 Addr) (c':Nat) (j':List Value),A3 a' c' (code++yC wh.length wh k e) j'∧Ho=[(0,some b,.cells #[.int .i64 wh.length,.slice a' (code++yC wh.length wh k e).length c',.slice wa wh.length wc] 267),(1,a'.map (·.block),Row 91 (code++yC wh.length wh k e) j')]):=by
 have hl0:code.length≤1048576:=by rw [aD] at hl;omega
 obtain ⟨hnk,hzk⟩:=hok;have hnk2:=hnk;unfold near at hnk2;refine jN Tryz.func197 U Tryz.ntmps197 U fun w=>?_;refine aK 7 [0] ?_;refine fS U (lY (α:=R2) T.sl22 U U sV sU) ?_;refine fS U (jK T.agg52 U (nS sV sU) U) ?_;refine aV 2 U T.zero52 fun b1=>?_;refine bG 11 [2] ?_;generalize hp:wh[k.toNat]?.getD default=p at *;have hbI:yC wh.length wh k e=Kj wh.length p e++(Ak wh.length (bezS p.a p.b) (bezT p.a p.b) k e++Dl wh.length (yR wh.length (bezS p.a p.b) (bezT p.a p.b) e) 0):=by unfold yC uV;rw [hp]
 rw [hbI] at hl;have hlA:(code++Kj wh.length p e).length≤1048576:=by rw [←bA,aD] at hl;omega
 refine kY 7 U (show _=Value.int .i64 (((e+1:Nat):Int) - 1) by congr 1;omega) ?_;refine fY (ι:=Nat×List I5×(J0 Addr×Nat×List Value)) (fun (m,cd,(o,d,q))=>([(7,.int .i64 ((m:Int) - 1)),(1,.int .i64 k),(6,Go.Value.pointer (Option.some (Go.Addr.mk b1 0 Option.none))),(0,Go.Value.pointer (Option.some (Go.Addr.mk b 0 Option.none))),(2,Go.Value.int Go.IntKind.i64 (↑e:Int))],[(0,some b,.cells #[.int .i64 wh.length,.slice o cd.length d,.slice wa wh.length wc] 267),(1,o.map (·.block),Row 91 cd q),(2,Option.some b1,Go.Obj.cells (List.toArray (Go.Sl.A0.enc p)) 52)])) (fun (m,cd,(o,d,q))=>m≤e+1∧cd++ax wh.length p e m=code++Kj wh.length p e∧A3 o d cd q) (fun (m,cd,(o,d,q))=>m) ((e+1,code,(ac,cc,j))) (⟨aH _,by unfold ax;rw [aE rfl],ho⟩) ⟨U,U,U,U,U,I3⟩ ⟨U,U,U,I3⟩ fun ⟨m,cd,(o,d,q)⟩=>fun hk=>?_;obtain ⟨hm1,hm2,hm3⟩:=hk;have hcl:cd.length≤1048576:=by rw [←hm2,aD] at hlA;omega
 rcases fQ m with hm0 | hm0
 · have hm2:cd=code++Kj wh.length p e:=by
    rw [←hm2];unfold ax;rw [aC (by omega),hm0];exact (cK _).symm
   have hl1:(cd++Ak wh.length (bezS (wh[k.toNat]?.getD default).a (wh[k.toNat]?.getD default).b) (bezT (wh[k.toNat]?.getD default).a (wh[k.toNat]?.getD default).b) k e).length≤1048576:=by
    rw [hp,hm2,aD,aD];rw [aD,aD,aD] at hl;omega
   refine aK 18 [0] ?_;refine fF 0 U T.fn232 U (tv _ b o d cd q wa wc wh k e hm3 sV hwl hk he (by rw [hp];exact ⟨hnk,hzk⟩) hl1) (tB ⟨U,U,I3⟩) fun v1 G1 Ho1 hle1 hp=>?_;obtain ⟨rfl,ra1,rd1,rj1,th1,rc1,tb1,hth1,hrc1,rfl,hro1,hto1,rfl⟩:=hp;refine bG 5 [] ?_;rw [hp] at hth1 hrc1;rw [hm2] at hrc1;have hthl:th1.length=e+1:=by rw [hth1,As]
   rw [←bA,←bA,←hrc1,←hth1] at hl;refine fY (ι:=Nat×List I5×(J0 Addr×Nat×List Value)) (fun (t,ce,(o,d,q))=>([(76,.int .i64 (t:Int)),(75,Go.Value.int Go.IntKind.i64 (↑(List.length th1):Int)),(74,Go.Value.slice (Option.some (Go.Addr.mk tb1 0 Option.none)) (List.length th1) (List.length th1)),(0,Go.Value.pointer (Option.some (Go.Addr.mk b 0 Option.none)))],[(0,some b,.cells #[.int .i64 wh.length,.slice o ce.length d,.slice wa wh.length wc] 267),(1,o.map (·.block),Row 91 ce q),(2,Option.some tb1,Go.Sl.Row (α:=Bool) 4 (th1) ([]))])) (fun (t,ce,(o,d,q))=>t≤th1.length∧ce++Dl wh.length (th1.drop t) t=rc1++Dl wh.length th1 0∧A3 o d ce q) (fun (t,ce,(o,d,q))=>th1.length - t) ((0,rc1,(ra1,rd1,rj1))) (⟨aP _,U,hro1⟩) ⟨U,U,U,U,I3⟩ ⟨U,U,U,I3⟩ fun ⟨t,ce,(o,d,q)⟩=>fun hk=>?_;obtain ⟨ht1,ht2,ht3⟩:=hk;have hel:ce.length≤1048576:=by rw [←ht2,aD] at hl;omega
   rcases aN t th1.length with hte | hte
   · rw [EJ _ _ hte] at ht2;refine aK 14 [1] ?_;refine fS U (dM (α:=Bool) T.sl138 U U sV sU) ?_;refine fS U (eX 2 0 T.one4 U U sV sU U U) ?_;refine bG 9 [] ?_;refine mE U (fun hc1=>?_) fun hc1=>?_;refine aK 4 [] ?_;refine dS 0 U T.fn196 U (My _ b _ _ _ _ sU sU) (tB ⟨U,I3⟩) ?_;refine aB 2 [] ?_;refine dS 0 U T.fn196 U (My _ b _ _ _ _ sU sU) (tB ⟨U,I3⟩) ?_;refine aB 2 [] ?_;refine dS 0 U T.fn233 U (Mz _ b _ _ _ _ sU sU) (tB ⟨U,I3⟩) ?_;refine fF 0 U T.fn228 U (Vf _ b _ o d ce q wa _ wc _ _ _ _ _ ht3 hel) (tB ⟨U,U,I3⟩) fun v2 G2 Ho2 hle2 hp=>?_;obtain ⟨rfl,rfl,a2,d2,j2,ho2,rfl⟩:=hp;refine aY 7 [] ?_;rotate_left;refine bE 7 [] ?_;rotate_left
     · rw [aE hc1] at ht2;refine dW 76 U (show _=Value.int .i64 ((t+1:Nat):Int) from U) ?_;refine gW ((t+1,_,(a2,d2,j2))) ?_ ?_ U ⟨U,U,U,U,I3⟩ ⟨U,U,U,I3⟩
       · refine ⟨hte,?_,ho2⟩;rw [←ht2];simp only [bA]
       show th1.length - (t+1)<th1.length - t;omega
     rw [aC (by rw [hc1];decide),fJ] at ht2;refine dW 76 U (show _=Value.int .i64 ((t+1:Nat):Int) from U) ?_;refine gW ((t+1,ce,(o,d,q))) ?_ ?_ U ⟨U,U,U,U,I3⟩ ⟨U,U,U,I3⟩
     · exact ⟨hte,ht2,ht3⟩
     show th1.length - (t+1)<th1.length - t;omega
   have hte:t=th1.length:=sU;have ht2:ce=rc1++Dl wh.length th1 0:=by rw [←ht2,hte,nB];exact (cK _).symm
   refine bE 11 [0] ?_;have hce:ce=code++yC wh.length wh k e:=by rw [ht2,hrc1,hbI,hth1];simp only [bA]
   rw [hce] at ht3;refine jX Am (Ho:=[(0,some b,.cells #[.int .i64 wh.length,.slice o (code++yC wh.length wh k e).length d,.slice wa wh.length wc] 267),(1,o.map (·.block),Row 91 (code++yC wh.length wh k e) q)]) U ⟨by rw [←hce];rfl,by rw [←hce];rfl,I3⟩ ?_;exact ⟨U,U,o,d,q,ht3,U⟩
 rcases aN e m with hme | hme
 · have hme:m=e+1:=sU;have hm2:cd++(tE (wh.length+e) (wh.length+((e:Int) - 1)) (-p.b)++Zr wh.length p e)=code++Kj wh.length p e:=by
    rw [←hm2];unfold ax;rw [aE hme];rfl
   refine kY 7 U (show _=Value.int .i64 (e:Int) by congr 1;omega) ?_;refine bJ 22 [1,1] ?_;refine lO [2,1,0] [(1,11),(0,11)] T.mixed U ?_;refine eT 0 [] sX U U (dF U) ?_;refine eT 1 [] sX U U (dF U) ?_;refine eT 2 [] sX U U (dF U) ?_;refine eT 4 [] sX U U (dF U) ?_;refine eT 5 [] sX U U (dF U) ?_;refine eT 6 [] sX U U (Qy.sub U U sU) ?_;refine eT 8 [] sX U U (fT T.fa52_1 U) ?_;refine eT 9 [2] sX U U (jP 2 T.one3 U U U) ?_;refine eT 10 [] sX U U (qL U sU) ?_;refine jZ 3 ⟨U,U,U,I3⟩ yF sX U ?_;refine dS 0 U T.fn196 U (My _ b _ _ _ _ sU sU) (tB ⟨U,I3⟩) ?_;refine bW ?_;refine jZ 7 ⟨U,U,U,I3⟩ yF sX U ?_;refine dS 0 U T.fn196 U (My _ b _ _ _ _ sU sU) (tB ⟨U,I3⟩) ?_;refine bW ?_;refine jZ 11 ⟨U,U,U,I3⟩ yF sX U ?_;refine fF 0 U T.fn195 U (Hk _ b _ o d cd q wa _ wc _ _ _ hm3 hcl) (tB ⟨U,U,I3⟩) fun v1 G1 Ho1 hle1 hp=>?_;obtain ⟨rfl,rfl,a1,d1,j1,ho1,rfl⟩:=hp;refine bW ?_;refine kO sX ⟨U,I3⟩ yF ?_;refine fI 10 [] ?_;refine dW 7 U (show _=Value.int .i64 ((e:Int) - 1) from U) ?_;refine gW ((e,_,(a1,d1,j1))) ?_ ?_ U ⟨U,U,U,U,U,I3⟩ ⟨U,U,U,I3⟩
   · refine ⟨by omega,?_,ho1⟩;rw [←hm2];unfold ax;rw [aC (by omega),bA]
   show e<m;omega
 obtain ⟨i,rfl⟩:∃ i,m=i+1:=⟨m - 1,by omega⟩
 refine kY 7 U (show _=Value.int .i64 (i:Int) by congr 1;omega) ?_;have hm2:cd++Zr wh.length p (i+1)=code++Kj wh.length p e:=by rw [←hm2];unfold ax;rw [aC (by omega)]
 unfold Zr at hm2;rcases fQ i with hi0 | hi0
 · rw [aC (by omega),aC (by omega)] at hm2;refine bJ 34 [1,0,0] ?_;refine lO [2,1,0] [(1,9),(0,9)] T.mixed U ?_;refine eT 0 [] sX U U (dF U) ?_;refine eT 1 [] sX U U (dF U) ?_;refine eT 2 [] sX U U (dF U) ?_;refine eT 4 [] sX U U (dF U) ?_;refine eT 5 [] sX U U (dF U) ?_;refine eT 7 [] sX U U (fT T.fa52_0 U) ?_;refine eT 8 [2] sX U U (jP 2 T.one3 U U U) ?_;refine jZ 3 ⟨U,U,U,I3⟩ yF sX U ?_;refine dS 0 U T.fn196 U (My _ b _ _ _ _ sU sU) (tB ⟨U,I3⟩) ?_;refine bW ?_;refine jZ 6 ⟨U,U,U,I3⟩ yF sX U ?_;refine dS 0 U T.fn196 U (My _ b _ _ _ _ sU sU) (tB ⟨U,I3⟩) ?_;refine bW ?_;refine jZ 9 ⟨U,U,U,I3⟩ yF sX U ?_;refine fF 0 U T.fn195 U (Hk _ b _ o d cd q wa _ wc _ _ _ hm3 hcl) (tB ⟨U,U,I3⟩) fun v1 G1 Ho1 hle1 hp=>?_;obtain ⟨rfl,rfl,a1,d1,j1,ho1,rfl⟩:=hp;refine bW ?_;refine kO sX ⟨U,I3⟩ yF ?_;refine fI 16 [0] ?_;refine dW 7 U (show _=Value.int .i64 ((i:Int) - 1) from U) ?_;refine gW ((i,_,(a1,d1,j1))) ?_ ?_ U ⟨U,U,U,U,U,I3⟩ ⟨U,U,U,I3⟩
   · refine ⟨by omega,?_,ho1⟩;rw [←hm2];unfold ax;rw [aC (by omega)];simp only [bA,fJ]
   show i<i+1;omega
 rw [aE hi0,aE hi0] at hm2;have hb1:((cd++tE (3*(wh.length:Int)) ((wh.length:Int)+((i:Int) - 1)) p.b)++tE ((wh.length:Int)+(i:Int)) ((wh.length:Int)+(i:Int)) p.a).length≤1048576:=by
  rw [←hm2] at hlA;simp only [aD] at hlA;simp only [aD];omega
 have hb0:(cd++tE (3*(wh.length:Int)) ((wh.length:Int)+((i:Int) - 1)) p.b).length≤1048576:=by rw [aD] at hb1;omega
 refine bJ 31 [1,0,1] ?_;refine lO [2,1,0] [(1,9),(0,9)] T.mixed U ?_;refine eT 0 [] sX U U (dF U) ?_;refine eT 1 [] sX U U (dF U) ?_;refine eT 3 [] sX U U (dF U) ?_;refine eT 4 [] sX U U (dF U) ?_;refine eT 5 [] sX U U (Qy.sub U U sU) ?_;refine eT 7 [] sX U U (fT T.fa52_1 U) ?_;refine eT 8 [2] sX U U (jP 2 T.one3 U U U) ?_;refine jZ 2 ⟨U,U,U,I3⟩ yF sX U ?_;refine dS 0 U T.fn231 U (EI _ b _ _ _ sU) (tB ⟨U,I3⟩) ?_;refine bW ?_;refine jZ 6 ⟨U,U,U,I3⟩ yF sX U ?_;refine dS 0 U T.fn196 U (My _ b _ _ _ _ sU sU) (tB ⟨U,I3⟩) ?_;refine bW ?_;refine jZ 9 ⟨U,U,U,I3⟩ yF sX U ?_;refine fF 0 U T.fn195 U (Hk _ b _ o d cd q wa _ wc _ _ _ hm3 hcl) (tB ⟨U,U,I3⟩) fun v1 G1 Ho1 hle1 hp=>?_;obtain ⟨rfl,rfl,a1,d1,j1,ho1,rfl⟩:=hp;refine bW ?_;refine kO sX ⟨U,I3⟩ yF ?_;refine oS 2 [] ?_;refine lO [2,1,0] [(1,9),(0,9)] T.mixed U ?_;refine eT 0 [] sX U U (dF U) ?_;refine eT 1 [] sX U U (dF U) ?_;refine eT 2 [] sX U U (dF U) ?_;refine eT 4 [] sX U U (dF U) ?_;refine eT 5 [] sX U U (dF U) ?_;refine eT 7 [] sX U U (fT T.fa52_0 U) ?_;refine eT 8 [2] sX U U (jP 2 T.one3 U U U) ?_;refine jZ 3 ⟨U,U,U,I3⟩ yF sX U ?_;refine dS 0 U T.fn196 U (My _ b _ _ _ _ sU sU) (tB ⟨U,I3⟩) ?_;refine bW ?_;refine jZ 6 ⟨U,U,U,I3⟩ yF sX U ?_;refine dS 0 U T.fn196 U (My _ b _ _ _ _ sU sU) (tB ⟨U,I3⟩) ?_;refine bW ?_;refine jZ 9 ⟨U,U,U,I3⟩ yF sX U ?_;refine fF 0 U T.fn195 U (Hk _ b _ a1 d1 (cd++tE (3*(wh.length:Int)) ((wh.length:Int)+((i:Int) - 1)) p.b) j1 wa _ wc _ _ _ ho1 hb0) (tB ⟨U,U,I3⟩) fun v2 G2 Ho2 hle2 hp=>?_;obtain ⟨rfl,rfl,a2,d2,j2,ho2,rfl⟩:=hp;refine bW ?_;refine kO sX ⟨U,I3⟩ yF ?_;refine oR 12 [1] ?_;refine dS 0 U T.fn196 U (My _ b _ _ _ _ sU sU) (tB ⟨U,I3⟩) ?_;refine aB 2 [] ?_;refine dS 0 U T.fn196 U (My _ b _ _ _ _ sU sU) (tB ⟨U,I3⟩) ?_;refine fS U (dF U) ?_;refine dS 0 U T.fn231 U (EI _ b _ _ _ sU) (tB ⟨U,I3⟩) ?_;refine fF 0 U T.fn228 U (Vf _ b _ a2 d2 ((cd++tE (3*(wh.length:Int)) ((wh.length:Int)+((i:Int) - 1)) p.b)++tE ((wh.length:Int)+(i:Int)) ((wh.length:Int)+(i:Int)) p.a) j2 wa _ wc _ _ _ _ _ ho2 hb1) (tB ⟨U,U,I3⟩) fun v3 G3 Ho3 hle3 hp=>?_;obtain ⟨rfl,rfl,a3,d3,j3,ho3,rfl⟩:=hp;refine aY 8 [] ?_;refine dW 7 U (show _=Value.int .i64 ((i:Int) - 1) from U) ?_;refine gW ((i,_,(a3,d3,j3))) ?_ ?_ U ⟨U,U,U,U,U,I3⟩ ⟨U,U,U,I3⟩
 · refine ⟨by omega,?_,ho3⟩;rw [←hm2];unfold ax;rw [aC (by omega)];simp only [bA]
 show i<i+1;omega
end Go.Proofs.YtfdcckcadfhpeaaGreatDoor
