/- uK of the proof (part 7): what the rows' text needs of the texts that lead to it. -/
import Derived.Test.YtngphgeghfdjbaaGreatDoorMBf
set_option linter.unusedVariables false
set_option linter.unusedSimpArgs false
set_option linter.unusedSectionVars false
set_option maxHeartbeats 4000000
noncomputable section
set_option maxRecDepth 100000
namespace Go.Proofs.YtngphgeghfdjbaaGreatDoor
open Go Go.Sl
theorem Uz {x y:Int}:tQ x y=0↔x=y:=by
 unfold tQ
 split
 · omega
 split <;> omega
theorem Xn {a b:Int} {n:Nat} (h:uO a b) (hn:n≤15):Below 2 (vI a b n):=fun z hz=>by
 rw [Rq];exact (Hn h hn).2 z hz
theorem UM (G:Imm) (p:PV) (ac ao ga:Option Addr) (cc co gc:Nat) (gl:List SV) (gs:List (List Int)) (m N:Nat) (hc:Arr G ac p.code) (ho:Arr G ao p.outs) (hga:Arr G ga gl) (hgg:BGrid G gl gs) (hev:EvenB m N gs) (hmm:m≤1048576) (hN:N≤4096) (hR:tG p=true) (hgi:(gl.length:Int)=p.ins) (os:List (List Int)) (hf:tR p gs=some os) :
 Does Tryz.prog 208 [.agg #[.int .i64 p.ins,.int .i64 p.regs,.slice ac p.code.length cc,.slice ao p.outs.length co],.slice ga gl.length gc] G [] (fun v G' Ho=>∃ b r c',v=.tuple #[.slice b (List.length r) c',.int .i64 0,.int .i64 0]∧Arr G' b r∧BGrid G' r os∧EvenB (m+3*p.code.length) N os∧Ho=[]):=by
 refine (UG G p ac ao ga cc co gc gl gs m N hc ho hga hgg hev hmm hN hR hgi).mono fun v G' Ho _ h=>?_
 obtain ⟨h0,⟨os2,b,r,c',h1,h2,h3,h4,h5,h6⟩ | ⟨h1,_⟩⟩:=h
 · rw [hf] at h1
   obtain rfl:=lZ h1
   exact ⟨b,r,c',h2,h3,h5,h6,h0⟩
 rw [hf] at h1;cases h1
section
attribute [local irreducible] sX sZ pb pw tQ tN p2 vI uX tR tG uS cst yF
theorem UN (G:Imm) (p:PV) (ac ao a:Option Addr) (cc co c k:Nat) (l:List R2) (hc:Arr G ac p.code) (ho:Arr G ao p.outs) (ha:Arr G a l) (hcl:p.code.length≤16384) (hol:p.outs.length≤1099511627776) (hRL:wG l) (hR:tG p=true) (hk1:1≤k) (hk8:k≤8) :
 Does Tryz.prog 169 [.agg #[.int .i64 p.ins,.int .i64 p.regs,.slice ac p.code.length cc,.slice ao p.outs.length co],.int .i64 (k:Int),.slice a l.length c] G [] (fun v G' Ho=>v=.tuple #[.bool (decide (vQ p (k:Int) l)),.int .i64 0]∧Ho=[]):=by
 have hl15:l.length≤15:=hRL.2.1
 have hnr:∀ i:Nat,i<l.length→uO (l[i]?.getD default).a (l[i]?.getD default).b:=fun i hi=>(hRL.2.2.1 i hi).1
 refine D0 Tryz.func169 Tryz.ntmps169 fun w=>?_
 refine aK 2 [] ?_
 refine cV 0 fun b1=>?_
 refine aJ 10 [] ?_
 refine jV 22 ?_
 refine aA 6 [] ?_
 refine jV 26 ?_
 refine aA 3 [] ?_
 refine bW rfl (bi _ _ _ _ sW sV hRL) ?_
 refine aA 1 [] ?_
 refine aN (dK rfl) ?_
 refine aJ 9 [0,0] ?_
 refine bW rfl (Iv _ p _ _ _ _ sW sW sV hol hR) ?_
 refine aJ 25 [0,0] ?_
 apply bZ 7 43 50 rfl
 intro hg1
 refine aA 13 [0] ?_
 exact cU 7 0
 intro hg1
 refine aA 7 [] ?_
 exact cU 7 0
 refine bJ 2 [] ?_
 refine dN (fun hc1=>?_) fun hc1=>?_
 refine bE 8 [] ?_
 rotate_left
 refine cF 12 [0] ?_
 rotate_left
 · refine eG ?_
   exact ⟨by rw [bF (fun h=>hc1.elim (fun h2=>h2 h.1) (fun h2=>h2 (by have:=h.2.1;omega)))],rfl⟩
 have hI:p.ins=(k:Int):=dO fun h=>hc1 (.inl h)
 have hO:p.outs.length=l.length:=dO fun h=>hc1 (.inr sV)
 refine gC (ι:=Nat) (fun j=>([(54,.int .i64 (j:Int)),(1,.int .i64 (k:Int)),(2,.slice a l.length c),(53,.int .i64 (↑p.code.length:Int)),(52,.slice ac p.code.length cc),(9,.int .i64 0),(3,.pointer (some ⟨b1,0,none⟩))],[(0,some b1,.cells #[.int .i64 p.ins,.int .i64 p.regs,.slice ac p.code.length cc,.slice ao p.outs.length co] 26)])) (fun j=>j≤p.code.length∧∀ i:Nat,i<j→¬((p.code[i]?.getD default).op=6∨(p.code[i]?.getD default).op=8)) (fun j=>p.code.length - j) (0) (⟨aU _,fun i h=>absurd h sV⟩) fun j=>fun hk=>?_
 obtain ⟨hj,hno⟩:=hk
 rcases aM j p.code.length with hjl | hjl
 · refine aK 13 [1] ?_
   refine dP (α:=Sl.Instr) T.sl23 ?_
   refine mM T.agg211 ?_
   refine aQ 1 rfl T.zero211 fun b2=>?_
   refine aJ 9 [1,1] ?_
   apply bZ 4 61 65 rfl
   intro hg1
   refine aA 7 [1] ?_
   exact cU 4 0
   intro hg1
   refine aA 4 [] ?_
   exact cU 4 0
   refine bJ 2 [] ?_
   refine dN (fun hc2=>?_) fun hc2=>?_
   refine bE 12 [] ?_
   rotate_left
   refine bE 7 [] ?_
   rotate_left
   · refine eG ?_
     refine ⟨by rw [bF (fun h=>h.2.2.1 (p.code[j]?.getD default) (by rw [aB hjl];exact dJ _) sW)],rfl⟩
   refine cZ 54 rfl (show _=Value.int .i64 ((j+1:Nat):Int) from rfl) ?_
   refine cS (j+1) ?_ ?_
   · refine ⟨by omega,fun i hi=>?_⟩
     rcases aM i j with h | h
     · exact hno i h
     have e:i=j:=sV
     subst e;assumption
   show p.code.length - (j+1)<p.code.length - j
   omega
 have hND:Pe p:=fun i hi=>by
  obtain ⟨t,ht,rfl⟩:=lD.1 hi
  have:=hno t sV
  rw [aB ht] at this
  exact this
 obtain ⟨os,hf⟩:=Fe hND (uY k)
 have hosl:os.length=l.length:=by rw [xQ hf,hO]
 have hiff:vQ p (k:Int) l↔∀ t:Nat,t<l.length→os[t]?.getD []=vI (l[t]?.getD default).a (l[t]?.getD default).b k:=by
  rw [←Us hosl]
  unfold vQ
  rw [aF,hf]
  exact ⟨fun h=>lZ h.2.2.2,fun h=>⟨hI,hO,hND,by rw [h]⟩⟩
 refine cF 13 [0] ?_
 refine eB [0] [] T.mixed [[0,0],[1]] ?_
 refine fE 2 ?_
 refine bV 1 rfl (bg _ k sV) fun v1 G1 Ho1 hle1 hp=>?_
 obtain ⟨us1,ur1,uc1,rfl,huA1,huB1,huL1,rfl⟩:=hp
 replace hc:=hc.up hle1
 replace ho:=ho.up hle1
 replace ha:=ha.up hle1
 refine bT 3 ?_
 refine bV 1 rfl (UM _ p _ _ _ _ _ _ _ (uY k) 2 k sW sW sW sW (Lu (Bv k)) sV sV hR (by rw [huB1.1,zB];omega) os hf) fun v2 G2 Ho2 hle2 hp=>?_
 obtain ⟨ob2,or2,oc2,rfl,hoA2,hoB2,hoE2,rfl⟩:=hp
 replace huA1:=huA1.up hle2
 replace hc:=hc.up hle2
 replace ho:=ho.up hle2
 replace ha:=ha.up hle2
 refine dW ?_
 refine eJ [[4],[5],[6],[7],[8],[9],[10]] ?_
 refine dV ?_
 refine oJ 20 [0] ?_
 have hol2:or2.length=l.length:=by rw [hoB2.1];exact hosl
 refine rX (ι:=Nat×Imm) (fun (i,Gx)=>([(79,.int .i64 (i:Int)),(1,.int .i64 (k:Int)),(2,.slice a l.length c),(78,.int .i64 (l.length:Int)),(77,.slice a (List.length l) c),(12,.slice ob2 (List.length or2) oc2)],[(0,some b1,.cells #[.int .i64 p.ins,.int .i64 p.regs,.slice ac p.code.length cc,.slice ao p.outs.length co] 26)])) (fun (i,Gx)=>Gx) (fun (i,Gx)=>i≤l.length∧G2.le Gx∧∀ t:Nat,t<i→os[t]?.getD []=vI (l[t]?.getD default).a (l[t]?.getD default).b k) (fun (i,Gx)=>l.length - i) ((0,G2)) (⟨aU _,cA _,fun t ht=>absurd ht sV⟩) fun ⟨i,Gx⟩=>fun hk=>?_
 obtain ⟨hi0,hgx,hall⟩:=hk
 replace ha:=ha.up hgx
 replace hoA2:=hoA2.up hgx
 rcases aM i l.length with hil | hil
 · have hnear:uO (l[(i:Int).toNat]?.getD default).a (l[(i:Int).toNat]?.getD default).b:=hnr i hil
   refine aK 14 [1] ?_
   refine dP (α:=R2) T.sl22 ?_
   refine mM T.agg51 ?_
   refine aQ 1 rfl T.zero51 fun b2=>?_
   refine aJ 8 [1,1] ?_
   refine bV 2 rfl (TT _ _ _ k hnear sV) fun v3 G3 Ho3 hle3 hp=>?_
   obtain ⟨ps3,pr3,pc3,rfl,hpA3,hpB3,hpL3,rfl⟩:=hp
   replace ha:=ha.up hle3
   replace hoA2:=hoA2.up hle3
   refine aJ 11 [] ?_
   refine dP (α:=SV) T.sl86 ?_
   refine fQ 0 T.one39 ?_
   refine bJ 5 [] ?_
   obtain ⟨q,hq1,hq2,hq3,hq4⟩:=(hoB2.up (aZ hgx hle3)).2 i sV
   have hE:=hoE2.at (k:=i) sV
   have hql:q.length=k:=hq4.1.trans hE.1
   have hP:Below 2 (vI (l[i]?.getD default).a (l[i]?.getD default).b k):=Xn (hnr i hil) sV
   have hpl:pr3.length=k:=hpB3.1.trans (Ff _ _ _)
   refine jE 93 rfl (show _=Value.slice (or2[(i:Int).toNat]?.getD default).a q.length (or2[(i:Int).toNat]?.getD default).c by rw [hq1];rfl) ?_
   refine jE 94 rfl (show _=Value.int .i64 (q.length:Int) by rw [hq1];rfl) ?_
   refine gC (ι:=Nat) (fun j=>([(95,.int .i64 (j:Int)),(93,.slice (or2[(i:Int).toNat]?.getD default).a q.length (or2[(i:Int).toNat]?.getD default).c),(94,.int .i64 (q.length:Int)),(16,.slice ps3 pr3.length pc3),(12,.slice ob2 or2.length oc2),(1,.int .i64 (k:Int)),(2,.slice a l.length c),(77,.slice a l.length c),(78,.int .i64 (l.length:Int)),(79,.int .i64 (i:Int))],[(1,some b2,.cells (List.toArray (Cells.enc (Option.getD l[Int.toNat (↑i:Int)]? default))) 51),(0,some b1,.cells #[.int .i64 p.ins,.int .i64 p.regs,.slice ac p.code.length cc,.slice ao p.outs.length co] 26)])) (fun j=>j≤k∧∀ t:Nat,t<j→(os[i]?.getD [])[t]?.getD 0=(vI (l[i]?.getD default).a (l[i]?.getD default).b k)[t]?.getD 0) (fun j=>k - j) (0) (⟨aU _,fun i h=>absurd h sV⟩) fun j=>fun hk=>?_
   obtain ⟨hj9,hjj⟩:=hk
   rcases aM j k with hjk | hjk
   · have hx:=hq4.at (k:=(j:Int)) sV
     have hy:=hpB3.at (k:=(j:Int)) sV
     have hxn:=iR hx (hE.2.at _)
     have hyn:=iR hy (hP.at _)
     refine aK 14 [1] ?_
     refine dP (α:=IV) T.sl39 ?_
     refine mM T.agg89 ?_
     refine aQ 2 rfl T.zero89 fun b3=>?_
     refine bJ 5 [2] ?_
     refine eB [0,1,2] [] T.mixed [[0,2],[1],[2]] ?_
     refine jC (α:=IV) 3 T.sl39 ?_
     refine pN 4 T.agg89 ?_
     refine fE 5 ?_
     refine bW rfl (c57 _ _ _ _ _ hx hy sV sV) ?_
     refine dW ?_
     refine eJ [[6]] ?_
     refine dV ?_
     refine cE ?_
     refine dN (fun hc2=>?_) fun hc2=>?_
     refine bE 16 [] ?_
     rotate_left
     refine bE 7 [] ?_
     rotate_left
     · refine eG ?_
       have hne:¬((os[i]?.getD [])[j]?.getD 0=(vI (l[i]?.getD default).a (l[i]?.getD default).b k)[j]?.getD 0):=fun h=>absurd (Uz.2 h) sW
       exact ⟨by rw [bF (fun h=>hne (by rw [hiff.1 h i hil]))],rfl⟩
     refine cZ 95 rfl (show _=Value.int .i64 ((j+1:Nat):Int) from rfl) ?_
     refine cS (j+1) ?_ ?_
     · refine ⟨by omega,fun t ht=>?_⟩
       rcases aM t j with h | h
       · exact hjj t h
       have e:t=j:=sV
       subst e;exact Uz.1 (bD.1 sW)
     show k - (j+1)<k - j
     omega
   have hjk:j=k:=sV
   subst hjk
   refine bE 17 [0] ?_
   refine cZ 79 rfl (show _=Value.int .i64 ((i+1:Nat):Int) from rfl) ?_
   refine cS ((i+1,G3)) ?_ ?_
   · refine ⟨by omega,aZ hgx hle3,fun t ht=>?_⟩
     rcases aM t i with h | h
     · exact hall t h
     have e:t=i:=sV
     subst e
     exact (Zv hE.1 (Ff _ _ _)).2 hjj
   show l.length - (i+1)<l.length - i
   omega
 refine bE 19 [0] ?_
 refine eG ?_
 exact ⟨by rw [cL (hiff.2 (fun t ht=>hall t sV))],rfl⟩
end
section
attribute [local irreducible] sX sZ pb pw tQ tN p2 vI uX tR tG uS
theorem bj (G:Imm) (x y:IV) (zx zy:Int) (hx:Num G x zx) (hy:Num G y zy) (h1:x.n≤1073741824) (h2:y.n≤1073741824) :
 Does Tryz.prog 136 [.agg (Cells.enc x).toArray,.agg (Cells.enc y).toArray] G [] (fun v G' Ho=>v=.bool (decide (zx=zy))∧G'=G∧Ho=[]):=by
 refine D0 Tryz.func136 Tryz.ntmps136 fun w=>?_
 refine aK 2 [] ?_
 refine cV 0 fun b1=>?_
 refine cV 1 fun b2=>?_
 refine aJ 7 [0,1] ?_
 refine bW rfl (Zk _ _ _ _ _ sW sW sV sV) ?_
 refine aW 5 [] ?_
 refine bO ?_
 exact ⟨by congr 1;exact decide_eq_decide.mpr Dn,rfl,rfl⟩
theorem bl (G:Imm) (k:Nat) (hk15:k≤15):Does Tryz.prog 134 [.int .i64 (k:Int)] G [] (fun v G' Ho=>∃ (s:Option Addr) (r:List SV) (c':Nat),v=.slice s r.length c'∧Arr G' s r∧NGrid G' r (uY k)∧r.length≤c'∧Ho=[]):=by
 refine D0 Tryz.func134 Tryz.ntmps134 fun w=>?_
 refine fO 9 (tK 218 ([]:List SV) []) ?_
 refine cF 17 [] ?_
 refine jQ (ι:=Nat×Imm×List SV×(Option Addr×Nat×List Value)) (fun (i,Gx,r,(o,d,j))=>([(4,.int .i64 (i:Int)),(3,.slice o r.length d),(2,.slice none 0 0),(0,.int .i64 (↑k:Int))],[(9,o.map (·.block),tK 218 r j)])) (fun (i,Gx,r,(o,d,j))=>Gx) (fun (i,Gx,r,(o,d,j))=>i≤k∧G.le Gx∧r.length=i∧NGrid Gx r ((uY k).take i)∧OwnA o d r j) (fun (i,Gx,r,(o,d,j))=>k - i) ((0,G,[],(none,0,[]))) (⟨aU _,cA _,rfl,by rw [bN];exact NGrid.nil _,eW⟩) rfl ⟨rfl,rfl,rfl,rfl,trivial⟩ ⟨rfl,trivial⟩ fun ⟨i,Gx,r,(o,d,j)⟩=>fun hk=>?_
 obtain ⟨hi1,hi2,hi3,hi4,hi5⟩:=hk
 rcases aM i k with hil | hil
 · refine aK 16 [1] ?_
   refine iC (α:=IV) 10 rfl T.sl218 T.el93 rfl rfl sV sV fun b1=>?_
   refine aJ 7 [] ?_
   refine bV 11 rfl (QJ _ 1 tF) fun v1 G1 Ho1 hle1 hp=>?_
   obtain ⟨ro1,rfl,hro1,rfl⟩:=hp
   have ho2:OwnA (some ⟨b1,0,none⟩) (List.replicate ((k:Int)).toNat (default:IV)).length (List.replicate ((k:Int)).toNat (default:IV)) []:=iI (by rw [aE];simp only [maxLen];omega)
   refine aN (lS (α:=IV) T.sl218 rfl rfl ho2 Az) ?_
   refine eX (α:=IV) (z:=ro1) (m:=(i:Int)) 10 T.size93 rfl rfl rfl ho2 Az rfl fun ho3=>?_
   refine cR 10 rfl ho3 fun G3 hle3 hA3=>?_
   refine aJ 5 [] ?_
   refine fF (α:=SV) 11 [⟨_,_,_⟩] rfl T.sl212 T.el218 rfl rfl rfl rfl rfl fun b2=>?_
   refine kO (α:=SV) 9 T.sl212 T.el218 (fZ 11 rfl) fun a1 c1 junk1 ho1=>?_
   refine aW 9 [] ?_
   refine cS ((i+1,_,r++[⟨some ⟨b1,0,none⟩,(List.replicate ((k:Int)).toNat (default:IV)).length,(List.replicate ((k:Int)).toNat (default:IV)).length⟩],(a1,c1,junk1))) ?_ ?_
   · refine ⟨by omega,aZ hi2 (aZ hle1 hle3),by rw [aI,hi3];rfl,?_,ho1⟩
     have e:(uY k).take (i+1)=(uY k).take i++[uS k i]:=by
      rw [dE]
      congr 1
      unfold uY
      rw [cK,fK hil];rfl
     rw [e]
     exact NGrid.snoc (hi4.up (aZ hle1 hle3)) ⟨_,by rw [aH],aG _,hA3,(Pc hro1 hil).up hle3⟩
   show k - (i+1)<k - i
   omega
 have hie:i=k:=sV
 subst hie
 have e:(uY i).take i=uY i:=dD (by rw [zB];exact aG _)
 rw [e] at hi4
 refine bE 21 [0] ?_
 refine eE 9 rfl hi5 fun G8 hle8 hA8=>?_
 refine bO ?_
 exact ⟨_,_,_,rfl,hA8,hi4.up hle8,hi5.le,rfl⟩
end
section
attribute [local irreducible] sX sZ pb pw tQ tN p2 vI uX tR tG uS
theorem c77 (G:Imm) (p:PV) (ac ao a:Option Addr) (cc co c k:Nat) (l:List R2) (hc:Arr G ac p.code) (ho:Arr G ao p.outs) (ha:Arr G a l) (hcl:p.code.length≤16384) (hol:p.outs.length≤1099511627776) (hl15:l.length≤15) (hnr:∀ i:Nat,i<l.length→uO (l[i]?.getD default).a (l[i]?.getD default).b) (hR:tG p=true) (hk1:1≤k) (hk8:k≤8) :
 Does Tryz.prog 77 [.agg #[.int .i64 p.ins,.int .i64 p.regs,.slice ac p.code.length cc,.slice ao p.outs.length co],.int .i64 (k:Int),.slice a l.length c] G [] (fun v G' Ho=>v=.bool (decide (vQ p (k:Int) l))∧Ho=[]):=by
 refine D0 Tryz.func77 Tryz.ntmps77 fun w=>?_
 refine aK 2 [] ?_
 refine cV 0 fun b1=>?_
 refine aJ 11 [0] ?_
 apply bZ 7 18 25 rfl
 intro hg1
 refine aA 13 [0] ?_
 exact cU 7 0
 intro hg1
 refine aA 7 [] ?_
 exact cU 7 0
 refine bJ 2 [] ?_
 refine dN (fun hc1=>?_) fun hc1=>?_
 refine bE 7 [] ?_
 rotate_left
 refine cF 9 [] ?_
 rotate_left
 · refine bO ?_
   exact ⟨by rw [bF (fun h=>hc1.elim (fun h2=>h2 h.1) (fun h2=>h2 (by have:=h.2.1;omega)))],rfl⟩
 have hI:p.ins=(k:Int):=dO fun h=>hc1 (.inl h)
 have hO:p.outs.length=l.length:=dO fun h=>hc1 (.inr sV)
 refine gC (ι:=Nat) (fun j=>([(7,.int .i64 (j:Int)),(1,.int .i64 (k:Int)),(2,.slice a l.length c),(3,.pointer (some ⟨b1,0,none⟩))],[(0,some b1,.cells #[.int .i64 p.ins,.int .i64 p.regs,.slice ac p.code.length cc,.slice ao p.outs.length co] 26)])) (fun j=>j≤p.code.length∧∀ i:Nat,i<j→¬((p.code[i]?.getD default).op=6∨(p.code[i]?.getD default).op=8)) (fun j=>p.code.length - j) (0) (⟨aU _,fun i h=>absurd h sV⟩) fun j=>fun hk=>?_
 obtain ⟨hj,hno⟩:=hk
 rcases aM j p.code.length with hjl | hjl
 · refine aK 20 [0,1,0] ?_
   refine dP (α:=Sl.Instr) T.sl23 ?_
   refine aA 1 [] ?_
   refine fQ 0 T.one3 ?_
   refine aA 2 [] ?_
   apply bZ 8 40 48 rfl
   intro hg1
   refine aA 7 [0] ?_
   refine dP (α:=Sl.Instr) T.sl23 ?_
   refine aA 3 [] ?_
   refine fQ 0 T.one3 ?_
   refine aA 3 [] ?_
   exact cU 8 0
   intro hg1
   refine aA 8 [] ?_
   exact cU 8 0
   refine bJ 2 [] ?_
   refine dN (fun hc2=>?_) fun hc2=>?_
   refine bE 11 [] ?_
   rotate_left
   refine bE 8 [] ?_
   rotate_left
   · refine bO ?_
     refine ⟨by rw [bF (fun h=>h.2.2.1 (p.code[j]?.getD default) ?_ sW)],rfl⟩
     rw [aB hjl];exact dJ _
   refine cS (j+1) ?_ ?_
   · refine ⟨by omega,fun i hi=>?_⟩
     rcases aM i j with h | h
     · exact hno i h
     have e:i=j:=sV
     subst e;assumption
   show p.code.length - (j+1)<p.code.length - j
   omega
 have hND:Pe p:=fun i hi=>by
  obtain ⟨t,ht,rfl⟩:=lD.1 hi
  have:=hno t sV
  rw [aB ht] at this
  exact this
 obtain ⟨os,hf⟩:=Fe hND (uY k)
 have hosl:os.length=l.length:=by rw [xQ hf,hO]
 have hose:=It hR (Bv k) (by rw [zB];omega) hf
 have hiff:vQ p (k:Int) l↔∀ t:Nat,t<l.length→os[t]?.getD []=vI (l[t]?.getD default).a (l[t]?.getD default).b k:=by
  rw [←Us hosl]
  unfold vQ
  rw [aF,hf]
  exact ⟨fun h=>lZ h.2.2.2,fun h=>⟨hI,hO,hND,by rw [h]⟩⟩
 refine cF 17 [0,0] ?_
 refine eB [0] [] T.mixed [[0,0],[1]] ?_
 refine fE 2 ?_
 refine bV 1 rfl (bl _ k sV) fun v1 G1 Ho1 hle1 hp=>?_
 obtain ⟨us1,ur1,uc1,rfl,huA1,huB1,huL1,rfl⟩:=hp
 replace hc:=hc.up hle1
 replace ho:=ho.up hle1
 replace ha:=ha.up hle1
 refine bT 3 ?_
 refine bV 1 rfl (Is _ p _ _ _ _ _ _ _ (uY k) k sW sW sW (Do huB1) (Bv k) sV hR (by rw [huB1.1,zB];omega) hcl os hf) fun v2 G2 Ho2 hle2 hp=>?_
 obtain ⟨sv2,oa2,oc2,ol2,rfl,hoA2,hoG2,rfl⟩:=hp
 replace huA1:=huA1.up hle2
 replace hc:=hc.up hle2
 replace ho:=ho.up hle2
 replace ha:=ha.up hle2
 refine dW ?_
 refine eJ [[4],[5],[6],[7],[8],[9],[10]] ?_
 refine dV ?_
 refine oJ 8 [] ?_
 have hol2:ol2.length=l.length:=by rw [hoG2.1];exact hosl
 refine rX (ι:=Nat×Imm) (fun (i,Gx)=>([(11,.int .i64 (i:Int)),(10,.slice oa2 (List.length ol2) oc2),(1,.int .i64 (↑k:Int)),(2,.slice a (List.length l) c)],[(0,some b1,.cells #[.int .i64 p.ins,.int .i64 p.regs,.slice ac p.code.length cc,.slice ao p.outs.length co] 26)])) (fun (i,Gx)=>Gx) (fun (i,Gx)=>i≤l.length∧G2.le Gx∧∀ t:Nat,t<i→os[t]?.getD []=vI (l[t]?.getD default).a (l[t]?.getD default).b k) (fun (i,Gx)=>l.length - i) ((0,G2)) (⟨aU _,cA _,fun t ht=>absurd ht sV⟩) fun ⟨i,Gx⟩=>fun hk=>?_
 obtain ⟨hi0,hgx,hall⟩:=hk
 replace ha:=ha.up hgx
 replace hoA2:=hoA2.up hgx
 rcases aM i l.length with hil | hil
 · have hnear:uO (l[(i:Int).toNat]?.getD default).a (l[(i:Int).toNat]?.getD default).b:=hnr i hil
   refine aK 18 [1] ?_
   refine dP (α:=R2) T.sl22 ?_
   refine mM T.agg51 ?_
   refine aA 1 [] ?_
   refine bV 1 rfl (TW _ _ _ k hnear sV) fun v3 G3 Ho3 hle3 hp=>?_
   obtain ⟨ps3,pr3,pc3,rfl,hpA3,hpB3,hpL3,rfl⟩:=hp
   replace ha:=ha.up hle3
   replace hoA2:=hoA2.up hle3
   refine bJ 9 [] ?_
   obtain ⟨q,hq1,hq2,hq3,hq4⟩:yM G3 (ol2[(i:Int).toNat]?.getD default) (os[i]?.getD []):=(hoG2.up (aZ hgx hle3)).2 i sV
   have hE:=hose.at (k:=(i:Int)) sV
   rw [aF] at hE
   have hql:q.length=k:=hq4.1.trans hE.1
   have hP:Go.Sl.Below 4 (vI (l[i]?.getD default).a (l[i]?.getD default).b k):=(Hn (hnr i hil) sV).2
   have hpl:pr3.length=k:=hpB3.1.trans (Ff _ _ _)
   refine gC (ι:=Nat) (fun j=>([(13,.int .i64 (j:Int)),(1,.int .i64 (k:Int)),(10,.slice oa2 ol2.length oc2),(11,.int .i64 (i:Int)),(12,.slice ps3 pr3.length pc3),(2,.slice a l.length c)],[(0,some b1,.cells #[.int .i64 p.ins,.int .i64 p.regs,.slice ac p.code.length cc,.slice ao p.outs.length co] 26)])) (fun j=>j≤k∧∀ t:Nat,t<j→(os[i]?.getD [])[t]?.getD 0=(vI (l[i]?.getD default).a (l[i]?.getD default).b k)[t]?.getD 0) (fun j=>k - j) (0) (⟨aU _,fun i h=>absurd h sV⟩) fun j=>fun hk=>?_
   obtain ⟨hj9,hjj⟩:=hk
   rcases aM j k with hjk | hjk
   · have hx:=hq4.at (m:=(j:Int)) sV
     have hy:=hpB3.at (m:=(j:Int)) sV
     have hxn:=lN hx (hE.2.at _)
     have hyn:=lN hy (hP.at _)
     have hcell:G3.cell (Go.Sl.ab oa2) (Go.Sl.ao oa2+(i:Int).toNat*Cells.sz SV+0)=some (.slice (ol2[(i:Int).toNat]?.getD default).a q.length (ol2[(i:Int).toNat]?.getD default).c):=(kG sW sV 0 rfl rfl).trans (by rw [hq1])
     refine cF 14 [1] ?_
     refine eB [] [] T.mixed [[0],[1]] ?_
     refine jC (α:=SV) 2 T.sl212 ?_
     refine gD 3 [] rfl (dZ T.one218 rfl hcell) ?_
     refine eJ [[4]] ?_
     refine gD 5 [] rfl (qN (α:=IV) T.sl218 rfl rfl hq3 sV) ?_
     refine gD 6 [] rfl (nP T.agg93 rfl (sF hq3 sV) rfl) ?_
     refine eJ [[7],[8]] ?_
     refine gD 9 [] rfl (qN (α:=IV) T.sl44 rfl rfl hpA3 sV) ?_
     refine gD 10 [] rfl (nP T.agg93 rfl (sF hpA3 sV) rfl) ?_
     refine fE 11 ?_
     refine bW rfl (bj _ _ _ _ _ hx hy sV sV) ?_
     refine dW ?_
     refine gD 12 [] rfl (dK rfl) ?_
     refine dV ?_
     refine cE ?_
     refine dN (fun hc2=>?_) fun hc2=>?_
     refine bE 15 [] ?_
     rotate_left
     refine bE 8 [] ?_
     rotate_left
     · refine bO ?_
       have hne:¬((os[i]?.getD [])[j]?.getD 0=(vI (l[i]?.getD default).a (l[i]?.getD default).b k)[j]?.getD 0):=by assumption
       exact ⟨by rw [bF (fun h=>hne (by rw [hiff.1 h i hil]))],rfl⟩
     refine cS (j+1) ?_ ?_
     · refine ⟨by omega,fun t ht=>?_⟩
       rcases aM t j with h | h
       · exact hjj t h
       have e:t=j:=sV
       subst e;exact bD.1 sW
     show k - (j+1)<k - j
     omega
   have hjk:j=k:=sV
   subst hjk
   refine bE 20 [0] ?_
   refine cS ((i+1,G3)) ?_ ?_
   · refine ⟨by omega,aZ hgx hle3,fun t ht=>?_⟩
     rcases aM t i with h | h
     · exact hall t h
     have e:t=i:=sV
     subst e
     exact (Zv hE.1 (Ff _ _ _)).2 hjj
   show l.length - (i+1)<l.length - i
   omega
 refine bE 21 [0] ?_
 refine bO ?_
 exact ⟨by rw [cL (hiff.2 (fun t ht=>hall t sV))],rfl⟩
end
theorem IZ {k1 k2:Int} {l:List R2} {x y z:PV} (h:¬tY k1 k2 l=0):uG k1 k2 l x y z=(0,tY k1 k2 l):=by unfold uG;rw [aR h]
theorem AD {k1 k2:Int} {l:List R2} {x y z:PV} (h:tY k1 k2 l=0) (h1:¬tG x=true):uG k1 k2 l x y z=(1,80):=by
 unfold uG;rw [aL (fun h0=>h0 h),aR h1]
theorem AE {k1 k2:Int} {l:List R2} {x y z:PV} (h:tY k1 k2 l=0) (h1:tG x=true) (h2:¬vQ x k1 l):uG k1 k2 l x y z=(1,180):=by
 unfold uG;rw [aL (fun h0=>h0 h),aL (fun h0=>h0 h1),aR h2]
theorem AF {k1 k2:Int} {l:List R2} {x y z:PV} (h:tY k1 k2 l=0) (h1:tG x=true) (h2:vQ x k1 l) (h3:¬tG y=true):uG k1 k2 l x y z=(2,80):=by
 unfold uG;rw [aL (fun h0=>h0 h),aL (fun h0=>h0 h1),aL (fun h0=>h0 h2),aR h3]
theorem AG {k1 k2:Int} {l:List R2} {x y z:PV} (h:tY k1 k2 l=0) (h1:tG x=true) (h2:vQ x k1 l) (h3:tG y=true) (h4:¬vQ y k2 l):uG k1 k2 l x y z=(2,180):=by
 unfold uG;rw [aL (fun h0=>h0 h),aL (fun h0=>h0 h1),aL (fun h0=>h0 h2),aL (fun h0=>h0 h3),aR h4]
theorem AH {k1 k2:Int} {l:List R2} {x y z:PV} (h:tY k1 k2 l=0) (h1:tG x=true) (h2:vQ x k1 l) (h3:tG y=true) (h4:vQ y k2 l) (h5:¬tG z=true):uG k1 k2 l x y z=(3,80):=by
 unfold uG;rw [aL (fun h0=>h0 h),aL (fun h0=>h0 h1),aL (fun h0=>h0 h2),aL (fun h0=>h0 h3),aL (fun h0=>h0 h4),aR h5]
theorem AI {k1 k2:Int} {l:List R2} {x y z:PV} (h:tY k1 k2 l=0) (h1:tG x=true) (h2:vQ x k1 l) (h3:tG y=true) (h4:vQ y k2 l) (h5:tG z=true) (h6:¬vB z l):uG k1 k2 l x y z=(3,180):=by
 unfold uG;rw [aL (fun h0=>h0 h),aL (fun h0=>h0 h1),aL (fun h0=>h0 h2),aL (fun h0=>h0 h3),aL (fun h0=>h0 h4),aL (fun h0=>h0 h5),aR h6]
theorem AJ {k1 k2:Int} {l:List R2} {x y z:PV} (h:tY k1 k2 l=0) (h1:tG x=true) (h2:vQ x k1 l) (h3:tG y=true) (h4:vQ y k2 l) (h5:tG z=true) (h6:vB z l):uG k1 k2 l x y z=(0,0):=by
 unfold uG;rw [aL (fun h0=>h0 h),aL (fun h0=>h0 h1),aL (fun h0=>h0 h2),aL (fun h0=>h0 h3),aL (fun h0=>h0 h4),aL (fun h0=>h0 h5),aL (fun h0=>h0 h6)]
section
attribute [local irreducible] vQ vB tY tG wG
theorem c26 (G:Imm) (k1 k2:Int) (pl:List R2) (pa:Option Addr) (pc:Nat) (xp yp zp:PV) (xac xao yac yao zac zao:Option Addr) (xcc xoc ycc yoc zcc zoc:Nat) (hpa:Arr G pa pl) (hpc:pl.length≤pc) (hpl:pl.length≤1048576) (hxc:Arr G xac xp.code) (hxo:Arr G xao xp.outs) (hx1:xp.code.length≤16384) (hx2:xp.outs.length≤1048576) (hyc:Arr G yac yp.code) (hyo:Arr G yao yp.outs) (hy1:yp.code.length≤16384) (hy2:yp.outs.length≤1048576) (hzc:Arr G zac zp.code) (hzo:Arr G zao zp.outs) (hz1:zp.code.length≤16384) (hz2:zp.outs.length≤1048576) :
 Does Tryz.prog 26 [.agg #[.int .i64 k1,.int .i64 k2,.slice pa pl.length pc,.int .i64 xp.ins,.int .i64 xp.regs,.slice xac xp.code.length xcc,.slice xao xp.outs.length xoc,.int .i64 yp.ins,.int .i64 yp.regs,.slice yac yp.code.length ycc,.slice yao yp.outs.length yoc,.int .i64 zp.ins,.int .i64 zp.regs,.slice zac zp.code.length zcc,.slice zao zp.outs.length zoc]] G [] (fun v G' Ho=>v=.tuple #[.int .i64 (uG k1 k2 pl xp yp zp).1,.int .i64 (uG k1 k2 pl xp yp zp).2]∧Ho=[]):=by
 refine D0 Tryz.func26 Tryz.ntmps26 fun w=>?_
 by_cases hW:tY k1 k2 pl=0
 case neg =>
  refine aK 2 [] ?_
  refine cV 0 fun b1=>?_
  refine aJ 12 [0,0,0] ?_
  refine aN (fB (cs:=[_,_,_]) T.st134 rfl rfl rfl) ?_
  refine bW rfl (c75 _ _ _ _ _ _ sW sV) ?_
  refine aW 20 [1] ?_
  refine eG ?_
  exact ⟨by rw [IZ hW],rfl⟩
 obtain ⟨hP1,hP2,hL,hRL⟩:=Bx hW
 obtain ⟨n1,rfl⟩:∃ n:Nat,k1=(n:Int):=⟨k1.toNat,by have:=hP1.1;omega⟩
 obtain ⟨n2,rfl⟩:∃ n:Nat,k2=(n:Int):=⟨k2.toNat,by have:=hP2.1;omega⟩
 have hn1:1≤n1∧n1≤8:=by have:=hP1.1;have:=hP1.2;omega
 have hn2:1≤n2∧n2≤8:=by have:=hP2.1;have:=hP2.2;omega
 have hl15:pl.length≤15:=sV
 have hl1:1≤pl.length:=sV
 have hRR:pl.length≤15∧(∀ i:Nat,i<pl.length→IE (pl[i]?.getD default)):=by unfold wG at hRL;exact ⟨hRL.2.1,hRL.2.2.1⟩
 have hok:=hRR.2
 have hnr:∀ i:Nat,i<pl.length→uO (pl[i]?.getD default).a (pl[i]?.getD default).b:=fun i hi=>(hok i hi).1
 refine aK 2 [] ?_
 refine cV 0 fun b1=>?_
 refine aJ 12 [0,0,0] ?_
 refine aN (fB (cs:=[_,_,_]) T.st134 rfl rfl rfl) ?_
 refine bW rfl (c75 _ _ _ _ _ _ sW sV) ?_
 refine aJ 17 [0] ?_
 refine aN (eL 0 T.agg26 rfl rfl rfl rfl) ?_
 refine bW rfl (XE _ _ _ _ _ _ sW sW sV sV) ?_
 refine aN (dK rfl) ?_
 refine bJ 2 [] ?_
 refine dN (fun hc1=>?_) fun hc1=>?_
 refine bE 8 [] ?_
 rotate_left
 refine aK 6 [] ?_
 refine aN (eL 0 T.agg26 rfl rfl rfl rfl) ?_
 refine aA 4 [0,0] ?_
 refine bV 1 rfl (c77 _ _ _ _ _ _ _ _ _ _ sW sW sW sV sV hl15 hnr (bD.1 sW) sV sV) fun v1 G1 Ho1 hle1 hp=>?_
 obtain ⟨rfl,rfl⟩:=hp
 replace hpa:=hpa.up hle1
 replace hxc:=hxc.up hle1
 replace hxo:=hxo.up hle1
 replace hyc:=hyc.up hle1
 replace hyo:=hyo.up hle1
 replace hzc:=hzc.up hle1
 replace hzo:=hzo.up hle1
 refine aN (dK rfl) ?_
 refine bJ 2 [] ?_
 refine dN (fun hc2=>?_) fun hc2=>?_
 refine bE 8 [] ?_
 rotate_left
 refine aK 6 [] ?_
 refine aN (eL 0 T.agg26 rfl rfl rfl rfl) ?_
 refine bW rfl (XE _ _ _ _ _ _ sW sW sV sV) ?_
 refine aN (dK rfl) ?_
 refine bJ 2 [] ?_
 refine dN (fun hc3=>?_) fun hc3=>?_
 refine bE 8 [] ?_
 rotate_left
 refine aK 6 [] ?_
 refine aN (eL 0 T.agg26 rfl rfl rfl rfl) ?_
 refine aA 4 [0,0] ?_
 refine bV 1 rfl (c77 _ _ _ _ _ _ _ _ _ _ sW sW sW sV sV hl15 hnr (bD.1 sW) sV sV) fun v2 G2 Ho2 hle2 hp=>?_
 obtain ⟨rfl,rfl⟩:=hp
 replace hpa:=hpa.up hle2
 replace hxc:=hxc.up hle2
 replace hxo:=hxo.up hle2
 replace hyc:=hyc.up hle2
 replace hyo:=hyo.up hle2
 replace hzc:=hzc.up hle2
 replace hzo:=hzo.up hle2
 refine aN (dK rfl) ?_
 refine bJ 2 [] ?_
 refine dN (fun hc4=>?_) fun hc4=>?_
 refine bE 8 [] ?_
 rotate_left
 refine aK 6 [] ?_
 refine aN (eL 0 T.agg26 rfl rfl rfl rfl) ?_
 refine bW rfl (XE _ _ _ _ _ _ sW sW sV sV) ?_
 refine aN (dK rfl) ?_
 refine bJ 2 [] ?_
 refine dN (fun hc5=>?_) fun hc5=>?_
 refine bE 8 [] ?_
 rotate_left
 refine aK 6 [] ?_
 refine aN (eL 0 T.agg26 rfl rfl rfl rfl) ?_
 refine aA 2 [0] ?_
 refine bV 1 rfl (c78 _ _ _ _ _ _ _ _ _ sW sW sW sV sV hpc hl1 hl15 hok) fun v3 G3 Ho3 hle3 hp=>?_
 obtain ⟨rfl,rfl⟩:=hp
 replace hpa:=hpa.up hle3
 replace hxc:=hxc.up hle3
 replace hxo:=hxo.up hle3
 replace hyc:=hyc.up hle3
 replace hyo:=hyo.up hle3
 replace hzc:=hzc.up hle3
 replace hzo:=hzo.up hle3
 refine aN (dK rfl) ?_
 refine bJ 2 [] ?_
 refine dN (fun hc6=>?_) fun hc6=>?_
 refine bE 8 [] ?_
 rotate_left
 refine bE 9 [] ?_
 rotate_left
 · refine eG ?_
   exact ⟨by rw [AD hW sW],rfl⟩
 · refine eG ?_
   exact ⟨by rw [AE hW (bD.1 hc1) sW],rfl⟩
 · refine eG ?_
   exact ⟨by rw [AF hW (bD.1 hc1) (bD.1 hc2) sW],rfl⟩
 · refine eG ?_
   exact ⟨by rw [AG hW (bD.1 hc1) (bD.1 hc2) (bD.1 hc3) sW],rfl⟩
 · refine eG ?_
   exact ⟨by rw [AH hW (bD.1 hc1) (bD.1 hc2) (bD.1 hc3) (bD.1 hc4) sW],rfl⟩
 · refine eG ?_
   exact ⟨by rw [AI hW (bD.1 hc1) (bD.1 hc2) (bD.1 hc3) (bD.1 hc4) (bD.1 hc5) sW],rfl⟩
 refine eG ?_
 exact ⟨by rw [AJ hW (bD.1 hc1) (bD.1 hc2) (bD.1 hc3) (bD.1 hc4) (bD.1 hc5) (bD.1 hc6)],rfl⟩
end
theorem Lv {G:Imm} {b:Nat} {c:Array Value} {ty:TypeId} {z:Nat×Nat} (h:G b=some (.cells c ty z)) {k:Nat} {v:Value} (hv:c[k]?=some v):G.cell b k=some v:=by
 unfold Imm.cell;rw [h];exact hv
structure PF where
 p:PH
 f:Nat
 b:Nat
instance:Inhabited PF:=⟨⟨default,0,0⟩⟩
instance:Cells PF:=⟨5,fun x=>[.int .i64 x.p.ins,.int .i64 x.p.regs,.slice x.p.ac x.p.cn x.p.cc,.slice x.p.ao x.p.on x.p.oc,.func (.func x.f) #[] #[.pointer (some ⟨x.b,0,none⟩)]],fun _=>rfl,fun _=>rfl⟩
section
attribute [local irreducible] vQ vB tY tG wG
theorem bn (G:Imm) (k:Nat) (b:Nat) (cs:Array Value) (ty:TypeId) (zz:Nat×Nat) (p:PV) (ac ao a:Option Addr) (cc co c:Nat) (l:List R2) (hU:G b=some (.cells cs ty zz)) (h0:cs[0]?=some (.int .i64 (k:Int))) (h2:cs[2]?=some (.slice a l.length c)) (hc:Arr G ac p.code) (ho:Arr G ao p.outs) (ha:Arr G a l) (hac:l.length≤c) (hl:l.length≤1048576) (hcl:p.code.length≤16384) (hol:p.outs.length≤1099511627776) (hRL:wG l) (hR:tG p=true) (hk1:1≤k) (hk8:k≤8) :
 Does Tryz.prog 168 [.agg #[.int .i64 p.ins,.int .i64 p.regs,.slice ac p.code.length cc,.slice ao p.outs.length co],.pointer (some ⟨b,0,none⟩)] G [] (fun v G' Ho=>v=.tuple #[.bool (decide (vQ p (k:Int) l)),.int .i64 0]∧Ho=[]):=by
 refine D0 Tryz.func168 Tryz.ntmps168 fun w=>?_
 refine aK 2 [] ?_
 refine cV 0 fun b1=>?_
 refine aJ 8 [0] ?_
 refine aN (dZ T.one3 rfl ((by rw [cH]:G.cell b (0+0)=G.cell b 0).trans (Lv hU h0))) ?_
 refine aA 1 [] ?_
 refine aN (dZ T.one22 rfl ((by rw [cH]:G.cell b (0+2)=G.cell b 2).trans (Lv hU h2))) ?_
 refine bV 1 rfl (UN _ _ _ _ _ _ _ _ _ _ sW sW sW sV sV hRL hR sV sV) fun v1 G1 Ho1 hle1 hp=>?_
 obtain ⟨rfl,rfl⟩:=hp
 replace hc:=hc.up hle1
 replace ho:=ho.up hle1
 replace ha:=ha.up hle1
 refine aW 7 [] ?_
 refine eG ?_
 exact ⟨rfl,rfl⟩
theorem bp (G:Imm) (k:Nat) (b:Nat) (cs:Array Value) (ty:TypeId) (zz:Nat×Nat) (p:PV) (ac ao a:Option Addr) (cc co c:Nat) (l:List R2) (hU:G b=some (.cells cs ty zz)) (h0:cs[1]?=some (.int .i64 (k:Int))) (h2:cs[2]?=some (.slice a l.length c)) (hc:Arr G ac p.code) (ho:Arr G ao p.outs) (ha:Arr G a l) (hac:l.length≤c) (hl:l.length≤1048576) (hcl:p.code.length≤16384) (hol:p.outs.length≤1099511627776) (hRL:wG l) (hR:tG p=true) (hk1:1≤k) (hk8:k≤8) :
 Does Tryz.prog 170 [.agg #[.int .i64 p.ins,.int .i64 p.regs,.slice ac p.code.length cc,.slice ao p.outs.length co],.pointer (some ⟨b,0,none⟩)] G [] (fun v G' Ho=>v=.tuple #[.bool (decide (vQ p (k:Int) l)),.int .i64 0]∧Ho=[]):=by
 refine D0 Tryz.func170 Tryz.ntmps170 fun w=>?_
 refine aK 2 [] ?_
 refine cV 0 fun b1=>?_
 refine aJ 8 [0] ?_
 refine aN (dZ T.one3 rfl ((by rw [cH]:G.cell b (0+1)=G.cell b 1).trans (Lv hU h0))) ?_
 refine aA 1 [] ?_
 refine aN (dZ T.one22 rfl ((by rw [cH]:G.cell b (0+2)=G.cell b 2).trans (Lv hU h2))) ?_
 refine bV 1 rfl (UN _ _ _ _ _ _ _ _ _ _ sW sW sW sV sV hRL hR sV sV) fun v1 G1 Ho1 hle1 hp=>?_
 obtain ⟨rfl,rfl⟩:=hp
 replace hc:=hc.up hle1
 replace ho:=ho.up hle1
 replace ha:=ha.up hle1
 refine aW 7 [] ?_
 refine eG ?_
 exact ⟨rfl,rfl⟩
theorem bq (G:Imm) (b:Nat) (cs:Array Value) (ty:TypeId) (zz:Nat×Nat) (p:PV) (ac ao a:Option Addr) (cc co c:Nat) (l:List R2) (hU:G b=some (.cells cs ty zz)) (h2:cs[2]?=some (.slice a l.length c)) (hc:Arr G ac p.code) (ho:Arr G ao p.outs) (ha:Arr G a l) (hac:l.length≤c) (hl:l.length≤1048576) (hcl:p.code.length≤16384) (hol:p.outs.length≤1099511627776) (hRL:wG l) (hR:tG p=true) :
 Does Tryz.prog 171 [.agg #[.int .i64 p.ins,.int .i64 p.regs,.slice ac p.code.length cc,.slice ao p.outs.length co],.pointer (some ⟨b,0,none⟩)] G [] (fun v G' Ho=>v=.tuple #[.bool (decide (vB p l)),.int .i64 0]∧Ho=[]):=by
 refine D0 Tryz.func171 Tryz.ntmps171 fun w=>?_
 refine aK 2 [] ?_
 refine cV 0 fun b1=>?_
 refine aJ 8 [0] ?_
 refine aN (dZ T.one22 rfl ((by rw [cH]:G.cell b (0+2)=G.cell b 2).trans (Lv hU h2))) ?_
 refine bV 1 rfl (UI _ _ _ _ _ _ _ _ _ sW sW sV sV sW hac hl hRL hR) fun v1 G1 Ho1 hle1 hp=>?_
 obtain ⟨rfl,rfl⟩:=hp
 replace hc:=hc.up hle1
 replace ho:=ho.up hle1
 replace ha:=ha.up hle1
 refine aW 7 [] ?_
 refine eG ?_
 exact ⟨rfl,rfl⟩
theorem br (G:Imm) (k1 k2:Int) (pl:List R2) (pa:Option Addr) (pc:Nat) (xp yp zp:PV) (xac xao yac yao zac zao:Option Addr) (xcc xoc ycc yoc zcc zoc:Nat) :
 Does Tryz.prog 123 [.agg #[.int .i64 k1,.int .i64 k2,.slice pa pl.length pc,.int .i64 xp.ins,.int .i64 xp.regs,.slice xac xp.code.length xcc,.slice xao xp.outs.length xoc,.int .i64 yp.ins,.int .i64 yp.regs,.slice yac yp.code.length ycc,.slice yao yp.outs.length yoc,.int .i64 zp.ins,.int .i64 zp.regs,.slice zac zp.code.length zcc,.slice zao zp.outs.length zoc]] G [] (fun v G' Ho=>∃ (s:Option Addr) (b:Nat),v=.slice s ([⟨⟨xp.ins,xp.regs,xac,xp.code.length,xcc,xao,xp.outs.length,xoc⟩,168,b⟩,⟨⟨yp.ins,yp.regs,yac,yp.code.length,ycc,yao,yp.outs.length,yoc⟩,170,b⟩,⟨⟨zp.ins,zp.regs,zac,zp.code.length,zcc,zao,zp.outs.length,zoc⟩,171,b⟩]:List PF).length 3∧Arr G' s ([⟨⟨xp.ins,xp.regs,xac,xp.code.length,xcc,xao,xp.outs.length,xoc⟩,168,b⟩,⟨⟨yp.ins,yp.regs,yac,yp.code.length,ycc,yao,yp.outs.length,yoc⟩,170,b⟩,⟨⟨zp.ins,zp.regs,zac,zp.code.length,zcc,zao,zp.outs.length,zoc⟩,171,b⟩]:List PF)∧G' b=some (.cells #[.int .i64 k1,.int .i64 k2,.slice pa pl.length pc,.int .i64 xp.ins,.int .i64 xp.regs,.slice xac xp.code.length xcc,.slice xao xp.outs.length xoc,.int .i64 yp.ins,.int .i64 yp.regs,.slice yac yp.code.length ycc,.slice yao yp.outs.length yoc,.int .i64 zp.ins,.int .i64 zp.regs,.slice zac zp.code.length zcc,.slice zao zp.outs.length zoc] 28 (0,0))∧Ho=[]):=by
 refine D0 Tryz.func123 Tryz.ntmps123 fun w=>?_
 refine aK 2 [] ?_
 refine cV 0 fun b1=>?_
 refine aJ 6 [] ?_
 refine aN (eL 0 T.agg26 rfl rfl rfl rfl) ?_
 refine aN (mQ rfl rfl) ?_
 refine aN (fB (cs:=[_,_,_,_,_]) T.st203 rfl rfl rfl) ?_
 refine aA 1 [] ?_
 refine aN (eL 0 T.agg26 rfl rfl rfl rfl) ?_
 refine aN (mQ rfl rfl) ?_
 refine aN (fB (cs:=[_,_,_,_,_]) T.st203 rfl rfl rfl) ?_
 refine aA 1 [] ?_
 refine aN (eL 0 T.agg26 rfl rfl rfl rfl) ?_
 refine aN (mQ rfl rfl) ?_
 refine aN (fB (cs:=[_,_,_,_,_]) T.st203 rfl rfl rfl) ?_
 refine fF (α:=PF) 1 [⟨⟨xp.ins,xp.regs,xac,xp.code.length,xcc,xao,xp.outs.length,xoc⟩,168,b1⟩,⟨⟨yp.ins,yp.regs,yac,yp.code.length,ycc,yao,yp.outs.length,yoc⟩,170,b1⟩,⟨⟨zp.ins,zp.regs,zac,zp.code.length,zcc,zao,zp.outs.length,zoc⟩,171,b1⟩] rfl T.sl199 T.el203 rfl rfl rfl rfl rfl fun b2=>?_
 refine aW 4 [] ?_
 refine rI 0 rfl fun G1 hle1 hb1=>?_
 have hoF:OwnA (some ⟨b2,0,none⟩) 3 ([⟨⟨xp.ins,xp.regs,xac,xp.code.length,xcc,xao,xp.outs.length,xoc⟩,168,b1⟩,⟨⟨yp.ins,yp.regs,yac,yp.code.length,ycc,yao,yp.outs.length,yoc⟩,170,b1⟩,⟨⟨zp.ins,zp.regs,zac,zp.code.length,zcc,zao,zp.outs.length,zoc⟩,171,b1⟩]:List PF) []:=iI Jz
 refine eE (α:=PF) 1 rfl hoF fun G2 hle2 hA2=>?_
 refine bO ?_
 exact ⟨_,b1,rfl,hA2,hle2 _ _ hb1,rfl⟩
end
section
attribute [local irreducible] vQ vB tY tG wG
theorem c69 (G:Imm) (k1 k2:Int) (pl:List R2) (pa:Option Addr) (pc:Nat) (xp yp zp:PV) (xac xao yac yao zac zao:Option Addr) (xcc xoc ycc yoc zcc zoc:Nat) (hpa:Arr G pa pl) (hpc:pl.length≤pc) (hpl:pl.length≤1048576) (hxc:Arr G xac xp.code) (hxo:Arr G xao xp.outs) (hx1:xp.code.length≤16384) (hx2:xp.outs.length≤1048576) (hyc:Arr G yac yp.code) (hyo:Arr G yao yp.outs) (hy1:yp.code.length≤16384) (hy2:yp.outs.length≤1048576) (hzc:Arr G zac zp.code) (hzo:Arr G zao zp.outs) (hz1:zp.code.length≤16384) (hz2:zp.outs.length≤1048576) :
 Does Tryz.prog 69 [.agg #[.int .i64 k1,.int .i64 k2,.slice pa pl.length pc,.int .i64 xp.ins,.int .i64 xp.regs,.slice xac xp.code.length xcc,.slice xao xp.outs.length xoc,.int .i64 yp.ins,.int .i64 yp.regs,.slice yac yp.code.length ycc,.slice yao yp.outs.length yoc,.int .i64 zp.ins,.int .i64 zp.regs,.slice zac zp.code.length zcc,.slice zao zp.outs.length zoc]] G [] (fun v G' Ho=>v=.tuple #[.int .i64 (uG k1 k2 pl xp yp zp).1,.int .i64 (uG k1 k2 pl xp yp zp).2]∧Ho=[]):=by
 refine D0 Tryz.func69 Tryz.ntmps69 fun w=>?_
 by_cases hW:tY k1 k2 pl=0
 case neg =>
  refine aK 2 [] ?_
  refine cV 0 fun b1=>?_
  refine aJ 12 [0,0,0] ?_
  refine bV 1 rfl (UL _ _ _ _ _ _ sW sV sV) fun v1 G1 Ho1 hle1 hp=>?_
  obtain ⟨pv1,rfl,rfl⟩:=hp
  replace hpa:=hpa.up hle1
  replace hxc:=hxc.up hle1
  replace hxo:=hxo.up hle1
  replace hyc:=hyc.up hle1
  replace hyo:=hyo.up hle1
  replace hzc:=hzc.up hle1
  replace hzo:=hzo.up hle1
  refine aW 24 [1] ?_
  refine eG ?_
  exact ⟨by rw [IZ hW],rfl⟩
 obtain ⟨hP1,hP2,hL,hRL⟩:=Bx hW
 obtain ⟨n1,rfl⟩:∃ n:Nat,k1=(n:Int):=⟨k1.toNat,by have:=hP1.1;omega⟩
 obtain ⟨n2,rfl⟩:∃ n:Nat,k2=(n:Int):=⟨k2.toNat,by have:=hP2.1;omega⟩
 have hn1:1≤n1∧n1≤8:=by have:=hP1.1;have:=hP1.2;omega
 have hn2:1≤n2∧n2≤8:=by have:=hP2.1;have:=hP2.2;omega
 refine aK 2 [] ?_
 refine cV 0 fun b1=>?_
 refine aJ 12 [0,0,0] ?_
 refine bV 1 rfl (UL _ _ _ _ _ _ sW sV sV) fun v1 G1 Ho1 hle1 hp=>?_
 obtain ⟨pv1,rfl,rfl⟩:=hp
 replace hpa:=hpa.up hle1
 replace hxc:=hxc.up hle1
 replace hxo:=hxo.up hle1
 replace hyc:=hyc.up hle1
 replace hyo:=hyo.up hle1
 replace hzc:=hzc.up hle1
 replace hzo:=hzo.up hle1
 refine aJ 21 [0,0] ?_
 refine bV 1 rfl (br _ _ _ _ _ _ xp yp zp _ _ _ _ _ _ _ _ _ _ _ _) fun v2 G2 Ho2 hle2 hp=>?_
 obtain ⟨sp2,bp2,rfl,hpA2,hpB2,rfl⟩:=hp
 replace hpa:=hpa.up hle2
 replace hxc:=hxc.up hle2
 replace hxo:=hxo.up hle2
 replace hyc:=hyc.up hle2
 replace hyo:=hyo.up hle2
 replace hzc:=hzc.up hle2
 replace hzo:=hzo.up hle2
 refine bJ 5 [] ?_
 refine rX (ι:=Nat×Imm) (fun (i,Gx)=>([(27,.int .i64 (i:Int)),(26,.int .i64 3),(25,.slice sp2 (List.length [PF.mk (PH.mk xp.ins xp.regs xac xp.code.length xcc xao xp.outs.length xoc) 168 bp2,PF.mk (PH.mk yp.ins yp.regs yac yp.code.length ycc yao yp.outs.length yoc) 170 bp2,PF.mk (PH.mk zp.ins zp.regs zac zp.code.length zcc zao zp.outs.length zoc) 171 bp2]) 3)],[(0,some b1,.cells #[.int .i64 (↑n1:Int),.int .i64 (↑n2:Int),.slice pa (List.length pl) pc,.int .i64 xp.ins,.int .i64 xp.regs,.slice xac xp.code.length xcc,.slice xao xp.outs.length xoc,.int .i64 yp.ins,.int .i64 yp.regs,.slice yac yp.code.length ycc,.slice yao yp.outs.length yoc,.int .i64 zp.ins,.int .i64 zp.regs,.slice zac zp.code.length zcc,.slice zao zp.outs.length zoc] 28)])) (fun (i,Gx)=>Gx) (fun (i,Gx)=>i≤3∧G2.le Gx∧(0<i→tG xp=true∧vQ xp (n1:Int) pl)∧(1<i→tG yp=true∧vQ yp (n2:Int) pl)∧(2<i→tG zp=true∧vB zp pl)) (fun (i,Gx)=>3 - i) ((0,G2)) (⟨aU _,cA _,fun h=>absurd h sV,fun h=>absurd h sV,fun h=>absurd h sV⟩) fun ⟨i,Gx⟩=>fun hk=>?_
 obtain ⟨hi0,hgx,hx9,hy9,hz9⟩:=hk
 have hB:=hgx _ _ hpB2
 replace hpA2:=hpA2.up hgx
 replace hpa:=hpa.up hgx
 replace hxc:=hxc.up hgx
 replace hxo:=hxo.up hgx
 replace hyc:=hyc.up hgx
 replace hyo:=hyo.up hgx
 replace hzc:=hzc.up hgx
 replace hzo:=hzo.up hgx
 have hi4:i=0∨i=1∨i=2∨i=3:=sV
 rcases hi4 with rfl | rfl | rfl | rfl
 · refine aK 14 [1] ?_
   refine aN (qN (α:=PF) T.sl199 rfl rfl hpA2 (show 0≤((0:Nat):Int)∧((0:Nat):Int)<((3:Nat):Int) by omega)) ?_
   refine aN (nP T.agg203 rfl (sF hpA2 (show 0≤((0:Nat):Int)∧((0:Nat):Int)<((3:Nat):Int) by omega)) rfl) ?_
   refine kD 31 rfl (show _=Value.agg #[.int .i64 xp.ins,.int .i64 xp.regs,.slice xac xp.code.length xcc,.slice xao xp.outs.length xoc,.func (.func 168) #[] #[.pointer (some ⟨bp2,0,none⟩)]] from rfl) ?_
   by_cases hr:tG xp=true
   · skip
     refine aQ 1 rfl T.zero203 fun b2=>?_
     refine aJ 7 [1] ?_
     refine aN (eL 1 T.agg26 rfl rfl rfl rfl) ?_
     refine bW rfl (Iv _ xp _ _ _ _ sW sW sV sV hr) ?_
     refine aJ 22 [0,1] ?_
     refine aN (eL 1 T.agg26 rfl rfl rfl rfl) ?_
     refine iG (fst:=[]) (cap:=[.pointer (some ⟨bp2,0,none⟩)]) 2 rfl T.fn168 rfl rfl (bn _ n1 bp2 _ _ _ xp xac xao pa xcc xoc pc pl hB rfl rfl hxc hxo hpa hpc hpl hx1 sV hRL hr sV sV) (uH trivial) fun v9 G9 Ho9 hle9 hp=>?_
     obtain ⟨rfl,rfl⟩:=hp
     refine aJ 12 [] ?_
     refine jV 53 ?_
     refine aA 3 [] ?_
     refine aN (dK rfl) ?_
     refine bJ 3 [] ?_
     refine dN (fun hc1=>?_) fun hc1=>?_
     refine bE 14 [] ?_
     rotate_left
     refine bE 7 [] ?_
     rotate_left
     · refine eG ?_
       exact ⟨by rw [AE hW hr sW];rfl,rfl⟩
     refine cZ 27 rfl (show _=Value.int .i64 ((1:Nat):Int) from rfl) ?_
     refine cS ((1,G9)) ?_ ?_
     · exact ⟨by omega,aZ hgx hle9,fun _=>⟨hr,bD.1 sW⟩,fun h=>absurd h sV,fun h=>absurd h sV⟩
     show 3 - 1<3 - 0
     omega
   skip
   refine aQ 1 rfl T.zero203 fun b2=>?_
   refine aJ 7 [1] ?_
   refine aN (eL 1 T.agg26 rfl rfl rfl rfl) ?_
   refine bW rfl (IY _ xp _ _ _ _ sW sW sV sV hr) ?_
   refine aW 31 [1] ?_
   refine eG ?_
   exact ⟨by rw [AD hW sW];rfl,rfl⟩
 · refine aK 14 [1] ?_
   refine aN (qN (α:=PF) T.sl199 rfl rfl hpA2 (show 0≤((1:Nat):Int)∧((1:Nat):Int)<((3:Nat):Int) by omega)) ?_
   refine aN (nP T.agg203 rfl (sF hpA2 (show 0≤((1:Nat):Int)∧((1:Nat):Int)<((3:Nat):Int) by omega)) rfl) ?_
   refine kD 31 rfl (show _=Value.agg #[.int .i64 yp.ins,.int .i64 yp.regs,.slice yac yp.code.length ycc,.slice yao yp.outs.length yoc,.func (.func 170) #[] #[.pointer (some ⟨bp2,0,none⟩)]] from rfl) ?_
   by_cases hr:tG yp=true
   · skip
     refine aQ 1 rfl T.zero203 fun b2=>?_
     refine aJ 7 [1] ?_
     refine aN (eL 1 T.agg26 rfl rfl rfl rfl) ?_
     refine bW rfl (Iv _ yp _ _ _ _ sW sW sV sV hr) ?_
     refine aJ 22 [0,1] ?_
     refine aN (eL 1 T.agg26 rfl rfl rfl rfl) ?_
     refine iG (fst:=[]) (cap:=[.pointer (some ⟨bp2,0,none⟩)]) 2 rfl T.fn170 rfl rfl (bp _ n2 bp2 _ _ _ yp yac yao pa ycc yoc pc pl hB rfl rfl hyc hyo hpa hpc hpl hy1 sV hRL hr sV sV) (uH trivial) fun v9 G9 Ho9 hle9 hp=>?_
     obtain ⟨rfl,rfl⟩:=hp
     refine aJ 12 [] ?_
     refine jV 53 ?_
     refine aA 3 [] ?_
     refine aN (dK rfl) ?_
     refine bJ 3 [] ?_
     refine dN (fun hc1=>?_) fun hc1=>?_
     refine bE 14 [] ?_
     rotate_left
     refine bE 7 [] ?_
     rotate_left
     · refine eG ?_
       exact ⟨by rw [AG hW (hx9 sV).1 (hx9 sV).2 hr sW];rfl,rfl⟩
     refine cZ 27 rfl (show _=Value.int .i64 ((2:Nat):Int) from rfl) ?_
     refine cS ((2,G9)) ?_ ?_
     · exact ⟨by omega,aZ hgx hle9,fun _=>hx9 sV,fun _=>⟨hr,bD.1 sW⟩,fun h=>absurd h sV⟩
     show 3 - 2<3 - 1
     omega
   skip
   refine aQ 1 rfl T.zero203 fun b2=>?_
   refine aJ 7 [1] ?_
   refine aN (eL 1 T.agg26 rfl rfl rfl rfl) ?_
   refine bW rfl (IY _ yp _ _ _ _ sW sW sV sV hr) ?_
   refine aW 31 [1] ?_
   refine eG ?_
   exact ⟨by rw [AF hW (hx9 sV).1 (hx9 sV).2 sW];rfl,rfl⟩
 · refine aK 14 [1] ?_
   refine aN (qN (α:=PF) T.sl199 rfl rfl hpA2 (show 0≤((2:Nat):Int)∧((2:Nat):Int)<((3:Nat):Int) by omega)) ?_
   refine aN (nP T.agg203 rfl (sF hpA2 (show 0≤((2:Nat):Int)∧((2:Nat):Int)<((3:Nat):Int) by omega)) rfl) ?_
   refine kD 31 rfl (show _=Value.agg #[.int .i64 zp.ins,.int .i64 zp.regs,.slice zac zp.code.length zcc,.slice zao zp.outs.length zoc,.func (.func 171) #[] #[.pointer (some ⟨bp2,0,none⟩)]] from rfl) ?_
   by_cases hr:tG zp=true
   · skip
     refine aQ 1 rfl T.zero203 fun b2=>?_
     refine aJ 7 [1] ?_
     refine aN (eL 1 T.agg26 rfl rfl rfl rfl) ?_
     refine bW rfl (Iv _ zp _ _ _ _ sW sW sV sV hr) ?_
     refine aJ 22 [0,1] ?_
     refine aN (eL 1 T.agg26 rfl rfl rfl rfl) ?_
     refine iG (fst:=[]) (cap:=[.pointer (some ⟨bp2,0,none⟩)]) 2 rfl T.fn171 rfl rfl (bq _ bp2 _ _ _ zp zac zao pa zcc zoc pc pl hB rfl hzc hzo hpa hpc hpl hz1 sV hRL hr) (uH trivial) fun v9 G9 Ho9 hle9 hp=>?_
     obtain ⟨rfl,rfl⟩:=hp
     refine aJ 12 [] ?_
     refine jV 53 ?_
     refine aA 3 [] ?_
     refine aN (dK rfl) ?_
     refine bJ 3 [] ?_
     refine dN (fun hc1=>?_) fun hc1=>?_
     refine bE 14 [] ?_
     rotate_left
     refine bE 7 [] ?_
     rotate_left
     · refine eG ?_
       exact ⟨by rw [AI hW (hx9 sV).1 (hx9 sV).2 (hy9 sV).1 (hy9 sV).2 hr sW];rfl,rfl⟩
     refine cZ 27 rfl (show _=Value.int .i64 ((3:Nat):Int) from rfl) ?_
     refine cS ((3,G9)) ?_ ?_
     · exact ⟨by omega,aZ hgx hle9,fun _=>hx9 sV,fun _=>hy9 sV,fun _=>⟨hr,bD.1 sW⟩⟩
     show 3 - 3<3 - 2
     omega
   skip
   refine aQ 1 rfl T.zero203 fun b2=>?_
   refine aJ 7 [1] ?_
   refine aN (eL 1 T.agg26 rfl rfl rfl rfl) ?_
   refine bW rfl (IY _ zp _ _ _ _ sW sW sV sV hr) ?_
   refine aW 31 [1] ?_
   refine eG ?_
   exact ⟨by rw [AH hW (hx9 sV).1 (hx9 sV).2 (hy9 sV).1 (hy9 sV).2 sW];rfl,rfl⟩
 refine bE 19 [0] ?_
 refine eG ?_
 exact ⟨by rw [AJ hW (hx9 sV).1 (hx9 sV).2 (hy9 sV).1 (hy9 sV).2 (hz9 sV).1 (hz9 sV).2],rfl⟩
end
theorem De {α:Type} [Inhabited α] {l m:List α} {k:Nat} (hl:k<l.length) (hm:k<m.length) (h:l.take k=m.take k) (he:l[((k:Nat):Int).toNat]?.getD default=m[((k:Nat):Int).toNat]?.getD default):l.take (k+1)=m.take (k+1):=by
 rw [aF,aB hl,aB hm] at he
 rw [dE,dE,h,aB hl,aB hm]
 simp only [hJ] at he
 rw [he]
theorem bu (G:Imm) (p q:PV) (ac ao bc bo:Option Addr) (cc co dc do_:Nat) (hc:Arr G ac p.code) (ho:Arr G ao p.outs) (hc':Arr G bc q.code) (ho':Arr G bo q.outs) (h1:p.code.length≤1099511627776) (h2:p.outs.length≤1099511627776) :
 Does Tryz.prog 79 [.agg #[.int .i64 p.ins,.int .i64 p.regs,.slice ac p.code.length cc,.slice ao p.outs.length co],.agg #[.int .i64 q.ins,.int .i64 q.regs,.slice bc q.code.length dc,.slice bo q.outs.length do_]] G []
  (fun v G' Ho=>v=.bool (decide (p=q))∧G'=G∧Ho=[]):=by
 refine D0 Tryz.func79 Tryz.ntmps79 fun w=>?_
 refine aK 2 [] ?_
 refine cV 0 fun b1=>?_
 refine cV 1 fun b2=>?_
 refine aJ 12 [0,1] ?_
 apply bZ 6 12 18 rfl
 intro hg1
 refine aA 11 [0,1] ?_
 exact cU 6 0
 intro hg1
 refine aA 6 [] ?_
 exact cU 6 0
 refine aA 1 [] ?_
 apply bZ 8 19 27 rfl
 intro hg1
 refine aA 15 [0,1] ?_
 exact cU 8 0
 intro hg1
 refine aA 8 [] ?_
 exact cU 8 0
 refine aA 1 [] ?_
 apply bZ 8 28 36 rfl
 intro hg1
 refine aA 15 [0,1] ?_
 exact cU 8 0
 intro hg1
 refine aA 8 [] ?_
 exact cU 8 0
 refine bJ 2 [] ?_
 refine dN (fun hc1=>?_) fun hc1=>?_
 refine bE 7 [] ?_
 refine bO ?_
 rotate_left
 refine cF 9 [] ?_
 rotate_left
 · refine ⟨?_,rfl,rfl⟩
   have:p≠q:=by rintro rfl;omega
   simp [this]
 simp only [not_or,ne_eq,bD] at hc1
 obtain ⟨⟨⟨e1,e2⟩,e3⟩,e4⟩:=hc1
 refine gC (ι:=Nat) (fun k=>([(5,.int .i64 (k:Int)),(3,.pointer (some ⟨b2,0,none⟩)),(2,.pointer (some ⟨b1,0,none⟩))],[(1,some b2,.cells #[.int .i64 q.ins,.int .i64 q.regs,.slice bc q.code.length dc,.slice bo q.outs.length do_] 26),(0,some b1,.cells #[.int .i64 p.ins,.int .i64 p.regs,.slice ac p.code.length cc,.slice ao p.outs.length co] 26)])) (fun k=>k≤p.code.length∧p.code.take k=q.code.take k) (fun k=>p.code.length - k) (0) (⟨aU _,rfl⟩) fun k=>fun hk=>?_
 obtain ⟨hk1,hk2⟩:=hk
 refine cF 10 [0] ?_
 refine dN (fun hc1=>?_) fun hc1=>?_
 refine cF 5 [] ?_
 refine eB [0,1] [] T.mixed [[0],[1,0],[2]] ?_
 refine jC (α:=Sl.Instr) 3 T.sl23 ?_
 refine pN 4 T.agg211 ?_
 refine eJ [[5],[6,1],[7]] ?_
 refine jC (α:=Sl.Instr) 8 T.sl23 ?_
 refine pN 9 T.agg211 ?_
 refine gD 10 [] rfl (Tb T.ai211 rfl rfl) ?_
 refine dV ?_
 refine cE ?_
 refine dN (fun hc2=>?_) fun hc2=>?_
 refine bE 11 [] ?_
 refine bO ?_
 rotate_left
 refine bE 8 [] ?_
 rotate_left
 refine cF 12 [] ?_
 rotate_left
 · refine ⟨?_,rfl,rfl⟩
   have:p≠q:=by rintro rfl;exact hc2 rfl
   simp [this]
 · refine cS (k+1) ?_ ?_
   · exact ⟨by omega,De sV sV hk2 (bD.1 hc2)⟩
   omega
 have hcode:p.code=q.code:=by
  have:k=p.code.length:=sV
  subst this
  rw [eQ,dD sV] at hk2
  exact hk2
 clear hk1 hk2 hc1
 refine gC (ι:=Nat) (fun k=>([(6,.int .i64 (k:Int)),(3,.pointer (some ⟨b2,0,none⟩)),(2,.pointer (some ⟨b1,0,none⟩))],[(1,some b2,.cells #[.int .i64 q.ins,.int .i64 q.regs,.slice bc q.code.length dc,.slice bo q.outs.length do_] 26),(0,some b1,.cells #[.int .i64 p.ins,.int .i64 p.regs,.slice ac p.code.length cc,.slice ao p.outs.length co] 26)])) (fun k=>k≤p.outs.length∧p.outs.take k=q.outs.take k) (fun k=>p.outs.length - k) (0) (⟨aU _,rfl⟩) fun k=>fun hk=>?_
 obtain ⟨hk1,hk2⟩:=hk
 refine cF 10 [0] ?_
 refine dN (fun hc1=>?_) fun hc1=>?_
 refine cF 5 [] ?_
 refine eB [0,1] [] T.mixed [[0],[1,0],[2]] ?_
 refine jC (α:=Int) 3 T.sl24 ?_
 refine pA 4 [0] 0 T.one3 ?_
 refine eJ [[5],[6,1],[7]] ?_
 refine jC (α:=Int) 8 T.sl24 ?_
 refine pA 9 [0] 0 T.one3 ?_
 refine eJ [[10]] ?_
 refine dV ?_
 refine cE ?_
 refine dN (fun hc2=>?_) fun hc2=>?_
 refine bE 11 [] ?_
 refine bO ?_
 rotate_left
 refine bE 8 [] ?_
 rotate_left
 refine bE 11 [] ?_
 refine bO ?_
 rotate_left
 · refine ⟨?_,rfl,rfl⟩
   have:p≠q:=by rintro rfl;exact hc2 rfl
   simp [this]
 · refine cS (k+1) ?_ ?_
   · exact ⟨by omega,De sV sV hk2 (bD.1 hc2)⟩
   omega
 refine ⟨?_,rfl,rfl⟩
 have houts:p.outs=q.outs:=by
  have:k=p.outs.length:=sV
  subst this
  rw [eQ,dD sV] at hk2
  exact hk2
 have:p=q:=by cases p;cases q;simp_all
 simp [this]
theorem c28 (G:Imm) (k1 k2:Int) (pl:List R2) (pa qa:Option Addr) (pc qc:Nat) (xp yp zp:PV) (xac xao yac yao zac zao uac uao vac vao wac wao:Option Addr) (xcc xoc ycc yoc zcc zoc ucc uoc vcc voc wcc woc:Nat) (hpa:Arr G pa pl) (hqa:Arr G qa pl) (hpl:pl.length≤1048576) (hxc:Arr G xac xp.code) (hxo:Arr G xao xp.outs) (hyc:Arr G yac yp.code) (hyo:Arr G yao yp.outs) (hzc:Arr G zac zp.code) (hzo:Arr G zao zp.outs) (huc:Arr G uac xp.code) (huo:Arr G uao xp.outs) (hvc:Arr G vac yp.code) (hvo:Arr G vao yp.outs) (hwc:Arr G wac zp.code) (hwo:Arr G wao zp.outs) (hx1:xp.code.length≤1048576) (hx2:xp.outs.length≤1048576) (hy1:yp.code.length≤1048576) (hy2:yp.outs.length≤1048576) (hz1:zp.code.length≤1048576) (hz2:zp.outs.length≤1048576) :
 Does Tryz.prog 28 [.agg #[.int .i64 k1,.int .i64 k2,.slice pa pl.length pc,.int .i64 xp.ins,.int .i64 xp.regs,.slice xac xp.code.length xcc,.slice xao xp.outs.length xoc,.int .i64 yp.ins,.int .i64 yp.regs,.slice yac yp.code.length ycc,.slice yao yp.outs.length yoc,.int .i64 zp.ins,.int .i64 zp.regs,.slice zac zp.code.length zcc,.slice zao zp.outs.length zoc],.agg #[.int .i64 k1,.int .i64 k2,.slice qa pl.length qc,.int .i64 xp.ins,.int .i64 xp.regs,.slice uac xp.code.length ucc,.slice uao xp.outs.length uoc,.int .i64 yp.ins,.int .i64 yp.regs,.slice vac yp.code.length vcc,.slice vao yp.outs.length voc,.int .i64 zp.ins,.int .i64 zp.regs,.slice wac zp.code.length wcc,.slice wao zp.outs.length woc]] G []
  (fun v G' Ho=>v=.bool (decide (1=1))∧G'=G∧Ho=[]):=by
 refine D0 Tryz.func28 Tryz.ntmps28 fun w=>?_
 refine aK 2 [] ?_
 refine cV 0 fun b1=>?_
 refine cV 1 fun b2=>?_
 refine aJ 12 [0,1] ?_
 refine jV 11 ?_
 refine aA 12 [0,1] ?_
 refine jV 18 ?_
 refine bJ 27 [0,1,0] ?_
 refine gC (ι:=Nat) (fun k=>([(5,.int .i64 (k:Int)),(3,.pointer (some ⟨b2,0,none⟩)),(2,.pointer (some ⟨b1,0,none⟩))],[(1,some b2,.cells #[.int .i64 k1,.int .i64 k2,.slice qa (List.length pl) qc,.int .i64 xp.ins,.int .i64 xp.regs,.slice uac xp.code.length ucc,.slice uao xp.outs.length uoc,.int .i64 yp.ins,.int .i64 yp.regs,.slice vac yp.code.length vcc,.slice vao yp.outs.length voc,.int .i64 zp.ins,.int .i64 zp.regs,.slice wac zp.code.length wcc,.slice wao zp.outs.length woc] 28),(0,some b1,.cells #[.int .i64 k1,.int .i64 k2,.slice pa (List.length pl) pc,.int .i64 xp.ins,.int .i64 xp.regs,.slice xac xp.code.length xcc,.slice xao xp.outs.length xoc,.int .i64 yp.ins,.int .i64 yp.regs,.slice yac yp.code.length ycc,.slice yao yp.outs.length yoc,.int .i64 zp.ins,.int .i64 zp.regs,.slice zac zp.code.length zcc,.slice zao zp.outs.length zoc] 28)])) (fun k=>k≤pl.length) (fun k=>pl.length - k) (0) (aU _) fun k=>fun (hk:k≤pl.length)=>?_
 refine cF 10 [0] ?_
 refine dN (fun hc1=>?_) fun hc1=>?_
 refine cF 5 [] ?_
 refine eB [0,1] [] T.mixed [[0],[1,0],[2]] ?_
 refine jC (α:=R2) 3 T.sl22 ?_
 refine pN 4 T.agg51 ?_
 refine eJ [[5],[6,1],[7]] ?_
 refine jC (α:=R2) 8 T.sl22 ?_
 refine pN 9 T.agg51 ?_
 refine gD 10 [] rfl (Qq [_,_] [_,_] T.ai51 rfl rfl rfl rfl) ?_
 refine dV ?_
 refine cE ?_
 refine dN (fun hc2=>?_) fun hc2=>?_
 refine bE 11 [] ?_
 refine bO ?_
 rotate_left
 refine bE 8 [] ?_
 rotate_left
 refine aK 8 [] ?_
 refine aN (eL 0 T.agg26 rfl rfl rfl rfl) ?_
 refine aA 1 [] ?_
 refine aN (eL 1 T.agg26 rfl rfl rfl rfl) ?_
 refine bW rfl (bu _ _ _ _ _ _ _ _ _ _ _ sW sW sW sW sV sV) ?_
 refine aA 1 [] ?_
 apply cW 6 50 56 rfl
 intro hg1
 refine aA 3 [] ?_
 refine aN (eL 0 T.agg26 rfl rfl rfl rfl) ?_
 refine aA 3 [] ?_
 refine aN (eL 1 T.agg26 rfl rfl rfl rfl) ?_
 refine aA 1 [] ?_
 refine bW rfl (bu _ _ _ _ _ _ _ _ _ _ _ sW sW sW sW sV sV) ?_
 refine aA 1 [] ?_
 exact cU 6 0
 intro hg1
 refine aA 6 [] ?_
 exact cU 6 0
 refine aA 1 [] ?_
 apply cW 6 57 63 rfl
 intro hg1
 refine aA 3 [] ?_
 refine aN (eL 0 T.agg26 rfl rfl rfl rfl) ?_
 refine aA 3 [] ?_
 refine aN (eL 1 T.agg26 rfl rfl rfl rfl) ?_
 refine aA 1 [] ?_
 refine bW rfl (bu _ _ _ _ _ _ _ _ _ _ _ sW sW sW sW sV sV) ?_
 refine aA 1 [] ?_
 exact cU 6 0
 intro hg1
 refine aA 6 [] ?_
 exact cU 6 0
 refine aW 4 [] ?_
 refine bO ?_
 rotate_left
 · exact absurd rfl sW
 · refine cS (k+1) ?_ ?_
   · omega
   omega
 exact ⟨by simp,rfl,rfl⟩
end Go.Proofs.YtngphgeghfdjbaaGreatDoor
namespace Go.Sl
open Go
section
variable {P:Program} {B:Bs} {e:Env} {D:List Deferred} {H H':Hp} {G:Imm}
end
abbrev bv (x y:Option Nat×Obj) (T:Hp):Hp:=(0,x) :: (1,y) :: T.shift 2
section
variable {P:Program} {ops:Array Oper} {rest:List Oper} {B:Bs} {e:Env} {D:List Deferred} {H:Hp} {G:Imm} {K:Act→World→Prop}
 {ty:TypeId} {pos:String} {after:Array Edge} {d:Nat}
end
section
variable {P:Program} {B:Bs} {e:Env} {D:List Deferred} {H:Hp} {G:Imm}
theorem Xo {ι:Type} {I:ι→Env×Hp} {T:ι→Hp} {g:ι→Imm} {k:Nat} {φ:ι→Prop} {μ:ι→Nat} {m:Nat} {Q:Exit→Act→World→Prop} (j:ι) (hφ:φ j) (hμ:μ j<m) (hg:G=g j)
 (he:e.sub (I j).1) (hH:H.sub (I j).2) (ht:H.tl k (T j)):Ar (Exit.then (Ef B (fun i=>⟨(I i).1,D,(I i).2++(T i).shift k,g i⟩) φ μ m) Q) .normal B ⟨e,D,H,G⟩:=
 fun a w hh=>⟨j,hφ,hμ,by rw [hg] at hh;exact hh.cutT he hH ht⟩
end
section stmt
variable {P:Program} {B:Bs} {e:Env} {D:List Deferred} {H:Hp} {G:Imm}
variable {β γ ι:Type} {Q:Exit→Act→World→Prop} {f:FuncId} {caps:List Value} {enc:β→γ→List Value} {o1 o2:β→γ→Option Nat×Obj} {good:β→γ→Prop} {xs:List β} {ps:List Nat} {assign body:Code} {g:Operand}
end stmt
section
variable {P:Program} {e:Env} {H:Hp} {G:Imm} {ty:TypeId}
end
abbrev bw:=(Option Nat×Obj)×(Option Nat×Obj)
def Hp.keep (t:Nat):List bw→Hp
 | []=>[]
 | z :: zs=>(t,z.1) :: (t+1,z.2) :: Hp.keep (t+2) zs
section
variable {P:Program} {B:Bs} {e:Env} {D:List Deferred} {H:Hp} {G:Imm}
end
def CellsAt (G:Imm) (b:Nat) (cs:List Value):Prop:=G.row b 0 cs
theorem CellsAt.up {G G':Imm} {b:Nat} {cs:List Value} (h:CellsAt G b cs) (hl:G.le G'):CellsAt G' b cs:=Ke hl h
theorem CellsAt.cell {G:Imm} {b k:Nat} {cs:List Value} {v:Value} (h:CellsAt G b cs) (hv:cs[k]?=some v):G.cell b k=some v:=by
 have:=h k v hv
 rwa [cH] at this
theorem CellsAt.of {G:Imm} {b:Nat} {cs:List Value} {bt:TypeId} {fz:Nat×Nat} (h:G b=some (.cells cs.toArray bt fz)):CellsAt G b cs:=fun i v hi=>by
 simp only [Imm.cell,h,cH,nJ];exact hi
abbrev pB:=@CellsAt.of
section
variable {P:Program} {e:Env} {H:Hp} {G:Imm} {ty T:TypeId}
theorem JA {x:Operand} {b off:Nat} {cs:List Value} {v:Value} (h1:vK P T=true) (hx:e.ev x=some (.pointer (some ⟨b,off,none⟩))) (h:CellsAt G b cs) (hv:cs[off]?=some v):Qy P (.load T x) ty e H G v:=dZ h1 hx (h.cell hv)
abbrev gS:=@JA
end
def Xp (P:Program) (t:TypeId):Bool:=match P.underlying t with | some (.pointer _)=>true | _=>false
theorem Dw {P:Program} {t:TypeId} {a:Option Addr} (ht:Xp P t=true) (d:Nat) (w:World):(Op.equalIn (d+1) t (.pointer a) (.pointer none)).run P w=.ok (decide (a=none)) w:=by
 unfold Xp at ht
 split at ht
 · rename_i e h
   cases a <;> simp [Op.equalIn,aV h]
 cases ht
section
variable {P:Program} {e:Env} {H:Hp} {G:Imm} {ty:TypeId}
theorem Qy.eqlPtrNil {t t':TypeId} {x y:Operand} {a:Option Addr} (ht:Xp P t=true) (hx:e.ev x=some (.pointer a)) (hy:e.ev y=some (.pointer none)):Qy P (.binOp .eql t x y t') ty e H G (.bool (decide (a=none))):=fun w0 w _ _ _ _ hh=>by
 have h:=Dw (a:=a) ht 9999 w
 simp [execOp,hh.eval hx,hh.eval hy,binOp,eqGuard,Op.equal,Op.maxDepth,h]
end
theorem Does.frzAll {P:Program} {f:FuncId} {args:List Value} {G:Imm} {Hi:Hp} {post:Value→Imm→Hp→Prop} (h:Does P f args G Hi post) :
 Does P f args G Hi (fun v G' Ho=>∃ G0 Ho0,post v G0 Ho0∧G0.le G'∧Kp Ho0 G'∧Ho=[]):=by
 intro w hw
 refine (h w hw).mono fun x w' ⟨v,G0,Ho0,h1,h2,h3,h4,h5,h6,h7⟩=>?_
 obtain ⟨Gx,g1,g2,g3,g4⟩:=h2.lend
 refine ⟨v,Gx,[],h1,g3,aZ h3 g1,h4,fun b hb h0=>?_,fun t b o hx=>by simp [Hp.get] at hx,G0,Ho0,h7,g1,g2,rfl⟩
 by_cases hg:G0 b=none
 · obtain ⟨t,o,ht⟩:=g4 b hb hg
   exact h6 t b o ht
 exact h5 b hg h0
end Go.Sl
namespace Go.Proofs.YtngphgeghfdjbaaGreatDoor
open Go Go.Sl
structure UH where
 pa:Option Addr
 pc:Nat
 xa:Option Addr
 xc:Nat
 xo:Option Addr
 xd:Nat
 ya:Option Addr
 yc:Nat
 yo:Option Addr
 yd:Nat
 za:Option Addr
 zc:Nat
 zo:Option Addr
 zd:Nat
def uC (u:UV) (h:UH):List Value:=[.int .i64 u.k1,.int .i64 u.k2,.slice h.pa u.pl.length h.pc,.int .i64 u.x.ins,.int .i64 u.x.regs,.slice h.xa u.x.code.length h.xc,.slice h.xo u.x.outs.length h.xd,.int .i64 u.y.ins,.int .i64 u.y.regs,.slice h.ya u.y.code.length h.yc,.slice h.yo u.y.outs.length h.yd,.int .i64 u.z.ins,.int .i64 u.z.regs,.slice h.za u.z.code.length h.zc,.slice h.zo u.z.outs.length h.zd]
structure UIn (G:Imm) (u:UV) (h:UH):Prop where
 cap:u.pl.length≤h.pc
 pl:Arr G h.pa u.pl
 xc:Arr G h.xa u.x.code
 xo:Arr G h.xo u.x.outs
 yc:Arr G h.ya u.y.code
 yo:Arr G h.yo u.y.outs
 zc:Arr G h.za u.z.code
 zo:Arr G h.zo u.z.outs
theorem UIn.up {G G':Imm} {u:UV} {h:UH} (i:UIn G u h) (hl:G.le G'):UIn G' u h:=⟨i.cap,i.pl.up hl,i.xc.up hl,i.xo.up hl,i.yc.up hl,i.yo.up hl,i.zc.up hl,i.zo.up hl⟩
structure MidU (u:UV):Prop where
 pl:u.pl.length≤1048576
 x1:u.x.code.length≤16384
 x2:u.x.outs.length≤1048576
 y1:u.y.code.length≤16384
 y2:u.y.outs.length≤1048576
 z1:u.z.code.length≤16384
 z2:u.z.outs.length≤1048576
structure UJ where
 p:List Value
 x:List Value
 a:List Value
 y:List Value
 b:List Value
 z:List Value
 c:List Value
def AK (t:Nat) (u:UV) (h:UH) (j:UJ):Hp:=[(t,h.pa.map (·.block),tK 51 u.pl j.p),(t+1,h.xa.map (·.block),tK 211 u.x.code j.x),(t+2,h.xo.map (·.block),tK 3 u.x.outs j.a),(t+3,h.ya.map (·.block),tK 211 u.y.code j.y),(t+4,h.yo.map (·.block),tK 3 u.y.outs j.b),(t+5,h.za.map (·.block),tK 211 u.z.code j.z),(t+6,h.zo.map (·.block),tK 3 u.z.outs j.c)]
structure UOwn (u:UV) (h:UH) (j:UJ):Prop where
 pl:OwnA h.pa h.pc u.pl j.p
 xc:OwnA h.xa h.xc u.x.code j.x
 xo:OwnA h.xo h.xd u.x.outs j.a
 yc:OwnA h.ya h.yc u.y.code j.y
 yo:OwnA h.yo h.yd u.y.outs j.b
 zc:OwnA h.za h.zc u.z.code j.z
 zo:OwnA h.zo h.zd u.z.outs j.c
theorem UOwn.lent {u:UV} {h:UH} {j:UJ} {H:Hp} {G:Imm} (o:UOwn u h j) (hb:Kp H G) {t:Nat} (h0:H.get t=some (h.pa.map (·.block),tK 51 u.pl j.p)) (h1:H.get (t+1)=some (h.xa.map (·.block),tK 211 u.x.code j.x)) (h2:H.get (t+2)=some (h.xo.map (·.block),tK 3 u.x.outs j.a)) (h3:H.get (t+3)=some (h.ya.map (·.block),tK 211 u.y.code j.y)) (h4:H.get (t+4)=some (h.yo.map (·.block),tK 3 u.y.outs j.b)) (h5:H.get (t+5)=some (h.za.map (·.block),tK 211 u.z.code j.z)) (h6:H.get (t+6)=some (h.zo.map (·.block),tK 3 u.z.outs j.c)):UIn G u h:=
 ⟨o.pl.le,nI hb _ h0 o.pl,nI hb _ h1 o.xc,nI hb _ h2 o.xo,nI hb _ h3 o.yc,nI hb _ h4 o.yo,nI hb _ h5 o.zc,nI hb _ h6 o.zo⟩
theorem ce (G:Imm) (u:UV) (h:UH) (i:UIn G u h) (m:MidU u) :
 Does Tryz.prog 69 [.agg (uC u h).toArray] G [] (fun v G' Ho=>v=.tuple #[.int .i64 (uG u.k1 u.k2 u.pl u.x u.y u.z).1,.int .i64 (uG u.k1 u.k2 u.pl u.x u.y u.z).2]∧Ho=[]):=
 c69 G u.k1 u.k2 u.pl h.pa h.pc u.x u.y u.z h.xa h.xo h.ya h.yo h.za h.zo h.xc h.xd h.yc h.yd h.zc h.zd i.pl i.cap m.pl i.xc i.xo m.x1 m.x2 i.yc i.yo m.y1 m.y2 i.zc i.zo m.z1 m.z2
theorem UO (G:Imm) (u:UV) (h:UH) (i:UIn G u h) (m:MidU u) :
 Does Tryz.prog 26 [.agg (uC u h).toArray] G [] (fun v G' Ho=>v=.tuple #[.int .i64 (uG u.k1 u.k2 u.pl u.x u.y u.z).1,.int .i64 (uG u.k1 u.k2 u.pl u.x u.y u.z).2]∧Ho=[]):=
 c26 G u.k1 u.k2 u.pl h.pa h.pc u.x u.y u.z h.xa h.xo h.ya h.yo h.za h.zo h.xc h.xd h.yc h.yd h.zc h.zd i.pl i.cap m.pl i.xc i.xo m.x1 m.x2 i.yc i.yo m.y1 m.y2 i.zc i.zo m.z1 m.z2
theorem UP (G:Imm) (u:UV) (h h':UH) (i:UIn G u h) (i':UIn G u h') (m:MidU u) :
 Does Tryz.prog 28 [.agg (uC u h).toArray,.agg (uC u h').toArray] G [] (fun v G' Ho=>v=.bool (decide (1=1))∧G'=G∧Ho=[]):=
 c28 G u.k1 u.k2 u.pl h.pa h'.pa h.pc h'.pc u.x u.y u.z h.xa h.xo h.ya h.yo h.za h.zo h'.xa h'.xo h'.ya h'.yo h'.za h'.zo h.xc h.xd h.yc h.yd h.zc h.zd h'.xc h'.xd h'.yc h'.yd h'.zc h'.zd i.pl i'.pl m.pl i.xc i.xo i.yc i.yo i.zc i.zo i'.xc i'.xo i'.yc i'.yo i'.zc i'.zo (aO m.x1 tF) m.x2 (aO m.y1 tF) m.y2 (aO m.z1 tF) m.z2
end Go.Proofs.YtngphgeghfdjbaaGreatDoor
namespace Go.Sl.Ez
open Go Go.Sl
section
variable {P:Program} {w:World}
theorem run_mark {t e:TypeId} {b o n c:Nat} {cs:Array Value} {ty:TypeId} (ht:P.underlying t=some (.slice e)) (he:P.underlying e=some (.int .u8)) (hb:w.heap[b]?=some (.cells cs ty (0,0))) :
 (convert t t (.slice (some ⟨b,o,none⟩) n c)).run P w=.ok (.slice (some ⟨b,o,none⟩) n c) (w.freeze ⟨b,cs.size,none⟩ 1):=by
 have hsh:w.shape? b=some (ty,cs.size):=by unfold World.shape?;rw [hb]
 simp [convert,aV ht,aV he,markStringish,hsh]
theorem freeze_upd {b k:Nat}:Upd (·=b) w (w.freeze ⟨b,k,none⟩ 1):=⟨rfl,rfl,rfl,by simp [World.freeze],fun j _ hj=>by
 have hj':b≠j:=fun e=>hj e.symm
 simp [World.freeze,kN,hj']⟩
theorem freeze_at {b k:Nat} {cs:Array Value} {ty:TypeId} (hb:w.heap[b]?=some (.cells cs ty (0,0))):(w.freeze ⟨b,k,none⟩ 1).heap[b]?=some (.cells cs ty (k,k+1)):=by
 simp [World.freeze,kN,hb]
end
section
variable {P:Program} {e:Env} {H:Hp} {G:Imm} {ty T:TypeId}
theorem Qy.indexV {x i:Operand} {n E:Nat} {k:IntKind} {m:Int} {vs:List Value} {v:Value} (hu:P.underlying T=some (.array n E)) (h1:vK P E=true) (hs:(P.info? E).map (·.size)=some 1) (hx:e.ev x=some (.agg vs.toArray)) (hi:e.ev i=some (.int k m))
 (hb:0≤m∧m<n) (hv:vs[m.toNat]?=some v):Qy P (.index T x i) ty e H G v:=fun a w _ _ _ _ hh=>by
 simp [execOp,Instr.index,hh.eval hx,hh.eval hi,asIntOf,aV hu,hb,run_sizeOf w hs,part,vW w h1,hv]
end
end Go.Sl.Ez
namespace Go.Proofs.YtngphgeghfdjbaaGreatDoor
open Go Go.Sl
theorem JB {n k:Nat} (hk:1≤k):LL n k=if n / k*k<n then n / k+1 else n / k:=by
 unfold LL
 have h1:=gU n k
 have h2:=nQ n hk
 have h3:n / k*k=k*(n / k):=iD _ _
 split
 · rw [show n+k - 1=(n % k - 1)+k*(n / k+1) by rw [oD,qO];omega,Nat.add_mul_div_left _ _ hk,Nat.div_eq_of_lt sV];omega
 rw [show n+k - 1=(k - 1)+k*(n / k) by omega,Nat.add_mul_div_left _ _ hk,Nat.div_eq_of_lt sV];omega
theorem UQ (a b:Nat):(if (a:Int)<(b:Int) then (b:Int) else (a:Int))=((max a b:Nat):Int):=by split <;> omega
theorem cf {n1 n2 k1 k2:Nat} {th:Int}:((if th<1 then 1 else th)<(if (n2:Int)<(n1:Int) then (n2:Int) else (n1:Int))∧(blkP n1 n2 k1 k2:Int)<if (n1:Int)<(n2:Int) then (n2:Int) else (n1:Int))↔vT n1 n2 k1 k2 th:=by
 unfold vT
 split <;> split <;> split <;> constructor <;> intro h <;> omega
theorem cj {n1 n2 k1 k2:Nat} {th:Int}:(((if th<1 then 1 else th)<(n1:Int)∧(if th<1 then 1 else th)<(n2:Int))∧(blkP n1 n2 k1 k2:Int)<if (n1:Int)<(n2:Int) then (n2:Int) else (n1:Int))↔vT n1 n2 k1 k2 th:=by
 unfold vT
 split <;> split <;> constructor <;> intro h <;> omega
theorem UR (G:Imm) (n k:Nat) (hn:n≤1048576) (hk:1≤k∧k≤8) :
 Does Tryz.prog 147 [.int .i64 (n:Int),.int .i64 (k:Int)] G [] (fun v G' Ho=>v=.int .i64 (LL n k:Int)∧G'=G∧Ho=[]):=by
 refine fS Tryz.func147 rfl Tryz.ntmps147 rfl fun w=>?_
 refine aK 12 [] ?_
 refine eK rfl (lX rfl rfl sV) ?_
 refine aW 4 [] ?_
 refine bO ?_
 refine ⟨?_,rfl,rfl⟩
 rw [show ((n:Int)+(k:Int) - 1)=((n+k - 1:Nat):Int) by omega,←Int.natCast_ediv];rfl
theorem ck (G:Imm) (n1 n2 k1 k2:Nat) (h1:n1≤4096) (h2:n2≤4096) (h3:1≤k1∧k1≤8) (h4:1≤k2∧k2≤8) :
 Does Tryz.prog 146 [.int .i64 (n1:Int),.int .i64 (n2:Int),.int .i64 (k1:Int),.int .i64 (k2:Int)] G [] (fun v G' Ho=>v=.bool (decide (1=1))∧G'=G∧Ho=[]):=by
 refine fS Tryz.func146 rfl Tryz.ntmps146 rfl fun w=>?_
 refine aK 10 [] ?_
 refine eK rfl (sQ (cs:=[_,_]) T.ar279 rfl rfl rfl) ?_
 refine bJ 4 [] ?_
 refine Ku (mZ ?_)
 refine aK 13 [1] ?_
 refine eK rfl (Ez.Qy.indexV (n:=2) (E:=3) tC tC tC rfl rfl tF rfl) ?_
 refine aJ 8 [] ?_
 refine rJ 21 rfl uU ?_
 refine aW 15 [0] ?_
 refine cZ 16 rfl (show _=Value.int .i64 (1:Int) from rfl) ?_
 refine rE (mZ ?_)
 refine aK 13 [1] ?_
 refine eK rfl (Ez.Qy.indexV (n:=2) (E:=3) tC tC tC rfl rfl tF rfl) ?_
 refine aJ 8 [] ?_
 refine rJ 21 rfl uU ?_
 refine aW 15 [0] ?_
 refine cZ 16 rfl (show _=Value.int .i64 (2:Int) from rfl) ?_
 refine rE (mZ ?_)
 refine aK 17 [0] ?_
 refine eK rfl (sQ (cs:=[_,_]) T.ar279 rfl rfl rfl) ?_
 refine bJ 4 [] ?_
 refine Ku (mZ ?_)
 refine aK 13 [1] ?_
 refine eK rfl (Ez.Qy.indexV (n:=2) (E:=3) tC tC tC rfl rfl tF rfl) ?_
 refine aJ 8 [] ?_
 refine rJ 34 rfl uU ?_
 refine aW 15 [0] ?_
 refine cZ 29 rfl (show _=Value.int .i64 (1:Int) from rfl) ?_
 refine rE (mZ ?_)
 refine aK 13 [1] ?_
 refine eK rfl (Ez.Qy.indexV (n:=2) (E:=3) tC tC tC rfl rfl tF rfl) ?_
 refine aJ 8 [] ?_
 refine rJ 34 rfl uU ?_
 refine aW 15 [0] ?_
 refine cZ 29 rfl (show _=Value.int .i64 (2:Int) from rfl) ?_
 refine rE (mZ ?_)
 refine bE 18 [0] ?_
 refine bO ?_
 exact ⟨rfl,rfl,rfl⟩
theorem c92 (G:Imm) (n1 n2 k1 k2:Nat) (h1:n1≤4096) (h2:n2≤4096) (h3:1≤k1∧k1≤8) (h4:1≤k2∧k2≤8) :
 Does Tryz.prog 92 [.int .i64 (n1:Int),.int .i64 (n2:Int),.int .i64 (k1:Int),.int .i64 (k2:Int)] G [] (fun v G' Ho=>v=.tuple #[.int .i64 (blkP n1 n2 k1 k2:Int),.int .i64 0]∧G'=G∧Ho=[]):=by
 refine fS Tryz.func92 rfl Tryz.ntmps92 rfl fun w=>?_
 refine aK 13 [] ?_
 refine bW rfl (ck _ _ _ _ _ sV sV sV sV) ?_
 refine eK rfl (dK rfl) ?_
 refine aJ 9 [0] ?_
 refine bW rfl (UR _ _ _ sV sV) ?_
 refine aA 2 [] ?_
 refine bW rfl (UR _ _ _ sV sV) ?_
 refine eK rfl (sO rfl rfl) ?_
 refine aW 5 [] ?_
 refine eG ?_
 exact ⟨by rw [UQ];rfl,rfl,rfl⟩
theorem c40 (G:Imm) (n1 n2 k1 k2:Nat) (th:Int) (h1:n1≤4096) (h2:n2≤4096) (h3:1≤k1∧k1≤8) (h4:1≤k2∧k2≤8) :
 Does Tryz.prog 40 [.int .i64 (n1:Int),.int .i64 (n2:Int),.int .i64 (k1:Int),.int .i64 (k2:Int),.int .i64 th] G [] (fun v G' Ho=>v=.tuple #[.bool (decide (vT n1 n2 k1 k2 th)),.int .i64 0]∧G'=G∧Ho=[]):=by
 refine fS Tryz.func40 rfl Tryz.ntmps40 rfl fun w=>?_
 refine aK 12 [] ?_
 refine bW rfl (c92 _ _ _ _ _ sV sV sV sV) ?_
 refine aJ 21 [0] ?_
 refine eK rfl (Qy.min rfl rfl) ?_
 refine aA 1 [] ?_
 refine eK rfl (sO rfl rfl) ?_
 refine aA 2 [] ?_
 apply cW 6 31 37 rfl
 intro hg1
 refine aA 7 [] ?_
 refine eK rfl (sO rfl rfl) ?_
 refine aA 3 [] ?_
 exact fJ 6 0 rfl rfl rfl rfl rfl
 intro hg1
 refine aA 6 [] ?_
 exact fJ 6 0 rfl rfl rfl rfl rfl
 refine aW 5 [] ?_
 refine eG ?_
 exact ⟨congrArg (fun b=>Value.tuple #[Value.bool b,.int .i64 0]) (fX.2 cf),rfl,rfl⟩
theorem c80 (G:Imm) (u:UV) (h:UH) (b:Nat) (k1 k2 n1 n2:Nat) (th:Int) (hb:CellsAt G b (uC u h)) (e1:u.k1=(k1:Int)) (e2:u.k2=(k2:Int)) (h1:n1≤4096) (h2:n2≤4096) (h3:1≤k1∧k1≤8) (h4:1≤k2∧k2≤8) :
 Does Tryz.prog 80 [.pointer (some ⟨b,0,none⟩),.int .i64 (n1:Int),.int .i64 (n2:Int),.int .i64 th] G [] (fun v G' Ho=>v=.tuple #[.int .i64 (blkP n1 n2 k1 k2:Int),.bool (decide (vT n1 n2 k1 k2 th))]∧G'=G∧Ho=[]):=by
 have hb0:G.cell b 0=some (.int .i64 (k1:Int)):=by rw [←e1];exact hb.cell rfl
 have hb1:G.cell b 1=some (.int .i64 (k2:Int)):=by rw [←e2];exact hb.cell rfl
 refine fS Tryz.func80 rfl Tryz.ntmps80 rfl fun w=>?_
 refine cF 7 [] ?_
 refine oL [] [] T.mixed rfl ?_
 refine fM 0 [] [] ?_
 refine fM 1 [] [] ?_
 refine fM 2 [] [] ?_
 refine fM 3 [] [] ?_
 refine fM 4 [] [] ?_
 refine fM 5 [] [] ?_
 refine gD 6 [] rfl (dZ T.one3 rfl sW) ?_
 refine fM 7 [] [] ?_
 refine fM 8 [] [] ?_
 refine fM 9 [] [] ?_
 refine fM 10 [] [] ?_
 refine gD 11 [] rfl (dZ T.one3 rfl sW) ?_
 refine fM 12 [] [] ?_
 refine Gm.one 13 trivial BE tC rfl ?_
 refine bW rfl (c40 _ _ _ _ _ _ sV sV sV sV) ?_
 refine dW ?_
 refine fM 14 [] [] ?_
 refine fM 15 [] [] ?_
 refine fM 16 [] [] ?_
 refine fM 17 [] [] ?_
 refine fM 18 [] [] ?_
 refine qU tC trivial BE ?_
 refine oJ 2 [] ?_
 refine oL [] [] T.mixed rfl ?_
 refine fM 0 [] [] ?_
 refine fM 1 [] [] ?_
 refine fM 2 [] [] ?_
 refine fM 3 [] [] ?_
 refine fM 4 [] [] ?_
 refine fM 5 [] [] ?_
 refine gD 6 [] rfl (dZ T.one3 rfl sW) ?_
 refine fM 7 [] [] ?_
 refine fM 8 [] [] ?_
 refine fM 9 [] [] ?_
 refine fM 10 [] [] ?_
 refine gD 11 [] rfl (dZ T.one3 rfl sW) ?_
 refine Gm.one 12 trivial BE tC rfl ?_
 refine bW rfl (c92 _ _ _ _ _ sV sV sV sV) ?_
 refine dW ?_
 refine fM 13 [] [] ?_
 refine fM 14 [] [] ?_
 refine fM 15 [] [] ?_
 refine fM 16 [] [] ?_
 refine fM 17 [] [] ?_
 refine qU tC trivial BE ?_
 refine gZ 10 [] ?_
 refine eG ?_
 exact ⟨rfl,rfl,rfl⟩
theorem c86 (G:Imm) (n k:Nat) (hn:n≤1048576) (hk:1≤k∧k≤8) :
 Does Tryz.prog 86 [.int .i64 (n:Int),.int .i64 (k:Int)] G [] (fun v G' Ho=>v=.int .i64 (LL n k:Int)∧G'=G∧Ho=[]):=by
 have hq:((n:Int) / (k:Int))=((n / k:Nat):Int):=(Int.natCast_ediv n k).symm
 have hq0:0≤(n:Int) / (k:Int):=by rw [hq];exact kB _
 have hqb:n / k≤n:=Nat.div_le_self _ _
 have hqm:n / k*k≤n:=Nat.div_mul_le_self _ _
 have hN:(n:Int) / (k:Int)*(k:Int)=((n / k*k:Nat):Int):=by rw [hq,cJ]
 have hI:0≤(n:Int) / (k:Int)*(k:Int)∧(n:Int) / (k:Int)*(k:Int)≤(n:Int):=by
  rw [hN]
  exact ⟨kB _,oS.2 hqm⟩
 refine fS Tryz.func86 rfl Tryz.ntmps86 rfl fun w=>?_
 refine aK 9 [] ?_
 refine eK rfl (lX rfl rfl sV) ?_
 refine aJ 8 [] ?_
 refine eK rfl (mE rfl rfl sV) ?_
 refine bJ 4 [] ?_
 refine lW rfl (fun hc1=>?_) fun hc1=>?_
 refine bE 13 [] ?_
 refine bO ?_
 rotate_left
 refine bE 9 [] ?_
 refine bO ?_
 rotate_left
 · refine ⟨congrArg _ ?_,rfl,rfl⟩
   rw [JB hk.1,aR (by omega)]
   omega
 refine ⟨congrArg _ ?_,rfl,rfl⟩
 rw [JB hk.1,aL (by omega)]
 omega
theorem cl (G:Imm) (n1 n2 k1 k2:Nat) (h1:n1≤4096) (h2:n2≤4096) (h3:1≤k1∧k1≤8) (h4:1≤k2∧k2≤8) :
 Does Tryz.prog 34 [.int .i64 (n1:Int),.int .i64 (n2:Int),.int .i64 (k1:Int),.int .i64 (k2:Int)] G [] (fun v G' Ho=>v=.int .i64 (blkP n1 n2 k1 k2:Int)∧G'=G∧Ho=[]):=by
 refine fS Tryz.func34 rfl Tryz.ntmps34 rfl fun w=>?_
 refine aK 9 [] ?_
 refine bW rfl (c86 _ _ _ sV sV) ?_
 refine aA 2 [] ?_
 refine bW rfl (c86 _ _ _ sV sV) ?_
 refine eK rfl (sO rfl rfl) ?_
 refine aW 4 [] ?_
 refine bO ?_
 exact ⟨by rw [UQ];rfl,rfl,rfl⟩
theorem cm (G:Imm) (n1 n2 k1 k2:Nat) (th:Int) (h1:n1≤4096) (h2:n2≤4096) (h3:1≤k1∧k1≤8) (h4:1≤k2∧k2≤8) :
 Does Tryz.prog 30 [.int .i64 (n1:Int),.int .i64 (n2:Int),.int .i64 (k1:Int),.int .i64 (k2:Int),.int .i64 th] G [] (fun v G' Ho=>v=.bool (decide (vT n1 n2 k1 k2 th))∧G'=G∧Ho=[]):=by
 refine fS Tryz.func30 rfl Tryz.ntmps30 rfl fun w=>?_
 refine aK 8 [] ?_
 refine eK rfl (sO rfl rfl) ?_
 refine aJ 9 [] ?_
 apply cW 4 17 21 rfl
 intro hg1
 refine aA 7 [] ?_
 exact fJ 4 0 rfl rfl rfl rfl rfl
 intro hg1
 refine aA 4 [] ?_
 exact fJ 4 0 rfl rfl rfl rfl rfl
 refine aA 1 [] ?_
 apply cW 10 22 32 rfl
 intro hg1
 refine aA 9 [] ?_
 refine bW rfl (cl _ _ _ _ _ sV sV sV sV) ?_
 refine aA 5 [] ?_
 refine eK rfl (sO rfl rfl) ?_
 refine aA 3 [] ?_
 exact fJ 10 0 rfl rfl rfl rfl rfl
 intro hg1
 refine aA 10 [] ?_
 exact fJ 10 0 rfl rfl rfl rfl rfl
 refine aW 4 [] ?_
 refine bO ?_
 exact ⟨congrArg Value.bool (fX.2 cj),rfl,rfl⟩
def stepsU (u:UV):Nat:=u.x.code.length+u.y.code.length+u.z.code.length
structure Cnt (u:UV) (k1 k2:Nat):Prop where
 e1:u.k1=(k1:Int)
 e2:u.k2=(k2:Int)
 a1:1≤k1
 b1:k1≤8
 a2:1≤k2
 b2:k2≤8
 n:k1+k2=u.pl.length+1
def TLv (t:TL):List Value:=[.int .i64 (t.lv:Int),.int .i64 (t.ca:Int),.int .i64 (t.pr:Int),.int .i64 (t.st:Int)]
theorem JC {u:UV} (h:uG u.k1 u.k2 u.pl u.x u.y u.z=(0,0)):∃ k1 k2,Cnt u k1 k2:=by
 have hW:tY u.k1 u.k2 u.pl=0:=by
  refine dO fun hW=>?_
  unfold uG at h
  rw [aR hW] at h
  exact hW (Prod.mk.inj h).2
 obtain ⟨hP1,hP2,hL,hRL⟩:=Bx hW
 have h1:=hP1.1
 have h2:=hP1.2
 have h3:=hP2.1
 have h4:=hP2.2
 refine ⟨u.k1.toNat,u.k2.toNat,by omega,by omega,by omega,by omega,by omega,by omega,by omega⟩
section
attribute [local irreducible] blkP vT tN
theorem c19 (G:Imm) (u:UV) (h:UH) (k1 k2:Nat) (hc:Cnt u k1 k2) (hs:stepsU u≤49152) (th:Int):∀ (N n1 n2:Nat),max n1 n2=N→N≤2048→
 Does Tryz.prog 19 [.agg (uC u h).toArray,.int .i64 (n1:Int),.int .i64 (n2:Int),.int .i64 th] G [] (fun v G' Ho=>v=.agg (TLv (foreP k1 k2 u.pl.length (stepsU u) th n1 n2)).toArray∧G'=G∧Ho=[]):=by
 obtain ⟨uk1,uk2,pl,x,y,z⟩:=u
 obtain ⟨e1,e2,a1,b1,a2,b2,hn⟩:=hc
 dsimp only at e1 e2 hn
 subst e1 e2
 unfold stepsU at hs ⊢
 dsimp only at hs ⊢
 generalize hst:x.code.length+y.code.length+z.code.length=st at hs ⊢
 have hpl:pl.length≤15:=sV
 intro N
 induction N using Nat.strongRecOn with
 | _ N ih =>
   intro n1 n2 hN hN2
   have hf:=Ht (k1:=k1) (k2:=k2) (n:=pl.length) (st:=st) (n1:=n1) (n2:=n2) (th:=th) a1 b1 a2 b2 hn sV hs
   by_cases he:vT n1 n2 k1 k2 th
   · have hlt:blkP n1 n2 k1 k2<N:=by rw [←hN];exact (show vT n1 n2 k1 k2 th from he) |> fun g=>by unfold vT at g;exact g.2
     have ih':=ih _ hlt (blkP n1 n2 k1 k2) (blkP n1 n2 k1 k2) (Nat.max_self _) sV
     rw [Lo he] at hf ⊢
     generalize foreP k1 k2 pl.length st th (blkP n1 n2 k1 k2) (blkP n1 n2 k1 k2)=t at ih' hf ⊢
     obtain ⟨f1,f2,f3,f4⟩:=hf
     dsimp only at f1 f2 f3 f4
     have hb:blkP n1 n2 k1 k2≤2048:=sV
     unfold uC
     dsimp only
     refine fS Tryz.func19 rfl Tryz.ntmps19 rfl fun w=>?_
     refine aK 2 [] ?_
     refine mU 0 rfl rfl rfl fun b3=>?_
     refine aQ 1 rfl T.zero37 fun b4=>?_
     refine aJ 12 [0,0] ?_
     refine bW rfl (cm _ _ _ _ _ _ sV sV sV sV) ?_
     refine eK rfl (dK rfl) ?_
     refine bJ 2 [] ?_
     refine lW rfl (fun hc1=>?_) fun hc1=>?_
     refine aK 4 [] ?_
     refine eK rfl (lM rfl rfl) ?_
     refine eK rfl (fB (cs:=[_,_,_,_]) T.st37 rfl rfl rfl) ?_
     refine aW 5 [1] ?_
     refine dL (.inr rfl) (Ho:=Hp.only _ []) rfl (.agg 1 rfl rfl T.agg37) (bK _ _) ?_
     rotate_left
     refine aK 18 [0,0,0] ?_
     refine bW rfl (cl _ _ _ _ _ sV sV sV sV) ?_
     refine aJ 9 [0] ?_
     refine bW rfl (by apply ih' <;> first | assumption | omega | rfl) ?_
     refine aQ 2 rfl T.zero37 fun b5=>?_
     refine aJ 8 [2,2] ?_
     refine eK rfl (mE rfl rfl sV) ?_
     refine aA 5 [2] ?_
     refine eK rfl (mE rfl rfl sV) ?_
     refine aA 4 [2] ?_
     refine eK rfl (mE rfl rfl sV) ?_
     refine aA 17 [0,0,0,2] ?_
     refine eK rfl (mE rfl rfl sV) ?_
     refine aA 1 [] ?_
     refine eK rfl (fB (cs:=[_,_,_,_]) T.st37 rfl rfl rfl) ?_
     refine aW 4 [1] ?_
     refine dL (.inr rfl) (Ho:=Hp.only _ []) rfl (.agg 1 rfl rfl T.agg37) (bK _ _) ?_
     rotate_left
     · exact absurd he sW
     refine ⟨?_,rfl,rfl⟩
     unfold TLv
     dsimp only
     rw [←hst]
     simp only [jG,cJ,Int.natCast_one]
   rw [Hr he] at hf ⊢
   obtain ⟨f1,f2,f3,f4⟩:=hf
   dsimp only at f1 f2 f3 f4
   unfold uC
   dsimp only
   refine fS Tryz.func19 rfl Tryz.ntmps19 rfl fun w=>?_
   refine aK 2 [] ?_
   refine mU 0 rfl rfl rfl fun b3=>?_
   refine aQ 1 rfl T.zero37 fun b4=>?_
   refine aJ 12 [0,0] ?_
   refine bW rfl (cm _ _ _ _ _ _ sV sV sV sV) ?_
   refine eK rfl (dK rfl) ?_
   refine aJ 7 [1] ?_
   refine eK rfl (mE rfl rfl sV) ?_
   refine eK rfl (fB (cs:=[_,_,_,_]) T.st37 rfl rfl rfl) ?_
   refine aW 5 [1] ?_
   refine dL (.inr rfl) (Ho:=Hp.only _ []) rfl (.agg 1 rfl rfl T.agg37) (bK _ _) ?_
   refine ⟨?_,rfl,rfl⟩
   unfold TLv
   dsimp only
   simp only [cJ]
   rfl
end
def zE (n1 n2:Int):Prop:=((0≤n1∧0≤n2)∧n1≤2048)∧n2≤2048
instance (n1 n2:Int):Decidable (zE n1 n2):=inferInstanceAs (Decidable (_∧_))
def US (x:Nat×Nat):List Value:=[.int .i64 (x.1:Int),.int .i64 (x.2:Int)]
theorem Xq {k1 k2 n st n1 n2 k:Nat} {th:Int} {x:Nat×Nat} {s:FS} (a1:1≤k1) (b1:k1≤8) (a2:1≤k2) (b2:k2≤8) (hn:k1+k2=n+1) (hm:max n1 n2≤2048) (hst:st≤49152) (hx:(zD k1 k2 n th n1 n2 1)[k]?=some x) (hs:s=((zD k1 k2 n th n1 n2 1).take k).foldl (uT n st) ⟨1,n1*n2,0,0,0⟩) :
 s.lv+x.2≤31381059609∧s.ca+x.2*n≤62762119218∧s.st+x.2*st≤1542441841852416∧x.1≤2048∧x.1*x.1≤4194304:=by
 obtain ⟨f1,f2,f3,f4⟩:=Ht (st:=st) (th:=th) a1 b1 a2 b2 hn hm hst
 obtain ⟨g1,g2,g3,g4⟩:=Hs k1 k2 n st th _ n1 n2 1 ⟨1,n1*n2,0,0,0⟩ (aG _) rfl rfl
 obtain ⟨p1,p2,p3⟩:=DQ (n:=n) (st:=st) (zD k1 k2 n th n1 n2 1) (k+1) ⟨1,n1*n2,0,0,0⟩
 rw [Pg _ hx,←hs] at p1 p2 p3
 have hx1:x.1≤2048:=Ph 2048 n1 n2 1 hm x (List.mem_of_getElem? hx)
 generalize (zD k1 k2 n th n1 n2 1).foldl (uT n st) ⟨1,n1*n2,0,0,0⟩=r at *
 dsimp only at g1 g2 g3
 have p1':s.lv+x.2≤r.lv:=p1
 have p2':s.ca+x.2*n≤r.ca:=p2
 have p3':s.st+x.2*st≤r.st:=p3
 exact ⟨by omega,by omega,by omega,hx1,aO (iX hx1 hx1) tF⟩
section
attribute [local irreducible] blkP vT tN zE
theorem XF (G:Imm) (n1 n2:Int):Does Tryz.prog 84 [.int .i64 n1,.int .i64 n2] G [] (fun v G' Ho=>v=.bool (decide (zE n1 n2))∧G'=G∧Ho=[]):=by
 refine fS Tryz.func84 rfl Tryz.ntmps84 rfl fun w=>?_
 refine aK 10 [] ?_
 apply cW 3 7 10 rfl
 intro hg1
 refine aA 5 [] ?_
 exact fJ 3 0 rfl rfl rfl rfl rfl
 intro hg1
 refine aA 3 [] ?_
 exact fJ 3 0 rfl rfl rfl rfl rfl
 refine aA 1 [] ?_
 apply cW 3 11 14 rfl
 intro hg1
 refine aA 5 [] ?_
 exact fJ 3 0 rfl rfl rfl rfl rfl
 intro hg1
 refine aA 3 [] ?_
 exact fJ 3 0 rfl rfl rfl rfl rfl
 refine aA 1 [] ?_
 apply cW 3 15 18 rfl
 intro hg1
 refine aA 5 [] ?_
 exact fJ 3 0 rfl rfl rfl rfl rfl
 intro hg1
 refine aA 3 [] ?_
 exact fJ 3 0 rfl rfl rfl rfl rfl
 refine aW 4 [] ?_
 refine bO ?_
 exact ⟨congrArg Value.bool (fX.2 (by unfold zE;omega)),rfl,rfl⟩
theorem cq (G:Imm) (p:Option Addr) (n1 n2 th:Int):Does Tryz.prog 33 [.pointer p,.int .i64 n1,.int .i64 n2,.int .i64 th] G [] (fun v G' Ho=>∃ bm ba bb bt,v=.func (.func 85) #[] #[.pointer (some ⟨bm,0,none⟩),.pointer (some ⟨ba,0,none⟩),.pointer (some ⟨bb,0,none⟩),.pointer (some ⟨bt,0,none⟩)]∧CellsAt G' bm [.pointer p]∧CellsAt G' ba [.int .i64 n1]∧CellsAt G' bb [.int .i64 n2]∧CellsAt G' bt [.int .i64 th]∧Ho=[]):=by
 refine fS Tryz.func33 rfl Tryz.ntmps33 rfl fun w=>?_
 refine aK 2 [] ?_
 refine mU 0 rfl rfl rfl fun b1=>?_
 refine mU 1 rfl rfl rfl fun b2=>?_
 refine mU 2 rfl rfl rfl fun b3=>?_
 refine mU 3 rfl rfl rfl fun b4=>?_
 refine aJ 5 [] ?_
 refine eK rfl (mQ rfl rfl) ?_
 refine aW 4 [] ?_
 refine rI 0 rfl fun Ga ha hba=>?_
 refine rI 1 rfl fun Gb hb hbb=>?_
 refine rI 2 rfl fun Gc hc hbc=>?_
 refine rI 3 rfl fun Gd hd hbd=>?_
 refine bO ?_
 exact ⟨_,_,_,_,rfl,(pB hba).up (aZ hb (aZ hc hd)),(pB hbb).up (aZ hc hd),(pB hbc).up hd,pB hbd,rfl⟩
theorem JD {u:UV} {k1 k2:Nat} (hc:Cnt u k1 k2):1≤u.pl.length∧u.pl.length≤15:=by
 have:=hc.n;have:=hc.a1;have:=hc.a2;have:=hc.b1;have:=hc.b2
 omega
theorem UT (G:Imm) (p:Option Addr) (n1 n2:Int) (bm ba bb bt:Nat) (hm:CellsAt G bm [.pointer p]) (ha:CellsAt G ba [.int .i64 n1]) (hb:CellsAt G bb [.int .i64 n2]) (hno:¬zE n1 n2) :
 Kq Tryz.prog 85 [.pointer (some ⟨bm,0,none⟩),.pointer (some ⟨ba,0,none⟩),.pointer (some ⟨bb,0,none⟩),.pointer (some ⟨bt,0,none⟩)] G US []:=by
 intro ι J inv stop ly i0 hi0 hY
 refine qW Tryz.func85 rfl Tryz.ntmps85 rfl fun w=>?_
 refine Yw 1000 ?_
 refine aK 3 [] ?_
 refine eK rfl (gS T.one32 rfl sW wA) ?_
 refine eK rfl (Qy.eqlPtrNil tC rfl rfl) ?_
 refine aA 1 [] ?_
 apply bZ 5 13 18 rfl
 intro hg1
 refine aA 1 [] ?_
 refine eK rfl (gS T.one3 rfl sW wA) ?_
 refine aA 1 [] ?_
 refine eK rfl (gS T.one3 rfl sW wA) ?_
 refine aA 1 [] ?_
 refine bW rfl (XF _ _ _) ?_
 refine aA 1 [] ?_
 refine eK rfl (dK rfl) ?_
 refine aA 1 [] ?_
 exact fJ 5 0 rfl rfl rfl rfl rfl
 intro hg1
 refine aA 5 [] ?_
 exact fJ 5 0 rfl rfl rfl rfl rfl
 refine bJ 2 [] ?_
 refine lW rfl (fun hc1=>?_) fun hc1=>?_
 refine bE 2 [] ?_
 refine lH (.inr rfl) ?_
 rotate_left
 refine cF 3 [] ?_
 refine oL [] [] T.mixed rfl ?_
 refine gD 0 [] rfl (gS T.one3 rfl sW wA) ?_
 refine gD 1 [] rfl (gS T.one3 rfl sW wA) ?_
 refine fM 2 [] [] ?_
 refine fM 3 [] [] ?_
 refine fM 4 [] [] ?_
 refine qU tC trivial BE ?_
 refine oJ 2 [] ?_
 rotate_left
 · refine Qt (k:=1000) (.inr rfl) rfl BF ⟨rfl,i0,rfl,.inl hi0⟩
 exact absurd (Or.inr hno) sW
theorem cr (G:Imm) (u:UV) (h:UH) (b:Nat) (k1 k2 n1 n2:Nat) (th:Int) (hb:CellsAt G b (uC u h)) (hc:Cnt u k1 k2) (h1:n1≤4096) (h2:n2≤4096) (he:vT n1 n2 k1 k2 th) :
 Does Tryz.prog 80 [.pointer (some ⟨b,0,none⟩),.int .i64 (n1:Int),.int .i64 (n2:Int),.int .i64 th] G [] (fun v G' Ho=>v=.tuple #[.int .i64 (blkP n1 n2 k1 k2:Int),.bool true]∧G'=G∧Ho=[]):=
 (c80 G u h b k1 k2 n1 n2 th hb hc.e1 hc.e2 h1 h2 ⟨hc.a1,hc.b1⟩ ⟨hc.a2,hc.b2⟩).mono fun v G' Ho _ hp=>⟨hp.1.trans (by rw [cL he]),hp.2⟩
theorem ct (G:Imm) (u:UV) (h:UH) (b:Nat) (k1 k2 n1 n2:Nat) (th:Int) (hb:CellsAt G b (uC u h)) (hc:Cnt u k1 k2) (h1:n1≤4096) (h2:n2≤4096) (he:¬vT n1 n2 k1 k2 th) :
 Does Tryz.prog 80 [.pointer (some ⟨b,0,none⟩),.int .i64 (n1:Int),.int .i64 (n2:Int),.int .i64 th] G [] (fun v G' Ho=>v=.tuple #[.int .i64 (blkP n1 n2 k1 k2:Int),.bool false]∧G'=G∧Ho=[]):=
 (c80 G u h b k1 k2 n1 n2 th hb hc.e1 hc.e2 h1 h2 ⟨hc.a1,hc.b1⟩ ⟨hc.a2,hc.b2⟩).mono fun v G' Ho _ hp=>⟨hp.1.trans (by rw [bF he]),hp.2⟩
theorem UU (G:Imm) (u:UV) (h:UH) (k1 k2:Nat) (hc:Cnt u k1 k2) (b bm ba bb bt n1 n2:Nat) (th:Int) (hu:CellsAt G b (uC u h)) (hm:CellsAt G bm [.pointer (some ⟨b,0,none⟩)]) (ha:CellsAt G ba [.int .i64 (n1:Int)]) (hb:CellsAt G bb [.int .i64 (n2:Int)]) (ht:CellsAt G bt [.int .i64 th]) (h1:n1≤2048) (h2:n2≤2048) :
 Kq Tryz.prog 85 [.pointer (some ⟨bm,0,none⟩),.pointer (some ⟨ba,0,none⟩),.pointer (some ⟨bb,0,none⟩),.pointer (some ⟨bt,0,none⟩)] G US (zD k1 k2 u.pl.length th n1 n2 1):=by
 intro ι J inv stop ly i0 hi0 hY
 have hok:zE (n1:Int) (n2:Int):=by unfold zE;omega
 obtain ⟨c1,c2⟩:=JD hc
 refine qW Tryz.func85 rfl Tryz.ntmps85 rfl fun w=>?_
 refine Yw 1000 ?_
 refine aK 3 [] ?_
 refine eK rfl (gS T.one32 rfl sW wA) ?_
 refine eK rfl (Qy.eqlPtrNil tC rfl rfl) ?_
 refine aA 1 [] ?_
 apply bZ 5 13 18 rfl
 intro hg1
 refine aA 1 [] ?_
 refine eK rfl (gS T.one3 rfl sW wA) ?_
 refine aA 1 [] ?_
 refine eK rfl (gS T.one3 rfl sW wA) ?_
 refine aA 1 [] ?_
 refine bW rfl (XF _ _ _) ?_
 refine aA 1 [] ?_
 refine eK rfl (dK rfl) ?_
 refine aA 1 [] ?_
 exact fJ 5 0 rfl rfl rfl rfl rfl
 intro hg1
 refine aA 5 [] ?_
 exact fJ 5 0 rfl rfl rfl rfl rfl
 refine bJ 2 [] ?_
 refine lW rfl (fun hc1=>?_) fun hc1=>?_
 refine bE 2 [] ?_
 refine lH (.inr rfl) ?_
 rotate_left
 refine cF 3 [] ?_
 refine oL [] [] T.mixed rfl ?_
 refine gD 0 [] rfl (gS T.one3 rfl sW wA) ?_
 refine gD 1 [] rfl (gS T.one3 rfl sW wA) ?_
 refine fM 2 [] [] ?_
 refine fM 3 [] [] ?_
 refine fM 4 [] [] ?_
 refine qU tC trivial BE ?_
 refine oJ 2 [] ?_
 rotate_left
 · exact absurd sW (show ¬((some (Addr.mk b 0 none)=none)∨¬zE (n1:Int) (n2:Int)) by simp [hok])
 refine FV (ι:=Nat×Nat×Nat×Nat×ι) 1000 (fun (k,a,a',lv,s)=>([(7,.int .i64 (a:Int)),(8,.int .i64 (a':Int)),(6,.int .i64 (lv:Int)),(0,Go.Value.func (Go.Fn.yield ly) #[] #[]),(1,Go.Value.pointer (Option.some (Go.Addr.mk bm 0 Option.none))),(4,Go.Value.pointer (Option.some (Go.Addr.mk bt 0 Option.none)))],[])) (fun (k,a,a',lv,s)=>J s) (fun (k,a,a',lv,s)=>LevAt k1 k2 u.pl.length th n1 n2 k a a' lv∧inv k s) (fun (k,a,a',lv,s)=>zK k1 k2 th a a') ((0,n1,n2,1,i0)) (⟨LevAt.start hc.a1 hc.b1 hc.a2 hc.b2 hc.n sV,hi0⟩) ⟨rfl,rfl,rfl,rfl,rfl,rfl,trivial⟩ trivial BF fun ⟨k,a,a',lv,s⟩=>fun hk=>?_
 obtain ⟨hL,hinv⟩:=hk
 have hm2:=hL.2.2.1
 by_cases he:vT a a' k1 k2 th
 · have hN:=hL.next he
   have hlv':=hN.lv c1
   have hlv:=hL.lv c1
   have hbk:=hN.2.2.1
   refine aK 3 [] ?_
   refine eK rfl (gS T.one32 rfl sW wA) ?_
   refine aA 2 [] ?_
   refine eK rfl (gS T.one3 rfl sW wA) ?_
   refine bW rfl (cr _ u h b k1 k2 _ _ _ hu hc sV sV he) ?_
   refine aJ 20 [] ?_
   refine BS (A:=[]) 1000 rfl rfl rfl trivial BF rfl (hY k _ s (hL.here he) hinv) fun vy Gy Hy hly hp=>?_
   obtain ⟨rfl,s',rfl,hp⟩:=hp
   rcases hp with ⟨rfl,hinv'⟩ | ⟨rfl,hst⟩
   · refine aJ 18 [0] ?_
     refine eK rfl (gS T.one32 rfl sW wA) ?_
     refine aA 3 [] ?_
     refine eK rfl (gS T.one22 rfl sW wA) ?_
     refine aA 1 [] ?_
     refine eK rfl (mE rfl rfl sV) ?_
     refine aW 3 [] ?_
     refine cZ 6 rfl (show _=Value.int .i64 ((lv*u.pl.length:Nat):Int) from congrArg _ (cJ _ _).symm) ?_
     refine Xo ((k+1,blkP a a' k1 k2,blkP a a' k1 k2,lv*u.pl.length,s')) ?_ ?_ rfl ⟨rfl,rfl,rfl,rfl,rfl,rfl,trivial⟩ trivial BF
     · exact ⟨hN,hinv'⟩
     exact Pj he
   refine aW 11 [1] ?_
   refine lH (.inr rfl) ?_
   refine Qt (k:=1000) (.inr rfl) rfl BF ⟨rfl,s',rfl,.inr hst⟩
 skip
 refine aK 3 [] ?_
 refine eK rfl (gS T.one32 rfl sW wA) ?_
 refine aA 2 [] ?_
 refine eK rfl (gS T.one3 rfl sW wA) ?_
 refine bW rfl (ct _ u h b k1 k2 _ _ _ hu hc sV sV he) ?_
 refine aW 27 [1] ?_
 refine lH (.inr rfl) ?_
 refine Qt (k:=1000) (.inr rfl) rfl BF ⟨rfl,s,rfl,.inl ?_⟩
 rw [←hL.done he];exact hinv
theorem cu (G:Imm) (b:Nat) (n1 n2 th:Int) (hno:¬zE n1 n2):Does Tryz.prog 32 [.pointer (some ⟨b,0,none⟩),.int .i64 n1,.int .i64 n2,.int .i64 th] G [] (fun v G' Ho=>v=.tuple #[.agg #[.int .i64 0,.int .i64 0,.int .i64 0,.int .i64 0],.int .i64 2]∧G'=G∧Ho=[]):=by
 refine fS Tryz.func32 rfl Tryz.ntmps32 rfl fun w=>?_
 refine aK 2 [] ?_
 refine mU 0 rfl rfl rfl fun b1=>?_
 refine aQ 1 rfl T.zero37 fun b2=>?_
 refine aJ 8 [0] ?_
 refine eK rfl (Qy.eqlPtrNil tC rfl rfl) ?_
 refine bJ 3 [] ?_
 refine lW rfl (fun hc1=>?_) fun hc1=>?_
 refine aK 2 [] ?_
 refine eK rfl (fB (cs:=[_,_,_,_]) T.st37 rfl rfl rfl) ?_
 refine aW 7 [1] ?_
 rotate_left
 refine aK 4 [] ?_
 refine bW rfl (XF _ _ _) ?_
 refine eK rfl (dK rfl) ?_
 refine aJ 6 [1] ?_
 refine eK rfl (fB (cs:=[_,_,_,_]) T.st37 rfl rfl rfl) ?_
 refine aW 7 [1] ?_
 rotate_left
 · exact absurd sW (show ¬(some (Addr.mk b 0 none)=none) by simp)
 refine sG [1] tF (iK (.inr rfl) (Ho:=Hp.only _ []) rfl (.agg 0 rfl rfl T.agg37) (.tmp rfl) (bK _ _) ?_)
 exact ⟨rfl,rfl,rfl⟩
theorem cz (G:Imm) (u:UV) (h:UH) (k1 k2:Nat) (hc:Cnt u k1 k2) (b n1 n2:Nat) (th:Int) (hu:CellsAt G b (uC u h)) (h1:n1≤2048) (h2:n2≤2048) (hs:stepsU u≤49152) :
 Does Tryz.prog 32 [.pointer (some ⟨b,0,none⟩),.int .i64 (n1:Int),.int .i64 (n2:Int),.int .i64 th] G [] (fun v G' Ho=>v=.tuple #[.agg (TLv (foreP k1 k2 u.pl.length (stepsU u) th n1 n2)).toArray,.int .i64 0]∧Ho=[]):=by
 have hok:zE (n1:Int) (n2:Int):=by unfold zE;omega
 obtain ⟨c1,c2⟩:=JD hc
 refine qW Tryz.func32 rfl Tryz.ntmps32 rfl fun w=>?_
 have hp0:0≤(n1:Int)*(n2:Int)∧(n1:Int)*(n2:Int)≤4194304:=by
  rw [←cJ]
  have:=iX h1 h2
  omega
 have hs':u.x.code.length+u.y.code.length+u.z.code.length≤49152:=hs
 refine aK 2 [] ?_
 refine mU 0 rfl rfl rfl fun b1=>?_
 refine aQ 1 rfl T.zero37 fun b2=>?_
 refine aJ 8 [0] ?_
 refine eK rfl (Qy.eqlPtrNil tC rfl rfl) ?_
 refine bJ 3 [] ?_
 refine lW rfl (fun hc1=>?_) fun hc1=>?_
 refine aK 2 [] ?_
 refine eK rfl (fB (cs:=[_,_,_,_]) T.st37 rfl rfl rfl) ?_
 refine aW 7 [1] ?_
 refine lH (.inr rfl) ?_
 rotate_left
 refine aK 4 [] ?_
 refine bW rfl (XF _ _ _) ?_
 refine eK rfl (dK rfl) ?_
 refine bJ 3 [] ?_
 refine lW rfl (fun hc2=>?_) fun hc2=>?_
 refine aK 2 [] ?_
 refine eK rfl (fB (cs:=[_,_,_,_]) T.st37 rfl rfl rfl) ?_
 refine aW 7 [1] ?_
 refine lH (.inr rfl) ?_
 rotate_left
 refine aK 5 [] ?_
 refine aQ 2 rfl T.zero37 fun b3=>?_
 refine bJ 3 [] ?_
 refine oL [0,1,2] [] T.mixed rfl ?_
 refine fM 0 [0] [0] ?_
 refine fM 1 [] [] ?_
 refine fM 2 [] [] ?_
 refine fM 3 [] [] ?_
 refine fM 4 [] [] ?_
 refine gD 5 [] rfl (gS T.one23 rfl sW wA) ?_
 refine fM 6 [] [] ?_
 refine fM 7 [0] [0] ?_
 refine fM 8 [] [] ?_
 refine fM 9 [] [] ?_
 refine fM 10 [] [] ?_
 refine fM 11 [] [] ?_
 refine gD 12 [] rfl (gS T.one23 rfl sW wA) ?_
 refine fM 13 [] [] ?_
 refine fM 14 [] [] ?_
 refine fM 15 [0] [0] ?_
 refine fM 16 [] [] ?_
 refine fM 17 [] [] ?_
 refine fM 18 [] [] ?_
 refine fM 19 [] [] ?_
 refine gD 20 [] rfl (gS T.one23 rfl sW wA) ?_
 refine fM 21 [] [] ?_
 refine fM 22 [] [] ?_
 refine fE 23 ?_
 refine aQ 3 rfl T.zero3 fun b4=>?_
 refine dW ?_
 refine fE 24 ?_
 refine aA 1 [3] ?_
 refine dW ?_
 refine dV ?_
 refine pY 5 [] ?_
 refine eK rfl (mE rfl rfl sV) ?_
 refine aQ 4 rfl T.zero3 fun b5=>?_
 refine aJ 5 [4] ?_
 refine aQ 5 rfl T.zero3 fun b6=>?_
 refine aJ 10 [5,0] ?_
 refine bV 6 rfl (cq _ _ _ _ _) fun v1 G1 Ho1 hle1 hp=>?_
 obtain ⟨fm1,fa1,fb1,ft1,rfl,hfm1,hfa1,hfb1,hft1,rfl⟩:=hp
 replace hu:=hu.up hle1
 refine bJ 3 [] ?_
 rotate_left
 · exact absurd sW (show ¬(some (Addr.mk b 0 none)=none) by simp)
 · exact absurd hok sW
 refine sM 5 (.cells #[.int .i64 ((1:Nat):Int)] 3) rfl rfl ?_
 refine sM 4 (.cells #[.int .i64 ((n1*n2:Nat):Int)] 3) rfl (by rw [cJ];rfl) ?_
 refine sM 3 (.cells #[.int .i64 ((stepsU u:Nat):Int)] 3) rfl (by unfold stepsU;rw [jG,jG];rfl) ?_
 refine sM 2 (.cells #[.int .i64 ((0:Nat):Int),.int .i64 ((0:Nat):Int),.int .i64 0,.int .i64 ((0:Nat):Int)] 37) rfl rfl ?_
 refine oK (ι:=FS) 900 901 (fun s=>[(5,some b6,.cells #[.int .i64 (s.c:Int)] 3),(4,some b5,.cells #[.int .i64 (s.la:Int)] 3),(2,some b3,.cells #[.int .i64 (s.lv:Int),.int .i64 (s.ca:Int),.int .i64 0,.int .i64 (s.st:Int)] 37),(3,Option.some b4,Go.Obj.cells #[Go.Value.int Go.IntKind.i64 (↑(Go.Proofs.YtngphgeghfdjbaaGreatDoor.stepsU u):Int)] 3),(1,Option.some b2,Go.Obj.cells #[Go.Value.int Go.IntKind.i64 0,Go.Value.int Go.IntKind.i64 0,Go.Value.int Go.IntKind.i64 0,Go.Value.int Go.IntKind.i64 0] 37),(0,Option.some b1,Go.Obj.cells #[Go.Value.pointer (Option.some (Go.Addr.mk b 0 Option.none))] 32)]) (fun k s=>s=((zD k1 k2 u.pl.length th n1 n2 1).take k).foldl (uT u.pl.length (stepsU u)) ⟨1,n1*n2,0,0,0⟩) (fun c s=>False) (⟨1,n1*n2,0,0,0⟩) rfl T.fn85 (fun _=>rfl) rfl (UU _ u h k1 k2 hc b fm1 fa1 fb1 ft1 n1 n2 th hu hfm1 hfa1 hfb1 hft1 h1 h2) (by rw [bN];rfl) (qT ⟨rfl,rfl,rfl,rfl,rfl,rfl,trivial⟩) ⟨rfl,fun _=>rfl⟩ (fun k x s l dd q w0 hx hi=>?_) (fun s dd hi=>?_) fun s dd c hi=>?_
 · obtain ⟨q1,q2,q3,q4,q5⟩:=Xq hc.a1 hc.b1 hc.a2 hc.b2 hc.n sV hs hx hi
   refine bE 8 [] ?_
   refine Kr 900 rfl ?_
   refine aK 8 [0] ?_
   refine eK rfl (gS T.one22 rfl sW wA) ?_
   refine aA 1 [] ?_
   refine eK rfl (mE rfl rfl sV) ?_
   refine aJ 29 [5,2,2,2,5,2,2,3] ?_
   refine eK rfl (mE rfl rfl sV) ?_
   refine aJ 8 [2] ?_
   refine eK rfl (mE rfl rfl sV) ?_
   refine aW 3 [4] ?_
   refine iB 5 (.cells #[.int .i64 ((uT u.pl.length (stepsU u) s x).c:Int)] 3) rfl (by rw [show (((uT u.pl.length (stepsU u) s x).c:Nat):Int)=(x.2:Int)*(u.pl.length:Int) from cJ _ _];rfl) ?_
   refine iB 4 (.cells #[.int .i64 ((uT u.pl.length (stepsU u) s x).la:Int)] 3) rfl (by rw [show (((uT u.pl.length (stepsU u) s x).la:Nat):Int)=(x.1:Int)*(x.1:Int) from cJ _ _];rfl) ?_
   refine iB 2 (.cells #[.int .i64 ((uT u.pl.length (stepsU u) s x).lv:Int),.int .i64 ((uT u.pl.length (stepsU u) s x).ca:Int),.int .i64 0,.int .i64 ((uT u.pl.length (stepsU u) s x).st:Int)] 37) rfl (by rw [show (((uT u.pl.length (stepsU u) s x).lv:Nat):Int)=(s.lv:Int)+(x.2:Int) from jG _ _,show (((uT u.pl.length (stepsU u) s x).ca:Nat):Int)=(s.ca:Int)+(x.2:Int)*(u.pl.length:Int) from by rw [←cJ];exact jG _ _,show (((uT u.pl.length (stepsU u) s x).st:Nat):Int)=(s.st:Int)+(x.2:Int)*(stepsU u:Int) from by rw [←cJ];exact jG _ _];rfl) ?_
   refine qY none (.inl ⟨rfl,rfl⟩) 900 rfl ⟨rfl,(uT u.pl.length (stepsU u) s x,none),rfl,.inl ⟨rfl,rfl,?_⟩⟩ (qT ⟨rfl,rfl,rfl,rfl,rfl,rfl,rfl,rfl,trivial⟩)
   rw [Pg _ hx,←hi]
 · obtain ⟨f1,f2,f3,f4⟩:=Ht (st:=stepsU u) (th:=th) hc.a1 hc.b1 hc.a2 hc.b2 hc.n (show max n1 n2≤2048 by omega) hs
   obtain ⟨g1,g2,g3,g4⟩:=Hs k1 k2 u.pl.length (stepsU u) th _ n1 n2 1 ⟨1,n1*n2,0,0,0⟩ (aG _) rfl rfl
   rw [eQ] at hi
   rw [←hi] at g1 g2 g3 g4
   dsimp only at g1 g2 g3
   have hcl:(s.c:Int)*(s.la:Int)=((foreP k1 k2 u.pl.length (stepsU u) th n1 n2).pr:Int):=by rw [←cJ,g4,oC]
   generalize foreP k1 k2 u.pl.length (stepsU u) th n1 n2=t at *
   have hb0:0≤(s.c:Int)*(s.la:Int)∧(s.c:Int)*(s.la:Int)≤131621703842267136:=by rw [hcl];omega
   refine pY 6 [5,4] ?_
   refine eK rfl (mE rfl rfl sV) ?_
   refine aW 12 [2,2,1] ?_
   refine nW (.inr rfl) 901 rfl ?_
   refine lH (.inr rfl) ?_
   refine Ar.base (sG [1] tF (iK (.inr rfl) (Ho:=Hp.only _ []) rfl (.agg 0 rfl rfl T.agg37) (.tmp rfl) (bK _ _) ?_))
   refine ⟨?_,rfl⟩
   show Value.tuple #[.agg #[.int .i64 (s.lv:Int),.int .i64 (s.ca:Int),.int .i64 ((s.c:Int)*(s.la:Int)),.int .i64 (s.st:Int)],.int .i64 0]=_
   rw [hcl,g1,g2,g3]
   unfold TLv
   simp only [cH,oC]
 exact hi.elim
end
theorem UW (G:Imm) (a:Option Addr) (c:Nat) (xs:List Int) (hx:Arr G a xs) (hl:xs.length≤1099511627776) :
 Does Tryz.prog 175 [.slice a xs.length c] G [] (fun v G' Ho=>∃ b d j,v=.slice b xs.length d∧OwnA b d xs j∧Ho=[(0,b.map (·.block),tK 3 xs j)]∧G'=G):=by
 refine D0 Tryz.func175 Tryz.ntmps175 fun w=>?_
 refine aK 9 [] ?_
 refine aN (gH T.sl24 rfl rfl) ?_
 refine bJ 2 [] ?_
 refine dN (fun hc1=>?_) fun hc1=>?_
 refine bE 7 [] ?_
 rotate_left
 refine aK 4 [] ?_
 refine rA 0 rfl T.sl24 fun b1=>?_
 refine aA 1 [] ?_
 rotate_left
 · subst hc1
   have hn:xs=[]:=by
    rcases hx.2 with h | ⟨b,o,h,_⟩
    · exact cB h
    cases h
   subst hn
   refine Gv 0 (tK 3 ([]:List Int) []) ?_
   refine qJ [0] ?_
   exact ⟨none,0,[],rfl,eW,rfl,rfl⟩
 refine oV 0 (tK 3 ([]:List Int) []) rfl rfl ?_
 refine nM (α:=Int) 0 rfl T.sl24 T.el3 rfl rfl rfl (iI tS) (qB sW) (by simp only [cT];omega) (by simp only [cT,maxLen];omega) fun a1 c1 junk1 ho1=>?_
 refine aW 4 [] ?_
 refine qJ [0] ?_
 exact ⟨_,_,_,rfl,ho1,rfl,rfl⟩
theorem UX (G:Imm) (a:Option Addr) (c:Nat) (xs:List Sl.Instr) (hx:Arr G a xs) (hl:xs.length≤1099511627776) :
 Does Tryz.prog 174 [.slice a xs.length c] G [] (fun v G' Ho=>∃ b d j,v=.slice b xs.length d∧OwnA b d xs j∧Ho=[(0,b.map (·.block),tK 211 xs j)]∧G'=G):=by
 refine D0 Tryz.func174 Tryz.ntmps174 fun w=>?_
 refine aK 9 [] ?_
 refine aN (gH T.sl23 rfl rfl) ?_
 refine bJ 2 [] ?_
 refine dN (fun hc1=>?_) fun hc1=>?_
 refine bE 7 [] ?_
 rotate_left
 refine aK 4 [] ?_
 refine rA 0 rfl T.sl23 fun b1=>?_
 refine aA 1 [] ?_
 rotate_left
 · subst hc1
   have hn:xs=[]:=by
    rcases hx.2 with h | ⟨b,o,h,_⟩
    · exact cB h
    cases h
   subst hn
   refine Gv 0 (tK 211 ([]:List Sl.Instr) []) ?_
   refine qJ [0] ?_
   exact ⟨none,0,[],rfl,eW,rfl,rfl⟩
 refine oV 0 (tK 211 ([]:List Sl.Instr) []) rfl rfl ?_
 refine nM (α:=Sl.Instr) 0 rfl T.sl23 T.el211 rfl rfl rfl (iI tS) (qB sW) (by simp only [cT];omega) (by simp only [cT,maxLen];omega) fun a1 c1 junk1 ho1=>?_
 refine aW 4 [] ?_
 refine qJ [0] ?_
 exact ⟨_,_,_,rfl,ho1,rfl,rfl⟩
theorem JE (G:Imm) (p:PV) (ac ao:Option Addr) (cc co:Nat) (hc:Arr G ac p.code) (ho:Arr G ao p.outs) (h1:p.code.length≤1099511627776) (h2:p.outs.length≤1099511627776) :
 Does Tryz.prog 125 [.agg #[.int .i64 p.ins,.int .i64 p.regs,.slice ac p.code.length cc,.slice ao p.outs.length co]] G [] (fun v G' Ho=>∃ bc bo dc do_ j1 j2,v=.agg #[.int .i64 p.ins,.int .i64 p.regs,.slice bc p.code.length dc,.slice bo p.outs.length do_]∧
  OwnA bc dc p.code j1∧OwnA bo do_ p.outs j2∧Ho=[(0,bc.map (·.block),tK 211 p.code j1),(1,bo.map (·.block),tK 3 p.outs j2)]∧G'=G):=by
 refine D0 Tryz.func125 Tryz.ntmps125 fun w=>?_
 refine aK 2 [] ?_
 refine cV 0 fun b1=>?_
 refine aQ 1 rfl T.zero26 fun b2=>?_
 refine bJ 3 [] ?_
 refine eB [0,1] [(0,9),(0,7)] T.mixed [[0],[1,0],[3],[4,0]] ?_
 refine fE 2 ?_
 refine bV 2 rfl (UX _ _ _ _ sW sV) fun v1 G1 Ho1 hle1 hp=>?_
 obtain ⟨lb1,ld1,lj1,rfl,hlb1,rfl,rfl⟩:=hp
 refine dW ?_
 refine eJ [[6]] ?_
 refine fE 5 ?_
 refine bV 3 rfl (UW _ _ _ _ sW sV) fun v2 G2 Ho2 hle2 hp=>?_
 obtain ⟨lb2,ld2,lj2,rfl,hlb2,rfl,rfl⟩:=hp
 refine bT 7 ?_
 refine aA 1 [0] ?_
 refine dW ?_
 refine eJ [[8]] ?_
 refine fE 9 ?_
 refine aA 1 [0] ?_
 refine fV ?_
 refine gZ 8 [0,1] ?_
 refine sG [2,3,1] tF (dL (.inr rfl) (Ho:=Hp.only _ [0,1]) rfl (.agg 2 rfl rfl T.agg26) (bK _ _) ?_)
 exact ⟨_,_,_,_,_,_,rfl,hlb1,hlb2,rfl,rfl⟩
theorem DW {k1 k2:Int} {l:List R2} {x y z:PV} (h:(uG k1 k2 l x y z).2=0):uG k1 k2 l x y z=(0,0):=by
 unfold uG at h ⊢
 split
 · rename_i hW;rw [aR hW] at h;exact absurd h hW
 rename_i hW
 rw [aL hW] at h
 repeat' split at h
 all_goals first | (exact absurd h tF) | skip
 rw [aL sW,aL sW,aL sW,aL sW,aL sW,aL sW]
section
attribute [local irreducible] uG
theorem c70 (G:Imm) (u:UV) (h:UH) (i:UIn G u h) (m:MidU u) :
 Does Tryz.prog 70 [.agg (uC u h).toArray] G [] (fun v G' Ho=>∃ (h':UH) (j:UJ),v=.agg (uC u h').toArray∧UOwn u h' j∧Ho=AK 0 u h' j∧G'=G):=by
 obtain ⟨k1,k2,pl,xp,yp,zp⟩:=u
 obtain ⟨pa,pc,xa,xc,xo,xd,ya,yc,yo,yd,za,zc,zo,zd⟩:=h
 obtain ⟨hcap,hpa,hxc,hxo,hyc,hyo,hzc,hzo⟩:=i
 obtain ⟨hpl,hx1,hx2,hy1,hy2,hz1,hz2⟩:=m
 dsimp only at *
 unfold uC
 dsimp only
 refine fS Tryz.func70 rfl Tryz.ntmps70 rfl fun w=>?_
 refine aK 2 [] ?_
 refine mU 0 rfl rfl rfl fun b1=>?_
 refine aQ 1 rfl T.zero28 fun b2=>?_
 refine aJ 6 [0] ?_
 refine bV 2 rfl (ZT _ _ _ _ sW sV) fun v1 G1 Ho1 hle1 hp=>?_
 obtain ⟨s1,d1,j1,rfl,hs1,rfl,rfl⟩:=hp
 refine aJ 10 [0] ?_
 refine eK rfl (sQ (cs:=[_,_,_]) T.ar205 rfl rfl rfl) ?_
 refine bJ 4 [] ?_
 refine Ku (mZ ?_)
 refine aK 13 [1] ?_
 refine eK rfl (Ez.Qy.indexV (n:=3) (E:=150) tC tC tC rfl rfl tF rfl) ?_
 refine aJ 7 [] ?_
 refine eK rfl (eL 0 T.agg26 rfl rfl rfl rfl) ?_
 refine bV 3 rfl (JE _ xp _ _ _ _ sW sW sV sV) fun v2 G2 Ho2 hle2 hp=>?_
 obtain ⟨a2,o2,c2,d2,j2,m2,rfl,hc2,ho2,rfl,rfl⟩:=hp
 refine aA 1 [] ?_
 refine sL 0 T.size26 rfl rfl rfl rfl rfl rfl ?_
 refine aW 7 [] ?_
 refine cZ 13 rfl (show _=Value.int .i64 (1:Int) from rfl) ?_
 refine rE (mZ ?_)
 refine aK 13 [1] ?_
 refine eK rfl (Ez.Qy.indexV (n:=3) (E:=150) tC tC tC rfl rfl tF rfl) ?_
 refine aJ 7 [] ?_
 refine eK rfl (eL 0 T.agg26 rfl rfl rfl rfl) ?_
 refine bV 5 rfl (JE _ yp _ _ _ _ sW sW sV sV) fun v3 G3 Ho3 hle3 hp=>?_
 obtain ⟨a3,o3,c3,d3,j3,m3,rfl,hc3,ho3,rfl,rfl⟩:=hp
 refine aA 1 [] ?_
 refine sL 0 T.size26 rfl rfl rfl rfl rfl rfl ?_
 refine aW 7 [] ?_
 refine cZ 13 rfl (show _=Value.int .i64 (2:Int) from rfl) ?_
 refine rE (mZ ?_)
 refine aK 13 [1] ?_
 refine eK rfl (Ez.Qy.indexV (n:=3) (E:=150) tC tC tC rfl rfl tF rfl) ?_
 refine aJ 7 [] ?_
 refine eK rfl (eL 0 T.agg26 rfl rfl rfl rfl) ?_
 refine bV 7 rfl (JE _ zp _ _ _ _ sW sW sV sV) fun v4 G4 Ho4 hle4 hp=>?_
 obtain ⟨a4,o4,c4,d4,j4,m4,rfl,hc4,ho4,rfl,rfl⟩:=hp
 refine aA 1 [] ?_
 refine sL 0 T.size26 rfl rfl rfl rfl rfl rfl ?_
 refine aW 7 [] ?_
 refine cZ 13 rfl (show _=Value.int .i64 (3:Int) from rfl) ?_
 refine rE (mZ ?_)
 refine bE 19 [0,0,1] ?_
 refine sG [2,3,4,5,6,7,8,1] tF (dL (.inr rfl) (Ho:=Hp.only _ [0,1,2,3,4,5,6]) rfl (.agg 7 rfl rfl T.agg28) (bK _ _) ?_)
 exact ⟨⟨s1,d1,a2,c2,o2,d2,a3,c3,o3,d3,a4,c4,o4,d4⟩,⟨j1,j2,m2,j3,m3,j4,m4⟩,rfl,⟨hs1,hc2,ho2,hc3,ho3,hc4,ho4⟩,rfl,rfl⟩
theorem c18 (G:Imm) (u:UV) (h:UH) (i:UIn G u h) (m:MidU u) :
 Does Tryz.prog 18 [.agg (uC u h).toArray] G [] (fun v G' Ho =>
  ((uG u.k1 u.k2 u.pl u.x u.y u.z).2≠0∧v=.tuple #[.pointer none,.int .i64 (uG u.k1 u.k2 u.pl u.x u.y u.z).2]∧Ho=[])∨
  ((uG u.k1 u.k2 u.pl u.x u.y u.z).2=0∧∃ (b:Nat) (h':UH) (j:UJ),v=.tuple #[.pointer (some ⟨b,0,none⟩),.int .i64 0]∧UOwn u h' j∧Ho=(0,some b,.cells (uC u h').toArray 127) :: AK 1 u h' j)):=by
 refine fS Tryz.func18 rfl Tryz.ntmps18 rfl fun w=>?_
 refine aK 2 [] ?_
 refine mU 0 rfl rfl rfl fun b1=>?_
 refine aJ 7 [0] ?_
 refine bV 1 rfl (ce _ u h i m) fun v1 G1 Ho1 hle1 hp=>?_
 obtain ⟨rfl,rfl⟩:=hp
 replace i:=i.up hle1
 refine bJ 14 [] ?_
 refine lW rfl (fun hc1=>?_) fun hc1=>?_
 refine bE 9 [] ?_
 rotate_left
 refine aK 5 [0] ?_
 refine bV 1 rfl (c70 _ u h i m) fun v2 G2 Ho2 hle2 hp=>?_
 obtain ⟨h2,j2,rfl,ho2,rfl,rfl⟩:=hp
 refine eK rfl (fB (cs:=[_,_,_,_,_,_,_,_,_,_,_,_,_,_,_]) T.st127 rfl rfl rfl) ?_
 refine mU 8 rfl rfl rfl fun b2=>?_
 refine aW 5 [] ?_
 rotate_left
 · refine eG ?_
   exact .inl ⟨hc1,rfl,rfl⟩
 refine sG [8,1,2,3,4,5,6,7] tF (iK (.inr rfl) (Ho:=Hp.only _ [0,1,2,3,4,5,6,7]) rfl (.tmp rfl) (.tmp rfl) (bK _ _) ?_)
 exact .inr ⟨bD.1 hc1,b2,h2,j2,rfl,ho2,rfl⟩
theorem c27 (G:Imm) (u:UV) (h:UH) (i:UIn G u h) (m:MidU u) (b:Nat) (hb:CellsAt G b (uC u h)) :
 Does Tryz.prog 27 [.pointer (some ⟨b,0,none⟩)] G [] (fun v G' Ho=>∃ (h':UH) (j:UJ),v=.tuple #[.agg (uC u h').toArray,.int .i64 0]∧UOwn u h' j∧Ho=AK 0 u h' j∧G'=G):=by
 refine fS Tryz.func27 rfl Tryz.ntmps27 rfl fun w=>?_
 refine aK 2 [] ?_
 refine aQ 0 rfl T.zero28 fun b1=>?_
 refine aJ 7 [] ?_
 refine eK rfl (Qy.eqlPtrNil tC rfl rfl) ?_
 refine bJ 2 [] ?_
 refine lW rfl (fun hc1=>?_) fun hc1=>?_
 refine aK 2 [] ?_
 refine eK rfl (fB (cs:=[_,_,_,_,_,_,_,_,_,_,_,_,_,_,_]) T.st28 rfl rfl rfl) ?_
 refine aW 6 [0] ?_
 rotate_left
 refine aK 7 [] ?_
 refine eK rfl (nP T.agg28 rfl sW rfl) ?_
 refine bV 1 rfl (c70 _ u h i m) fun v1 G1 Ho1 hle1 hp=>?_
 obtain ⟨h1,j1,rfl,ho1,rfl,rfl⟩:=hp
 refine aW 5 [0] ?_
 rotate_left
 · exact absurd hc1 tS
 refine sG [1,2,3,4,5,6,7,0] tF (iK (.inr rfl) (Ho:=Hp.only _ [0,1,2,3,4,5,6]) rfl (.agg 7 rfl rfl T.agg28) (.tmp rfl) (bK _ _) ?_)
 exact ⟨h1,j1,rfl,ho1,rfl,rfl⟩
end
theorem UY (G:Imm) (u:UV) (h:UH) (i:UIn G u h) (m:MidU u) (hU:(uG u.k1 u.k2 u.pl u.x u.y u.z).2=0) :
 Does Tryz.prog 18 [.agg (uC u h).toArray] G [] (fun v G' Ho=>∃ (b:Nat) (h':UH) (j:UJ),v=.tuple #[.pointer (some ⟨b,0,none⟩),.int .i64 0]∧UOwn u h' j∧Ho=(0,some b,.cells (uC u h').toArray 127) :: AK 1 u h' j):=
 (c18 G u h i m).mono fun v G' Ho _ hp=>hp.elim (fun k=>absurd hU k.1) fun k=>k.2
theorem UZ (G:Imm) (u:UV) (h:UH) (i:UIn G u h) (m:MidU u) (hU:¬(uG u.k1 u.k2 u.pl u.x u.y u.z).2=0) :
 Does Tryz.prog 18 [.agg (uC u h).toArray] G [] (fun v G' Ho=>v=.tuple #[.pointer none,.int .i64 (uG u.k1 u.k2 u.pl u.x u.y u.z).2]∧Ho=[]):=
 (c18 G u h i m).mono fun v G' Ho _ hp=>hp.elim (fun k=>k.2) fun k=>absurd k.1 hU
structure BigU (u:UV):Prop where
 pl:u.pl.length≤1048576
 x1:u.x.code.length≤1048576
 x2:u.x.outs.length≤1048576
 y1:u.y.code.length≤1048576
 y2:u.y.outs.length≤1048576
 z1:u.z.code.length≤1048576
 z2:u.z.outs.length≤1048576
def hX (p:PV) (a:Option Addr) (c:Nat) (o:Option Addr) (d:Nat):PH:=⟨p.ins,p.regs,a,p.code.length,c,o,p.outs.length,d⟩
def Va (u:UV) (h:UH):Bool:=Iu u.pl.length [hX u.x h.xa h.xc h.xo h.xd,hX u.y h.ya h.yc h.yo h.yd,hX u.z h.za h.zc h.zo h.zd]
theorem Vb {u:UV} {h:UH} (b:BigU u) (hl:Va u h=false):MidU u∧u.x.code.length+u.y.code.length+u.z.code.length≤600∧u.pl.length≤15:=by
 unfold Va Iu at hl
 simp only [Bool.or_eq_false_iff,dM,bY,jH,List.sum_cons,List.sum_nil,hX] at hl
 exact ⟨⟨b.pl,by omega,b.x2,by omega,b.y2,by omega,b.z2⟩,by omega,by omega⟩
theorem VA (G:Imm) (u:UV) (h:UH) (b:BigU u):Does Tryz.prog 17 [.agg (uC u h).toArray] G [] (fun v G' Ho=>v=.bool (Va u h)∧G'=G∧Ho=[]):=
 c17 G u.k1 u.k2 h.pa u.pl.length h.pc (hX u.x h.xa h.xc h.xo h.xd) (hX u.y h.ya h.yc h.yo h.yd) (hX u.z h.za h.zc h.zo h.zd) (aO b.x1 tF) (aO b.y1 tF) (aO b.z1 tF)
section
attribute [local irreducible] uG Va tN
theorem c4 (hWorks:∀ G,TabOk G→Does Tryz.prog 16 [] G [] (fun v G' Ho=>v=.bool (decide (1=1))∧G'=G∧Ho=[])) (G:Imm) (hT:TabOk G) (u:UV) (h:UH) (i:UIn G u h) (hB:BigU u) :
 Does Tryz.prog 4 [.agg (uC u h).toArray] G [] (fun v G' Ho=>v=.bool true∧Ho=[]):=by
 refine fS Tryz.func4 rfl Tryz.ntmps4 rfl fun w=>?_
 refine aK 2 [] ?_
 refine mU 0 rfl rfl rfl fun b1=>?_
 refine aJ 6 [] ?_
 refine bW rfl (hWorks _ hT) ?_
 refine eK rfl (dK rfl) ?_
 refine aJ 9 [0,0] ?_
 refine bW rfl (VA _ u h hB) ?_
 refine bJ 2 [] ?_
 refine rM rfl (fun hc1=>?_) fun hc1=>?_
 refine bE 7 [] ?_
 rotate_left
 refine aK 5 [0] ?_
 refine aQ 1 rfl T.zero28 fun b2=>?_
 refine aJ 7 [1,0] ?_
 rotate_left
 · refine bO ?_
   exact ⟨rfl,rfl⟩
 obtain ⟨m,hlen,hpl15⟩:=Vb (u:=u) (h:=h) hB sW
 have hin:∀ (s1:Option Addr) (d1:Nat) (Gx:Imm),G.le Gx→Arr Gx s1 u.pl→u.pl.length≤d1→UIn Gx u ⟨s1,d1,h.xa,h.xc,h.xo,h.xd,h.ya,h.yc,h.yo,h.yd,h.za,h.zc,h.zo,h.zd⟩:=fun s1 d1 Gx hl ha hd=>⟨hd,ha,i.xc.up hl,i.xo.up hl,i.yc.up hl,i.yo.up hl,i.zc.up hl,i.zo.up hl⟩
 by_cases hU:(uG u.k1 u.k2 u.pl u.x u.y u.z).2=0
 case neg =>
  refine bV 2 rfl (ZT _ _ _ _ i.pl m.pl) fun v1 G1 Ho1 hle1 hp=>?_
  obtain ⟨s1,d1,j1,rfl,hs1,rfl,rfl⟩:=hp
  refine aJ 7 [1,1] ?_
  refine oW 3 rfl T.fn18 rfl (fun Gx hGx hgx=>(UZ Gx u ⟨s1,d1,h.xa,h.xc,h.xo,h.xd,h.ya,h.yc,h.yo,h.yd,h.za,h.zc,h.zo,h.zd⟩ (hin s1 d1 Gx hGx OZ hs1.le) m hU)) fun v1 Gx1 G1 Ho1 hlx1 hp=>?_
  obtain ⟨rfl,rfl⟩:=hp
  refine aJ 10 [0] ?_
  refine bV 3 rfl (UO _ u h i m) fun v2 G2 Ho2 hle2 hp=>?_
  obtain ⟨rfl,rfl⟩:=hp
  replace i:=i.up hle2
  refine aJ 18 [1] ?_
  refine eK rfl (Qy.eqlPtrNil tC rfl rfl) ?_
  refine aA 1 [] ?_
  apply cW 4 34 38 rfl
  intro hg1
  refine aA 7 [] ?_
  exact fJ 4 0 rfl rfl rfl rfl rfl
  intro hg1
  refine aA 4 [] ?_
  exact fJ 4 0 rfl rfl rfl rfl rfl
  refine aW 5 [] ?_
  refine bO ?_
  exact ⟨by simp,rfl⟩
 case pos =>
  refine bV 2 rfl (ZT _ _ _ _ i.pl m.pl) fun v1 G1 Ho1 hle1 hp=>?_
  obtain ⟨s1,d1,j1,rfl,hs1,rfl,rfl⟩:=hp
  refine aJ 7 [1,1] ?_
  refine oW 3 rfl T.fn18 rfl (fun Gx hGx hgx=>(UY Gx u ⟨s1,d1,h.xa,h.xc,h.xo,h.xd,h.ya,h.yc,h.yo,h.yd,h.za,h.zc,h.zo,h.zd⟩ (hin s1 d1 Gx hGx OZ hs1.le) m hU)) fun v1 Gx1 G1 Ho1 hlx1 hp=>?_
  obtain ⟨bm1,hm1,jm1,rfl,hmo1,rfl⟩:=hp
  refine aJ 10 [0] ?_
  refine bV 11 rfl (UO _ u h i m) fun v2 G2 Ho2 hle2 hp=>?_
  obtain ⟨rfl,rfl⟩:=hp
  replace i:=i.up hle2
  refine aJ 21 [0] ?_
  refine eK rfl (Qy.eqlPtrNil tC rfl rfl) ?_
  refine aA 1 [] ?_
  apply bZ 3 41 44 rfl
  intro hg1
  refine aA 5 [] ?_
  exact fJ 3 0 rfl rfl rfl rfl rfl
  intro hg1
  refine aA 3 [] ?_
  exact fJ 3 0 rfl rfl rfl rfl rfl
  refine bJ 2 [] ?_
  refine lW rfl (fun hc2=>?_) fun hc2=>?_
  refine bE 7 [] ?_
  rotate_left
  refine aK 6 [1] ?_
  rotate_left
  · exfalso
    have hq:(some (Addr.mk bm1 0 none)=none)∨¬((0:Int)=0):=by assumption
    simp at hq
  refine Hc (α:=R2) (xs:=u.pl) 2 T.sl22 T.el51 rfl rfl rfl hs1 fun hs1'=>?_
  refine aJ 5 [] ?_
  refine Wl.freeze 3 rfl fun Ga hla hba=>?_
  refine cR 4 rfl hmo1.pl fun Gb hlb hbb=>?_
  refine cR 5 rfl hmo1.xc fun Gc hlc hbc=>?_
  refine cR 6 rfl hmo1.xo fun Gd hld hbd=>?_
  refine cR 7 rfl hmo1.yc fun Ge hle hbe=>?_
  refine cR 8 rfl hmo1.yo fun Gf hlf hbf=>?_
  refine cR 9 rfl hmo1.zc fun Gg hlg hbg=>?_
  refine cR 10 rfl hmo1.zo fun Gh hlh hbh=>?_
  have lg:=hlh
  have lf:=aZ hlg lg
  have le:=aZ hlf lf
  have ld:=aZ hle le
  have lc:=aZ hld ld
  have lb:=aZ hlc lc
  have la:=aZ hlb lb
  have l0:=aZ hla la
  replace i:=i.up l0
  have hM:CellsAt Gh bm1 (uC u hm1):=(pB hba).up la
  have hI:UIn Gh u hm1:=⟨hmo1.pl.le,hbb.up lb,hbc.up lc,hbd.up ld,hbe.up le,hbf.up lf,hbg.up lg,hbh⟩
  refine bV 11 rfl (c27 _ u hm1 hI m bm1 hM) fun v3 G3 Ho3 hle3 hp=>?_
  obtain ⟨hv3,jv3,rfl,hvo3,rfl,rfl⟩:=hp
  refine aA 3 [] ?_
  refine aQ 18 rfl T.zero28 fun b3=>?_
  refine aJ 10 [18] ?_
  refine rJ 54 rfl uU ?_
  refine aA 5 [18,0] ?_
  refine oW 19 rfl T.fn28 rfl (fun Gx hGx hgx=>(UP Gx u hv3 h (hvo3.lent hgx (t:=11) rfl rfl rfl rfl rfl rfl rfl) (i.up hGx) m)) fun v2 Gx2 G2 Ho2 hlx2 hp=>?_
  obtain ⟨rfl,rfl,rfl⟩:=hp
  refine aA 1 [] ?_
  refine eK rfl (dK rfl) ?_
  refine aJ 10 [0,18] ?_
  refine Hc (α:=R2) (xs:=u.pl) 11 T.sl22 T.el51 rfl rfl rfl hvo3.pl fun hv'=>?_
  refine aJ 7 [18] ?_
  refine Hc (α:=Int) (xs:=u.z.outs) 17 T.sl24 T.el3 rfl rfl rfl hvo3.zo fun hv''=>?_
  refine aJ 5 [] ?_
  refine bV 19 rfl (c27 _ u hm1 hI m bm1 hM) fun v4 G4 Ho4 hle4 hp=>?_
  obtain ⟨hv4,jv4,rfl,hvo4,rfl,rfl⟩:=hp
  refine aA 3 [] ?_
  refine aQ 26 rfl T.zero28 fun b4=>?_
  refine aJ 9 [26] ?_
  refine Qo 72 rfl uU ?_
  refine aA 5 [26,0] ?_
  refine oW 27 rfl T.fn28 rfl (fun Gx hGx hgx=>(UP Gx u hv4 h (hvo4.lent hgx (t:=19) rfl rfl rfl rfl rfl rfl rfl) (i.up hGx) m)) fun v3 Gx3 G3 Ho3 hlx3 hp=>?_
  obtain ⟨rfl,rfl,rfl⟩:=hp
  refine aW 5 [] ?_
  refine Ar.base ?_
  refine bO ?_
  exact ⟨by simp,rfl⟩
end
def Vc (i:Sl.Instr):Prop:=i.op=1∧i.to=i.a
instance (i:Sl.Instr):Decidable (Vc i):=inferInstanceAs (Decidable (_∧_))
theorem c35 (G:Imm) (xs ys:List Int) (a b:Option Addr) (c d:Nat) (hx:Arr G a xs) (hy:Arr G b ys) (h1:xs.length≤1099511627776) (h2:ys.length≤1099511627776) :
 Does Tryz.prog 35 [.slice a xs.length c,.slice b ys.length d] G [] (fun v G' Ho=>v=.bool (decide (xs=ys))∧G'=G∧Ho=[]):=by
 refine D0 Tryz.func35 Tryz.ntmps35 fun w=>?_
 refine cF 15 [] ?_
 refine dN (fun hc1=>?_) fun hc1=>?_
 refine bE 7 [] ?_
 refine bO ?_
 rotate_left
 refine cF 11 [] ?_
 rotate_left
 · have:xs≠ys:=by rintro rfl;exact hc1 rfl
   exact ⟨by simp [this],rfl,rfl⟩
 have hl:xs.length=ys.length:=sV
 clear hc1
 refine gC (ι:=Nat) (fun k=>([(13,.int .i64 (k:Int)),(12,Go.Value.int Go.IntKind.i64 (↑(List.length xs):Int)),(0,Go.Value.slice a (List.length xs) c),(1,Go.Value.slice b (List.length ys) d)],[])) (fun k=>k≤xs.length∧xs.take k=ys.take k) (fun k=>xs.length - k) (0) (⟨aU _,rfl⟩) fun k=>fun hk=>?_
 obtain ⟨hk1,hk2⟩:=hk
 refine cF 6 [] ?_
 refine dN (fun hc1=>?_) fun hc1=>?_
 refine cF 11 [] ?_
 refine oL [] [] T.mixed rfl ?_
 refine Gm.q 0 [] tC rfl rfl (oM rfl) ?_
 refine Gm.q 1 [] tC rfl rfl (oM rfl) ?_
 refine Gm.q 2 [] tC rfl rfl (qN (α:=Int) T.sl24 rfl rfl sW sV) ?_
 refine Gm.q 3 [] tC rfl rfl (dZ T.one3 rfl (kG sW sV 0 rfl rfl)) ?_
 refine Gm.q 4 [] tC rfl rfl (oM rfl) ?_
 refine Gm.q 5 [] tC rfl rfl (oM rfl) ?_
 refine Gm.q 6 [] tC rfl rfl (qN (α:=Int) T.sl24 rfl rfl sW sV) ?_
 refine Gm.q 7 [] tC rfl rfl (dZ T.one3 rfl (kG sW sV 0 rfl rfl)) ?_
 refine Gm.q 8 [] tC rfl rfl (Qy.neq rfl rfl) ?_
 refine qU tC trivial (by first | exact cA _ | assumption | (refine aZ ?_ sW;first | assumption | (refine aZ ?_ sW;assumption))) ?_
 refine cE ?_
 refine dN (fun hc2=>?_) fun hc2=>?_
 refine bE 11 [] ?_
 refine bO ?_
 rotate_left
 refine bE 7 [] ?_
 rotate_left
 refine bE 11 [] ?_
 refine bO ?_
 rotate_left
 · have:xs≠ys:=by rintro rfl;exact hc2 rfl
   exact ⟨by simp [this],rfl,rfl⟩
 · refine cS (k+1) ?_ ?_
   · exact ⟨by omega,Rg sV sV hk2 (bD.1 hc2)⟩
   omega
 have hk:k=xs.length:=sV
 subst hk
 rw [eQ,hl,eQ] at hk2
 exact ⟨by simp [hk2],rfl,rfl⟩
theorem PK (G:Imm) (u:UV) (h:UH) (i:UIn G u h) (m:MidU u) (hU:(uG u.k1 u.k2 u.pl u.x u.y u.z).2=0) :
 Does Tryz.prog 18 [.agg (uC u h).toArray] G [] (fun v G' Ho=>∃ (b:Nat) (h':UH),v=.tuple #[.pointer (some ⟨b,0,none⟩),.int .i64 0]∧CellsAt G' b (uC u h')∧UIn G' u h'∧Ho=[]):=
 (UY G u h i m hU).frzAll.mono fun v G' Ho _ ⟨G0,Ho0,⟨b,h',j,e,hm,e2⟩,hle,hB,e3⟩=>by
  subst e2
  exact ⟨b,h',e,pB (hB 0 b _ rfl),hm.lent hB (t:=1) rfl rfl rfl rfl rfl rfl rfl,e3⟩
theorem VB (G:Imm) (n1 n2 k1 k2:Nat) (q1 q2 th:Int) (e1:q1=(k1:Int)) (e2:q2=(k2:Int)) (h1:n1≤4096) (h2:n2≤4096) (h3:1≤k1∧k1≤8) (h4:1≤k2∧k2≤8) :
 Does Tryz.prog 30 [.int .i64 (n1:Int),.int .i64 (n2:Int),.int .i64 q1,.int .i64 q2,.int .i64 th] G [] (fun v G' Ho=>v=.bool (decide (vT n1 n2 k1 k2 th))∧G'=G∧Ho=[]):=by
 subst e1 e2
 exact cm G n1 n2 k1 k2 th h1 h2 h3 h4
theorem df (G:Imm) (n1 n2 k1 k2:Nat) (q1 q2:Int) (e1:q1=(k1:Int)) (e2:q2=(k2:Int)) (h1:n1≤4096) (h2:n2≤4096) (h3:1≤k1∧k1≤8) (h4:1≤k2∧k2≤8) :
 Does Tryz.prog 34 [.int .i64 (n1:Int),.int .i64 (n2:Int),.int .i64 q1,.int .i64 q2] G [] (fun v G' Ho=>v=.int .i64 (blkP n1 n2 k1 k2:Int)∧G'=G∧Ho=[]):=by
 subst e1 e2
 exact cl G n1 n2 k1 k2 h1 h2 h3 h4
section
attribute [local irreducible] uG Va tN zE blkP vT
theorem JF {P:Program} {B:Bs} {e:Env} {D:List Deferred} {H:Hp} {G:Imm} {ι:Type} {r:Option Nat} {x y:Code} {Q:Exit→Act→World→Prop} (I:ι→Env×Hp) (K:ι→List Deferred) (J:ι→Imm) (φ:ι→Prop)
 (h1:Wc r P x B ⟨e,D,H,G⟩ (Exit.then (MH B (fun i=>⟨(I i).1,K i,(I i).2,J i⟩) φ) Q)) (h2:∀ i,φ i→Wc r P y B ⟨(I i).1,K i,(I i).2,J i⟩ Q):Wc r P (.seq x y) B ⟨e,D,H,G⟩ Q:=by
 refine dT fun a w hh b k cs hro hb hr=>?_
 obtain ⟨ex,a',w',hq,ha⟩:=h1 a w hh b k cs hro hb hr
 refine ⟨ex,a',w',?_,ha⟩
 cases ex with
 | normal=>obtain ⟨j,hj,hI⟩:=hq;exact h2 j hj a' w' hI
 | _=>exact hq
theorem c6 (hWorks:∀ G,TabOk G→Does Tryz.prog 16 [] G [] (fun v G' Ho=>v=.bool (decide (1=1))∧G'=G∧Ho=[])) (G:Imm) (hT:TabOk G) (u:UV) (h:UH) (i:UIn G u h) (hB:BigU u) (n1 n2 th early:Int) :
 Does Tryz.prog 6 [.agg (uC u h).toArray,.int .i64 n1,.int .i64 n2,.int .i64 th,.int .i64 early] G [] (fun v G' Ho=>v=.bool true∧Ho=[]):=by
 refine qW Tryz.func6 rfl Tryz.ntmps6 rfl fun w=>?_
 refine aK 2 [] ?_
 refine mU 0 rfl rfl rfl fun b1=>?_
 refine mU 1 rfl rfl rfl fun b2=>?_
 refine aJ 6 [] ?_
 refine bW rfl (hWorks _ hT) ?_
 refine eK rfl (dK rfl) ?_
 refine aJ 9 [0,0] ?_
 refine bW rfl (VA _ u h hB) ?_
 refine bJ 2 [] ?_
 refine rM rfl (fun hc1=>?_) fun hc1=>?_
 refine bE 7 [] ?_
 refine lH (.inr rfl) ?_
 rotate_left
 refine aK 5 [0] ?_
 rotate_left
 · refine bO ?_
   exact ⟨rfl,rfl⟩
 obtain ⟨m,hlen,hpl15⟩:=Vb (u:=u) (h:=h) hB sW
 by_cases hU:(uG u.k1 u.k2 u.pl u.x u.y u.z).2=0
 case neg =>
  refine bV 2 rfl (UZ _ u h i m hU) fun v1 G1 Ho1 hle1 hp=>?_
  obtain ⟨rfl,rfl⟩:=hp
  replace i:=i.up hle1
  refine aJ 18 [1] ?_
  refine eK rfl (Qy.eqlPtrNil tC rfl rfl) ?_
  refine aW 5 [] ?_
  refine lH (.inr rfl) ?_
  refine bO ?_
  exact ⟨by simp,rfl⟩
 case pos =>
  obtain ⟨k1,k2,hc⟩:=JC (DW hU)
  by_cases hok:zE n1 n2
  case neg =>
   refine bV 2 rfl (PK _ u h i m hU) fun v1 G1 Ho1 hle1 hp=>?_
   obtain ⟨bm1,hm1,rfl,hM1,hI1,rfl⟩:=hp
   replace i:=i.up hle1
   refine aJ 23 [0] ?_
   refine bW rfl (cu _ _ _ _ _ hok) ?_
   refine aA 3 [] ?_
   refine aQ 2 rfl T.zero37 fun b3=>?_
   refine aJ 6 [2] ?_
   refine aQ 3 rfl T.zero3 fun b4=>?_
   refine aJ 9 [3] ?_
   refine bV 4 rfl (cq _ _ _ _ _) fun v2 G2 Ho2 hle2 hp=>?_
   obtain ⟨fm2,fa2,fb2,ft2,rfl,hfm2,hfa2,hfb2,hft2,rfl⟩:=hp
   replace hM1:=hM1.up hle2
   replace hI1:=hI1.up hle2
   replace i:=i.up hle2
   refine bJ 3 [] ?_
   refine sM 3 (.cells #[.int .i64 ((0:Nat):Int)] 3) rfl rfl ?_
   refine cF 7 [] ?_
   refine oK (ι:=Nat) 900 901 (fun n=>[(3,some b4,.cells #[.int .i64 (n:Int)] 3),(2,Option.some b3,Go.Obj.cells #[Go.Value.int Go.IntKind.i64 0,Go.Value.int Go.IntKind.i64 0,Go.Value.int Go.IntKind.i64 0,Go.Value.int Go.IntKind.i64 0] 37),(1,Option.some b2,Go.Obj.cells #[Go.Value.int Go.IntKind.i64 early] 3),(0,Option.some b1,Go.Obj.cells (List.toArray (Go.Proofs.YtngphgeghfdjbaaGreatDoor.uC u h)) 28)]) (fun k n=>True) (fun c n=>False) (0) rfl T.fn85 (fun _=>rfl) rfl (UT _ _ n1 n2 fm2 fa2 fb2 ft2 hfm2 hfa2 hfb2 hok) (trivial) (qT ⟨rfl,rfl,rfl,rfl,trivial⟩) ⟨rfl,fun _=>rfl⟩ (fun k x n l dd q w0 hx hi=>?_) (fun n dd hi=>?_) fun n dd c hi=>?_
   · exact absurd hx tS
   · refine pY 4 [] ?_
     refine aQ 902 rfl T.zero24 fun b5=>?_
     refine bJ 10 [] ?_
     refine oK (ι:=Unit) 920 921 (fun s=>[(902,Option.some b5,Go.Obj.cells #[Go.Value.slice Option.none 0 0] 24),(901,Option.some dd,Go.Obj.deferred (Option.some [])),(3,Option.some b4,Go.Obj.cells #[Go.Value.int Go.IntKind.i64 (↑n:Int)] 3),(2,Option.some b3,Go.Obj.cells #[Go.Value.int Go.IntKind.i64 0,Go.Value.int Go.IntKind.i64 0,Go.Value.int Go.IntKind.i64 0,Go.Value.int Go.IntKind.i64 0] 37),(1,Option.some b2,Go.Obj.cells #[Go.Value.int Go.IntKind.i64 early] 3),(0,Option.some b1,Go.Obj.cells (List.toArray (Go.Proofs.YtngphgeghfdjbaaGreatDoor.uC u h)) 28)]) (fun k s=>True) (fun c s=>False) (()) rfl T.fn85 (fun _=>rfl) rfl (UT _ _ n1 n2 fm2 fa2 fb2 ft2 hfm2 hfa2 hfb2 hok) (trivial) (qT ⟨rfl,rfl,rfl,rfl,rfl,rfl,trivial⟩) ⟨rfl,fun _=>rfl⟩ (fun k x s l dd q w0 hx hi=>?_) (fun s dd hi=>?_) fun s dd c hi=>?_
     · exact absurd hx tS
     · have hno:((n1<0∨n2<0)∨2048<n1)∨2048<n2:=by unfold zE at hok;omega
       refine pY 8 [] ?_
       apply bZ 3 68 71 rfl
       intro hg1
       refine aA 5 [] ?_
       exact fJ 3 0 rfl rfl rfl rfl rfl
       intro hg1
       refine aA 3 [] ?_
       exact fJ 3 0 rfl rfl rfl rfl rfl
       refine aA 1 [] ?_
       apply bZ 3 72 75 rfl
       intro hg1
       refine aA 5 [] ?_
       exact fJ 3 0 rfl rfl rfl rfl rfl
       intro hg1
       refine aA 3 [] ?_
       exact fJ 3 0 rfl rfl rfl rfl rfl
       refine aA 1 [] ?_
       apply bZ 3 76 79 rfl
       intro hg1
       refine aA 5 [] ?_
       exact fJ 3 0 rfl rfl rfl rfl rfl
       intro hg1
       refine aA 3 [] ?_
       exact fJ 3 0 rfl rfl rfl rfl rfl
       refine aJ 6 [1,2] ?_
       refine eK rfl (fB (cs:=[_,_,_,_]) T.st37 rfl rfl rfl) ?_
       refine eK rfl (Ek [_,_,_,_] [_,_,_,_] T.ai37 rfl rfl rfl rfl) ?_
       refine aA 1 [] ?_
       apply cW 3 83 86 rfl
       intro hg1
       refine aA 5 [] ?_
       exact fJ 3 0 rfl rfl rfl rfl rfl
       intro hg1
       refine aA 3 [] ?_
       exact fJ 3 0 rfl rfl rfl rfl rfl
       refine aA 1 [] ?_
       apply cW 3 87 90 rfl
       intro hg1
       refine aA 3 [902] ?_
       refine eK rfl (gH T.sl24 rfl rfl) ?_
       refine aA 1 [] ?_
       exact fJ 3 0 rfl rfl rfl rfl rfl
       intro hg1
       refine aA 3 [] ?_
       exact fJ 3 0 rfl rfl rfl rfl rfl
       refine aW 5 [] ?_
       refine nW (.inr rfl) 921 rfl ?_
       refine nW (.inr rfl) 901 rfl ?_
       refine lH (.inr rfl) ?_
       refine Ar.base ?_
       refine bO ?_
       exact ⟨by simp,rfl⟩
     exact hi.elim
   exact hi.elim
  case pos =>
   have hok':=hok
   unfold zE at hok'
   obtain ⟨m1,rfl⟩:∃ m1:Nat,n1=(m1:Int):=⟨n1.toNat,by omega⟩
   obtain ⟨m2,rfl⟩:∃ m2:Nat,n2=(m2:Int):=⟨n2.toNat,by omega⟩
   have hq1:m1≤2048:=sV
   have hq2:m2≤2048:=sV
   have hst:stepsU u≤49152:=by unfold stepsU;omega
   refine bV 2 rfl (PK _ u h i m hU) fun v1 G1 Ho1 hle1 hp=>?_
   obtain ⟨bm1,hm1,rfl,hM1,hI1,rfl⟩:=hp
   replace i:=i.up hle1
   refine aJ 23 [0] ?_
   refine bV 2 rfl (cz _ u hm1 k1 k2 hc bm1 m1 m2 th hM1 hq1 hq2 hst) fun v2 G2 Ho2 hle2 hp=>?_
   obtain ⟨rfl,rfl⟩:=hp
   replace hM1:=hM1.up hle2
   replace hI1:=hI1.up hle2
   replace i:=i.up hle2
   refine aA 3 [] ?_
   refine aQ 2 rfl T.zero37 fun b3=>?_
   refine aJ 6 [2] ?_
   refine aQ 3 rfl T.zero3 fun b4=>?_
   refine aJ 9 [3] ?_
   refine bV 4 rfl (cq _ _ _ _ _) fun v3 G3 Ho3 hle3 hp=>?_
   obtain ⟨fm3,fa3,fb3,ft3,rfl,hfm3,hfa3,hfb3,hft3,rfl⟩:=hp
   replace hM1:=hM1.up hle3
   replace hI1:=hI1.up hle3
   replace i:=i.up hle3
   refine bJ 3 [] ?_
   refine sM 3 (.cells #[.int .i64 ((0:Nat):Int)] 3) rfl rfl ?_
   have hit:=UU G3 u hm1 k1 k2 hc bm1 fm3 fa3 fb3 ft3 m1 m2 th hM1 hfm3 hfa3 hfb3 hft3 hq1 hq2
   have hLl:=AA (k1:=k1) (k2:=k2) (n:=u.pl.length) (th:=th) 2048 m1 m2 1 sV
   refine JF (ι:=Nat) (fun dd=>([(5,.pointer (some ⟨b1,0,none⟩)),(13,.pointer (some ⟨b3,0,none⟩)),(12,.int .i64 0),(15,.func (.func 85) #[] #[.pointer (some ⟨fm3,0,none⟩),.pointer (some ⟨fa3,0,none⟩),.pointer (some ⟨fb3,0,none⟩),.pointer (some ⟨ft3,0,none⟩)]),(1,.int .i64 (m1:Int)),(2,.int .i64 (m2:Int)),(3,.int .i64 th)],[(901,some dd,.deferred (some [])),(2,some b3,.cells (TLv (foreP k1 k2 u.pl.length (stepsU u) th m1 m2)).toArray 37),(0,some b1,.cells (uC u h).toArray 28)])) (fun dd=>[Sl.mark dd]) (fun _=>G3) (fun _=>True) ?_ fun de=>fun _=>?_
   · skip
     refine cF 6 [] ?_
     refine oK (ι:=Nat) 900 901 (fun n=>[(3,some b4,.cells #[.int .i64 (n:Int)] 3),(2,Option.some b3,Go.Obj.cells (List.toArray (Go.Proofs.YtngphgeghfdjbaaGreatDoor.TLv (Go.Proofs.YtngphgeghfdjbaaGreatDoor.foreP k1 k2 (List.length (Go.Proofs.YtngphgeghfdjbaaGreatDoor.UV.pl u)) (Go.Proofs.YtngphgeghfdjbaaGreatDoor.stepsU u) th m1 m2))) 37),(1,Option.some b2,Go.Obj.cells #[Go.Value.int Go.IntKind.i64 early] 3),(0,Option.some b1,Go.Obj.cells (List.toArray (Go.Proofs.YtngphgeghfdjbaaGreatDoor.uC u h)) 28)]) (fun k n=>n=k) (fun c n=>c=.exit 0) (0) rfl T.fn85 (fun _=>rfl) rfl (hit) (rfl) (qT ⟨rfl,rfl,rfl,rfl,trivial⟩) ⟨rfl,fun _=>rfl⟩ (fun k x n l dd q w0 hx hi=>?_) (fun n dd hi=>?_) fun n dd c hi=>?_
     · subst hi
       have hkl:=(aS.1 hx).1
       refine lV ?_
       refine Kr 900 rfl ?_
       refine cF 9 [3,1] ?_
       refine lW rfl (fun hc2=>?_) fun hc2=>?_
       refine bE 3 [] ?_
       rotate_left
       refine bE 8 [3,3] ?_
       rotate_left
       · refine qY (some ((.exit 0))) (.inr (.inr ⟨_,rfl,rfl⟩)) 900 rfl ⟨rfl,(n,some ((.exit 0))),rfl,.inr ⟨rfl,_,rfl,?_⟩⟩ (qT ⟨rfl,rfl,rfl,rfl,rfl,rfl,trivial⟩)
         rfl
       refine qY none (.inl ⟨rfl,rfl⟩) 900 rfl ⟨rfl,(n+1,none),rfl,.inl ⟨rfl,rfl,?_⟩⟩ (qT ⟨rfl,rfl,rfl,rfl,rfl,rfl,trivial⟩)
       rfl
     · refine gZ 1 [] ?_
       refine rH (dd) ?_ rfl ⟨rfl,rfl,rfl,rfl,rfl,rfl,rfl,trivial⟩ ⟨rfl,rfl,rfl,trivial⟩
       trivial
     subst hi
     refine bE 2 [] ?_
     refine rH (dd) ?_ rfl ⟨rfl,rfl,rfl,rfl,rfl,rfl,rfl,trivial⟩ ⟨rfl,rfl,rfl,trivial⟩
     trivial
   refine aK 2 [] ?_
   refine aQ 902 rfl T.zero24 fun b5=>?_
   refine bJ 10 [] ?_
   refine fO 30 (tK 3 ([]:List Int) []) ?_
   refine oK (ι:=List Int×Option Addr×Nat×List Value) 920 921 (fun (xs,o,c,j)=>[(902,some b5,.cells #[.slice o xs.length c] 24),(30,o.map (·.block),tK 3 xs j),(901,Option.some de,Go.Obj.deferred (Option.some [])),(2,Option.some b3,Go.Obj.cells (List.toArray (Go.Proofs.YtngphgeghfdjbaaGreatDoor.TLv (Go.Proofs.YtngphgeghfdjbaaGreatDoor.foreP k1 k2 (List.length (Go.Proofs.YtngphgeghfdjbaaGreatDoor.UV.pl u)) (Go.Proofs.YtngphgeghfdjbaaGreatDoor.stepsU u) th m1 m2))) 37),(0,Option.some b1,Go.Obj.cells (List.toArray (Go.Proofs.YtngphgeghfdjbaaGreatDoor.uC u h)) 28)]) (fun k (xs,o,c,j)=>xs=Lq ((zD k1 k2 u.pl.length th m1 m2 1).take k)∧OwnA o c xs j) (fun c (xs,o,c,j)=>False) (([],none,0,[])) rfl T.fn85 (fun _=>rfl) rfl (hit) (⟨by rw [bN];rfl,eW⟩) (qT ⟨rfl,rfl,rfl,rfl,rfl,trivial⟩) ⟨rfl,fun _=>rfl⟩ (fun k x ⟨xs,o,c,j⟩ l dd q w0 hx hi=>?_) (fun ⟨xs,o,c,j⟩ dd hi=>?_) fun ⟨xs,o,c,j⟩ dd c hi=>?_
   · obtain ⟨hxs,hoA⟩:=hi
     have hkl:=(aS.1 hx).1
     have hxl:xs.length≤4096:=by rw [hxs,Hu,bC];omega
     refine bE 8 [] ?_
     refine Kr 920 rfl ?_
     refine aK 5 [902] ?_
     refine fF (α:=Int) 922 [((↑(Prod.fst x):Int)),((↑(Prod.snd x):Int))] rfl T.sl24 T.el3 rfl rfl rfl rfl rfl fun b6=>?_
     refine nM (α:=Int) 30 rfl T.sl24 T.el3 rfl rfl rfl (by first | assumption | exact eW | exact iI tS) (fZ 922 rfl) LN LN fun a1 c1 junk1 ho1=>?_
     refine aW 3 [902] ?_
     refine qY none (.inl ⟨rfl,rfl⟩) 920 rfl ⟨rfl,((xs++[(x.1:Int),(x.2:Int)],a1,c1,junk1),none),rfl,.inl ⟨rfl,rfl,?_⟩⟩ (qT ⟨rfl,rfl,rfl,rfl,rfl,rfl,rfl,trivial⟩)
     exact ⟨by rw [Lr hx,hxs],ho1⟩
   · obtain ⟨hxs,hoA⟩:=hi
     rw [eQ] at hxs
     obtain ⟨gc1,gc2⟩:=JD hc
     have hxl:xs.length≤4096:=by rw [hxs,Hu];omega
     refine pY 8 [] ?_
     refine rJ 68 rfl uU ?_
     refine aA 6 [] ?_
     refine rJ 72 rfl uU ?_
     refine aA 6 [] ?_
     refine rJ 76 rfl uU ?_
     refine bJ 21 [0] ?_
     refine Wc.freezeRow 30 rfl hoA fun G4 hl4 hgot=>?_
     refine fO 31 (tK 3 ([]:List Int) []) ?_
     refine qA (ι:=Nat×Nat×Nat×Nat×(List Int×Option Addr×Nat×List Value)) (fun (k,a,a',lv,(ws,wo,wc,wj))=>([(20,.int .i64 (a:Int)),(21,.int .i64 (a':Int)),(22,.int .i64 (lv:Int)),(17,.slice wo ws.length wc),(16,Go.Value.pointer (Option.some (Go.Addr.mk b5 0 Option.none))),(5,Go.Value.pointer (Option.some (Go.Addr.mk b1 0 Option.none))),(13,Go.Value.pointer (Option.some (Go.Addr.mk b3 0 Option.none))),(12,Go.Value.int Go.IntKind.i64 0),(1,Go.Value.int Go.IntKind.i64 (↑m1:Int)),(2,Go.Value.int Go.IntKind.i64 (↑m2:Int)),(3,Go.Value.int Go.IntKind.i64 th)],[(31,wo.map (·.block),tK 3 ws wj),(921,Option.some dd,Go.Obj.deferred (Option.some [])),(902,Option.some b5,Go.Obj.cells #[Go.Value.slice o (List.length xs) c] 24),(901,Option.some de,Go.Obj.deferred (Option.some [])),(2,Option.some b3,Go.Obj.cells (List.toArray (Go.Proofs.YtngphgeghfdjbaaGreatDoor.TLv (Go.Proofs.YtngphgeghfdjbaaGreatDoor.foreP k1 k2 (List.length (Go.Proofs.YtngphgeghfdjbaaGreatDoor.UV.pl u)) (Go.Proofs.YtngphgeghfdjbaaGreatDoor.stepsU u) th m1 m2))) 37),(0,Option.some b1,Go.Obj.cells (List.toArray (Go.Proofs.YtngphgeghfdjbaaGreatDoor.uC u h)) 28)])) (fun (k,a,a',lv,(ws,wo,wc,wj))=>LevAt k1 k2 u.pl.length th m1 m2 k a a' lv∧ws=Lq ((zD k1 k2 u.pl.length th m1 m2 1).take k)∧OwnA wo wc ws wj) (fun (k,a,a',lv,(ws,wo,wc,wj))=>zK k1 k2 th a a') ((0,m1,m2,1,([],none,0,[]))) (⟨LevAt.start hc.a1 hc.b1 hc.a2 hc.b2 hc.n sV,by rw [bN];rfl,eW⟩) ⟨rfl,rfl,rfl,rfl,rfl,rfl,rfl,rfl,rfl,rfl,rfl,trivial⟩ ⟨rfl,rfl,rfl,rfl,rfl,rfl,trivial⟩ fun ⟨k,a,a',lv,(ws,wo,wc,wj)⟩=>fun hk=>?_
     obtain ⟨hL,hws,hoW⟩:=hk
     have hm2:=hL.2.2.1
     have hwl:ws.length≤4096:=by rw [hws,Hu,bC];omega
     by_cases he:vT a a' k1 k2 th
     · have hN:=hL.next he
       have hlv':=hN.lv gc1
       have hlv:=hL.lv gc1
       have hbk:=hN.2.2.1
       refine aK 10 [0,0] ?_
       refine bW rfl (VB _ _ _ k1 k2 _ _ _ hc.e1 hc.e2 sV sV ⟨hc.a1,hc.b1⟩ ⟨hc.a2,hc.b2⟩) ?_
       refine aJ 14 [1,0,0] ?_
       refine bW rfl (df _ _ _ k1 k2 _ _ hc.e1 hc.e2 sV sV ⟨hc.a1,hc.b1⟩ ⟨hc.a2,hc.b2⟩) ?_
       refine aJ 8 [] ?_
       refine fF (α:=Int) 922 [((↑(Go.Proofs.YtngphgeghfdjbaaGreatDoor.blkP a a' k1 k2):Int)),((↑lv:Int))] rfl T.sl24 T.el3 rfl rfl rfl rfl rfl fun b6=>?_
       refine nM (α:=Int) 31 rfl T.sl24 T.el3 rfl rfl rfl (by first | assumption | exact eW | exact iI tS) (fZ 922 rfl) LN LN fun a1 c1 junk1 ho1=>?_
       refine bJ 3 [] ?_
       refine oL [0,2,901,902,921,922,31] [] T.mixed rfl ?_
       refine fM 0 [] [] ?_
       refine fM 1 [] [] ?_
       refine fM 2 [] [] ?_
       refine fM 3 [] [] ?_
       refine fM 4 [0] [0] ?_
       refine fM 5 [] [] ?_
       refine gD 6 [] rfl (mE rfl rfl sV) ?_
       refine fM 7 [] [] ?_
       refine fM 8 [] [] ?_
       refine fM 9 [] [] ?_
       refine dV ?_
       refine gZ 1 [] ?_
       refine cZ 22 rfl (show _=Value.int .i64 ((lv*u.pl.length:Nat):Int) from congrArg _ (cJ _ _).symm) ?_
       refine Ar.again ((k+1,blkP a a' k1 k2,blkP a a' k1 k2,lv*u.pl.length,(ws++[(blkP a a' k1 k2:Int),(lv:Int)],a1,c1,junk1))) ?_ ?_ rfl ⟨rfl,rfl,rfl,rfl,rfl,rfl,rfl,rfl,rfl,rfl,rfl,trivial⟩ ⟨rfl,rfl,rfl,rfl,rfl,rfl,trivial⟩
       · exact ⟨hN,by rw [Lr (hL.here he),hws],ho1⟩
       exact Pj he
     have hkL:=hL.done he
     rw [hkL,eQ] at hws
     refine Wc.freezeRow 31 rfl hoW fun G5 hl5 hwant=>?_
     refine aK 10 [0,0] ?_
     refine bW rfl (VB _ _ _ k1 k2 _ _ _ hc.e1 hc.e2 sV sV ⟨hc.a1,hc.b1⟩ ⟨hc.a2,hc.b2⟩) ?_
     refine bJ 9 [0] ?_
     refine oL [0,2,901,902,921] [] T.mixed rfl ?_
     refine fM 0 [] [] ?_
     refine fM 1 [] [] ?_
     refine fM 2 [] [] ?_
     refine Wg 122 rfl uU ?_
     refine oT 3 [2] tC rfl rfl rfl rfl (Di 2 T.agg37 rfl rfl rfl) ?_
     refine oT 4 [0] tC rfl rfl rfl rfl (Di 0 T.agg28 rfl rfl rfl) ?_
     refine oT 5 [] tC rfl rfl rfl rfl (oM rfl) ?_
     refine oT 6 [] tC rfl rfl rfl rfl (oM rfl) ?_
     refine oT 7 [] tC rfl rfl rfl rfl (oM rfl) ?_
     refine fE 8 ?_
     refine aA 1 [] ?_
     refine bW rfl (c19 _ u h k1 k2 hc hst th _ m1 m2 rfl sV) ?_
     refine dW ?_
     refine oT 9 [] tC rfl rfl rfl rfl (Ek [_,_,_,_] [_,_,_,_] T.ai37 rfl rfl rfl rfl) ?_
     refine fM 10 [] [] ?_
     refine fM 11 [] [] ?_
     refine Gm.cases 131 rfl (fun hg1=>?_) fun hg1=>?_
     refine oT 12 [902] tC rfl rfl rfl rfl (Qy.load 902 T.one24 rfl rfl rfl) ?_
     refine oT 13 [] tC rfl rfl rfl rfl (oM rfl) ?_
     refine fE 14 ?_
     refine aA 1 [] ?_
     refine bW rfl (c35 _ xs ws _ _ _ _ (hgot.up hl5) hwant sV sV) ?_
     refine dW ?_
     refine fM 15 [] [] ?_
     refine fM 16 [] [] ?_
     refine dV ?_
     refine gZ 2 [] ?_
     refine nW (.inr rfl) 921 rfl ?_
     refine nW (.inr rfl) 901 rfl ?_
     refine lH (.inr rfl) ?_
     rotate_left
     refine Qn 12 tC rfl rfl rfl rfl ?_
     refine Qn 13 tC rfl rfl rfl rfl ?_
     refine Qn 14 tC rfl rfl rfl rfl ?_
     refine fM 15 [] [] ?_
     refine fM 16 [] [] ?_
     refine dV ?_
     refine gZ 2 [] ?_
     refine nW (.inr rfl) 921 rfl ?_
     refine nW (.inr rfl) 901 rfl ?_
     refine lH (.inr rfl) ?_
     rotate_left
     · refine Ar.base ?_
       refine bO ?_
       exact ⟨by rw [hxs,hws,cL rfl],rfl⟩
     exact absurd rfl sW
   exact hi.elim
end
end Go.Proofs.YtngphgeghfdjbaaGreatDoor
namespace Go.Sl.Ev
open Go Go.Sl
def s4 {β:Sort _} (a b c d:β) (n:Nat):β:=Nat.rec (motive:=fun _=>β) a (fun n _=>Nat.rec (motive:=fun _=>β) b (fun n _=>Nat.rec (motive:=fun _=>β) c (fun _ _=>d) n) n) n
theorem QX {β:Sort _} (a b c d:β):s4 a b c d 0=a:=rfl
theorem QY {β:Sort _} (a b c d:β):s4 a b c d 1=b:=rfl
theorem QZ {β:Sort _} (a b c d:β):s4 a b c d 2=c:=rfl
theorem RA {β:Sort _} (a b c d:β):s4 a b c d 3=d:=rfl
inductive Tr (α:Type) where
 | e
 | n (x:Option α) (a b c d:Tr α)
def Tr.get {α:Type} (t:Tr α):Nat→Option α:=
 Tr.rec (motive:=fun _=>Nat→Option α) (fun _=>none) (fun x _ _ _ _ ga gb gc gd k=>Nat.rec (motive:=fun _=>Option α) x (fun m _=>s4 ga gb gc gd (Nat.mod m 4) (Nat.div m 4)) k) t
def Tr.put {α:Type} (v:Option α) (ih:Tr α→Nat→Tr α) (k:Nat) (x:Option α) (a b c d:Tr α):Tr α:=
 Nat.rec (motive:=fun _=>Tr α) (.n v a b c d) (fun m _=>s4 (.n x (ih a (Nat.div m 4)) b c d) (.n x a (ih b (Nat.div m 4)) c d) (.n x a b (ih c (Nat.div m 4)) d) (.n x a b c (ih d (Nat.div m 4))) (Nat.mod m 4)) k
def Tr.set {α:Type} (v:Option α) (f:Nat):Tr α→Nat→Tr α:=
 Nat.rec (motive:=fun _=>Tr α→Nat→Tr α) (fun t _=>t) (fun _ ih t k=>Tr.rec (motive:=fun _=>Tr α) (Tr.put v ih k none .e .e .e .e) (fun x a b c d _ _ _ _=>Tr.put v ih k x a b c d) t) f
theorem Lw {α:Type} (a b c d:Tr α) (x:Option α) (m:Nat):Tr.get (.n x a b c d) (m+1)=s4 a.get b.get c.get d.get (Nat.mod m 4) (Nat.div m 4):=rfl
theorem Vd {α:Type} (v:Option α) (f k:Nat):Tr.set v (f+1) (.e:Tr α) k=Tr.set v (f+1) (.n none .e .e .e .e) k:=rfl
theorem JG {α:Type} (v:Option α) (f:Nat) (a b c d:Tr α) (x:Option α):Tr.set v (f+1) (.n x a b c d) 0=.n v a b c d:=rfl
theorem Lx {α:Type} (v:Option α) (f m:Nat) (a b c d:Tr α) (x:Option α):Tr.set v (f+1) (.n x a b c d) (m+1) =
 s4 (.n x (Tr.set v f a (Nat.div m 4)) b c d) (.n x a (Tr.set v f b (Nat.div m 4)) c d) (.n x a b (Tr.set v f c (Nat.div m 4)) d) (.n x a b c (Tr.set v f d (Nat.div m 4))) (Nat.mod m 4):=rfl
theorem Xr (m:Nat):Nat.mod m 4=0∨Nat.mod m 4=1∨Nat.mod m 4=2∨Nat.mod m 4=3:=by
 have h:∀ k,k<4→k=0∨k=1∨k=2∨k=3:=sV
 exact h _ (nQ m tF)
theorem VC {i m r:Nat} (h1:Nat.mod i 4=r) (h2:Nat.mod m 4=r):(Nat.div i 4=Nat.div m 4)=(i+1=m+1):=by
 have e1:i % 4=r:=h1
 have e2:m % 4=r:=h2
 apply propext
 show (i / 4=m / 4)↔_
 constructor <;> intro h <;> omega
theorem VD {i m r s:Nat} (h1:Nat.mod i 4=r) (h2:Nat.mod m 4=s) (h:r≠s):¬(i+1=m+1):=fun e=>by
 have:i=m:=sV
 subst this
 exact h (h1.symm.trans h2)
theorem Xs {α:Type} (v:Option α):∀ (f:Nat) (t:Tr α) (k j:Nat),k<f→(Tr.set v f t k).get j=if j=k then v else t.get j:=by
 intro f
 induction f with
 | zero=>intro t k j h;omega
 | succ f ih =>
   have key:∀ (a b c d:Tr α) (x:Option α) (k j:Nat),k<f+1→(Tr.set v (f+1) (.n x a b c d) k).get j=if j=k then v else (Tr.n x a b c d).get j:=by
    intro a b c d x k j h
    cases k with
    | zero =>
      rw [JG]
      cases j with
      | zero=>rfl
      | succ i=>rw [aL (by omega)];rfl
    | succ m =>
      rw [Lx]
      have hm:Nat.div m 4<f:=by show m / 4<f;omega
      cases j with
      | zero =>
        rw [aL (by omega)]
        rcases Xr m with h1 | h1 | h1 | h1 <;> rw [h1] <;> rfl
      | succ i =>
        rcases Xr m with h1 | h1 | h1 | h1 <;> rcases Xr i with h2 | h2 | h2 | h2 <;> simp only [h1,QX,QY,QZ,RA,Lw,h2] <;>
         first
         | (rw [aL (VD h2 h1 tF)])
         | (simp only [ih _ _ _ hm,VC h2 h1])
   intro t k j h
   cases t with
   | e =>
     rw [Vd,key _ _ _ _ _ _ _ h]
     congr 1
     cases j with
     | zero=>rfl
     | succ i=>rw [Lw];rcases Xr i with h2 | h2 | h2 | h2 <;> rw [h2] <;> rfl
   | n x a b c d=>exact key a b c d x k j h
abbrev eP:=@Xs
end Go.Sl.Ev
end
