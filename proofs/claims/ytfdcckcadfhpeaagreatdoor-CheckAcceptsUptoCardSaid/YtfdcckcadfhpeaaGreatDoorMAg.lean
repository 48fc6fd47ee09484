/- cK of the proof (part 7): what the rows' text needs of the texts that lead to it. -/
import Derived.Test.YtfdcckcadfhpeaaGreatDoorMAf
set_option linter.unusedVariables false
set_option linter.unusedSimpArgs false
set_option linter.unusedSectionVars false
set_option maxHeartbeats 4000000
noncomputable section
set_option maxRecDepth 100000
namespace Go.Proofs.YtfdcckcadfhpeaaGreatDoor
open Go Go.Sl
theorem xX (a b c d:Int):sT a b c d↔sT c d a b:=by
 unfold sT
 by_cases h:(a=0∧b=0)∨(c=0∧d=0)
 · rw [if_pos h,if_pos h.symm];exact And.comm
 rw [if_neg h,if_neg (fun h2=>h h2.symm)];omega
instance (l:List R2):Decidable (jO l):=Classical.propDecidable _
theorem c104D (G:Imm) (a:Option Addr) (c:Nat) (l:List R2) (ha:Arr G a l) (h1:l.length≤1048576):Does Tryz.prog 104 [.slice a l.length c,.func (.func 105) #[] #[]] G [] (fun v G' Ho=>v=.bool (decide (jO l))∧G'=G∧Ho=[]):=by
 refine (c104 G a c l ha h1).mono fun v G' Ho _ ⟨b,e,h1,h2,h3⟩=>?_
 subst e
 refine ⟨?_,h2,h3⟩
 congr 1
 by_cases h:jO l
 · rw [decide_eq_true h];exact h1.2 h
 rw [decide_eq_false h]
 exact Bool.eq_false_iff.2 (fun h2=>h (h1.1 h2))
theorem c35 (G:Imm) (k1 k2:Int) (a:Option Addr) (c:Nat) (l:List R2) (ha:Arr G a l) (hl:l.length≤1048576) :
 Does Tryz.prog 35 [.agg #[.int .i64 k1,.int .i64 k2,.slice a l.length c]] G [] (fun v G' Ho=>v=.int .i64 (cA k1 k2 l)∧G'=G∧Ho=[]):=by
 refine D0 Tryz.func35 Tryz.ntmps35 fun w=>?_
 refine Wc.gl 2 [] ?_
 refine Wl.x 0 fun b1=>?_
 refine Wl.gl 10 [0] ?_
 apply aG 4 9 13 rfl
 intro hg1
 refine aA 7 [0] ?_
 exact Wl.b 4 0
 intro hg1
 refine aA 4 [] ?_
 exact Wl.b 4 0
 refine aA 1 [] ?_
 apply aG 4 14 18 rfl
 intro hg1
 refine aA 7 [0] ?_
 exact Wl.b 4 0
 intro hg1
 refine aA 4 [] ?_
 exact Wl.b 4 0
 refine aA 1 [] ?_
 apply aG 4 19 23 rfl
 intro hg1
 refine aA 7 [0] ?_
 exact Wl.b 4 0
 intro hg1
 refine aA 4 [] ?_
 exact Wl.b 4 0
 refine Wl.gc 2 [] ?_
 refine Wc.i (fun hc1=>?_) fun hc1=>?_
 refine Wc.ga 7 [] ?_
 refine Ar.e1 ?_
 rotate_left
 refine Wc.gc 9 [] ?_
 rotate_left
 · exact ⟨congrArg _ (lV (by unfold cK;omega)).symm,rfl,rfl⟩
 have hP:cK k1∧cK k2:=by unfold cK;omega
 refine Wc.lp (ι:=Nat) (fun j=>([(3,.int .i64 (j:Int)),(1,.pointer (some ⟨b1,0,none⟩))],[(0,some b1,.cells #[.int .i64 k1,.int .i64 k2,.slice a (List.length l) c] 62)])) (fun j=>j≤l.length∧∀ i:Nat,i<j→cD (l[i]?.getD default).a (l[i]?.getD default).b) (fun j=>l.length - j) (0) (⟨Nat.zero_le _,fun i h=>absurd h (by omega)⟩) fun j=>fun hk=>?_
 obtain ⟨hj,hno⟩:=hk
 refine Wc.gc 10 [0] ?_
 refine Wc.i (fun hc2=>?_) fun hc2=>?_
 refine Wc.gl 9 [0] ?_
 refine Wl.at (α:=R2) T.sl22 ?_
 refine Wl.le T.agg52 ?_
 refine Wl.k0 rfl (by apply c69 <;> first | assumption | omega | rfl) ?_
 refine Wl.p (aW rfl) ?_
 refine Wl.gc 2 [] ?_
 refine Wc.i (fun hc3=>?_) fun hc3=>?_
 refine Wc.ga 11 [] ?_
 refine Ar.e1 ?_
 rotate_left
 refine Wc.ga 8 [] ?_
 rotate_left
 refine Wc.gc 20 [0,0,0] ?_
 refine Wc.i (fun hc3=>?_) fun hc3=>?_
 refine Wc.ga 7 [] ?_
 refine Ar.e1 ?_
 rotate_left
 refine Wc.gc 9 [] ?_
 rotate_left
 · exact ⟨congrArg _ (uS (fun h=>absurd (h j (by omega)) ‹_›)).symm,rfl,rfl⟩
 · refine aH (j+1) ?_ ?_
   · refine ⟨by omega,fun i hi=>?_⟩
     rcases Nat.lt_or_ge i j with h | h
     · exact hno i h
     have e:i=j:=by omega
     subst e;exact Decidable.not_not.1 ‹_›
   omega
 · have hA:mX l:=fun i hi=>hno i (by omega)
   exact ⟨congrArg _ (rP hP hA (by omega)).symm,rfl,rfl⟩
 have hA:mX l:=fun i hi=>hno i (by omega)
 have hnear:∀ i:Nat,i<l.length→cD (l[i]?.getD default).a (l[i]?.getD default).b:=hA
 clear hno
 have hL:(l.length:Int)=k1+k2 - 1:=by omega
 refine Wc.lp (ι:=Nat) (fun m=>([(4,.int .i64 (m:Int)),(1,.pointer (some ⟨b1,0,none⟩))],[(0,some b1,.cells #[.int .i64 k1,.int .i64 k2,.slice a (List.length l) c] 62)])) (fun m=>m≤l.length∧∀ i:Nat,i<m→¬((l[i]?.getD default).a=0∧(l[i]?.getD default).b=0)∧∀ k:Nat,k<i→¬sT (l[i]?.getD default).a (l[i]?.getD default).b (l[k]?.getD default).a (l[k]?.getD default).b) (fun m=>l.length - m) (0) (⟨Nat.zero_le _,fun i h=>absurd h (by omega)⟩) fun m=>fun hk=>?_
 obtain ⟨hm,hn2⟩:=hk
 refine Wc.gc 10 [0] ?_
 refine Wc.i (fun hc4=>?_) fun hc4=>?_
 refine Wc.gl 10 [0] ?_
 refine Wl.at (α:=R2) T.sl22 ?_
 refine Wl.le T.agg52 ?_
 refine Wl.k0 rfl (by apply c70 <;> first | assumption | omega | rfl) ?_
 refine Wl.gc 2 [] ?_
 refine Wc.i (fun hc5=>?_) fun hc5=>?_
 refine Wc.ga 12 [] ?_
 refine Ar.e1 ?_
 rotate_left
 refine Wc.gc 8 [] ?_
 rotate_left
 refine Wc.ga 11 [] ?_
 refine Ar.e1 ?_
 rotate_left
 · exact ⟨congrArg _ (kQ hP hA (.inl ⟨m,by omega,by assumption⟩)).symm,rfl,rfl⟩
 · refine Wc.lp (ι:=Nat) (fun k=>([(5,.int .i64 (k:Int)),(4,.int .i64 (↑m:Int)),(1,.pointer (some ⟨b1,0,none⟩))],[(0,some b1,.cells #[.int .i64 k1,.int .i64 k2,.slice a (List.length l) c] 62)])) (fun k=>k≤m∧∀ i:Nat,i<k→¬sT (l[m]?.getD default).a (l[m]?.getD default).b (l[i]?.getD default).a (l[i]?.getD default).b) (fun k=>m - k) (0) (⟨Nat.zero_le _,fun i h=>absurd h (by omega)⟩) fun k=>fun hk=>?_
   obtain ⟨hk0,hn3⟩:=hk
   refine Wc.gc 8 [] ?_
   refine Wc.i (fun hc6=>?_) fun hc6=>?_
   refine Wc.gc 5 [] ?_
   refine aN [0] [] T.mixed [[0],[1,0],[2]] ?_
   refine Gm.at (α:=R2) 3 T.sl22 ?_
   refine Gm.le 4 T.agg52 ?_
   refine Gm.r [[5],[6,0],[7]] ?_
   refine Gm.at (α:=R2) 8 T.sl22 ?_
   refine Gm.le 9 T.agg52 ?_
   refine Gm.o1 10 ?_
   refine Wl.k0 rfl (c71 _ _ _ _ _ (hnear _ (by omega)) (hnear _ (by omega))) ?_
   refine aZ ?_
   refine Ar.next ?_
   refine Wc.i (fun hc7=>?_) fun hc7=>?_
   refine Wc.ga 15 [] ?_
   refine Ar.e1 ?_
   rotate_left
   refine Wc.ga 8 [] ?_
   rotate_left
   refine Wc.ga 11 [] ?_
   rotate_left
   · exact ⟨congrArg _ (kQ hP hA (.inr ((aBZ l).2 ⟨m,by omega,k,by omega,hnear k (by omega),hnear m (by omega),(xX _ _ _ _).1 ‹_›⟩))).symm,rfl,rfl⟩
   · refine aH (k+1) ?_ ?_
     · refine ⟨by omega,fun i hi=>?_⟩
       rcases Nat.lt_or_ge i k with h | h
       · exact hn3 i h
       have e:i=k:=by omega
       subst e;assumption
     omega
   refine aH (m+1) ?_ ?_
   · refine ⟨by omega,fun i hi=>?_⟩
     rcases Nat.lt_or_ge i m with h | h
     · exact hn2 i h
     have e:i=m:=by omega
     subst e;exact ⟨by assumption,fun k0 h0=>hn3 k0 (by omega)⟩
   omega
 refine ⟨congrArg _ (aCD hP hA hL ?_).symm,rfl,rfl⟩
 rintro (⟨i,hi,h0⟩ | h0)
 · exact (hn2 i (by omega)).1 h0
 obtain ⟨j0,hj0,i0,hi0,_,_,h1⟩:=(aBZ l).1 h0
 exact (hn2 j0 (by omega)).2 i0 hi0 ((xX _ _ _ _).1 h1)
theorem c54 (G:Imm) (k1 k2:Int) (a:Option Addr) (c:Nat) (l:List R2) (ha:Arr G a l) (hl:l.length≤1048576) (hlc:l.length≤c) :
 Does Tryz.prog 54 [.int .i64 k1,.int .i64 k2,.slice a l.length c] G [] (fun v G' Ho=>∃ pv:Value,v=.tuple #[pv,.int .i64 (cA k1 k2 l)]∧Ho=[]):=by
 refine D0 Tryz.func54 Tryz.ntmps54 fun w=>?_
 refine Wc.gl 10 [] ?_
 refine Wl.k0 rfl (by apply c103 <;> first | assumption | omega | rfl) ?_
 refine Wl.p (aW rfl) ?_
 refine aA 1 [] ?_
 apply aG 4 16 20 rfl
 intro hg1
 refine aA 3 [] ?_
 refine Wl.k0 rfl (by apply c103 <;> first | assumption | omega | rfl) ?_
 refine aA 1 [] ?_
 refine Wl.p (aW rfl) ?_
 refine aA 1 [] ?_
 exact Wl.b 4 0
 intro hg1
 refine aA 4 [] ?_
 exact Wl.b 4 0
 refine Wl.gc 2 [] ?_
 refine Wc.i (fun hc1=>?_) fun hc1=>?_
 refine Wc.ga 8 [] ?_
 rotate_left
 refine Wc.gc 11 [] ?_
 rotate_left
 · refine Ar.e2 ?_
   exact ⟨_,by rw [lV (by unfold cK;omega)],rfl⟩
 have hP:cK k1∧cK k2:=by unfold cK;omega
 refine Wc.lp (ι:=Nat) (fun j=>([(23,.int .i64 (j:Int)),(0,.int .i64 k1),(1,.int .i64 k2),(2,.slice a l.length c),(22,.int .i64 (l.length:Int)),(21,.slice a (List.length l) c)],[])) (fun j=>j≤l.length∧∀ i:Nat,i<j→cD (l[i]?.getD default).a (l[i]?.getD default).b) (fun j=>l.length - j) (0) (⟨Nat.zero_le _,fun i h=>absurd h (by omega)⟩) fun j=>fun hk=>?_
 obtain ⟨hj,hno⟩:=hk
 refine Wc.gc 6 [] ?_
 refine Wc.i (fun hc2=>?_) fun hc2=>?_
 refine Wc.gl 6 [] ?_
 refine Wl.at (α:=R2) T.sl22 ?_
 refine Wl.le T.agg52 ?_
 refine Wl.alloc 0 rfl T.zero52 fun b1=>?_
 refine Wl.gl 6 [0,0] ?_
 refine Wl.k0 rfl (by apply c72 <;> first | assumption | omega | rfl) ?_
 refine Wl.p (aW rfl) ?_
 refine Wl.gc 2 [] ?_
 refine Wc.i (fun hc3=>?_) fun hc3=>?_
 refine Wc.ga 12 [] ?_
 rotate_left
 refine Wc.ga 7 [] ?_
 rotate_left
 refine Wc.gl 16 [] ?_
 apply aG 3 38 41 rfl
 intro hg1
 refine aA 3 [] ?_
 refine Wl.k0 rfl (c104D _ _ _ _ ‹_› (by omega)) ?_
 refine aA 1 [] ?_
 exact Wl.b 3 0
 intro hg1
 refine aA 3 [] ?_
 exact Wl.b 3 0
 refine Wl.gc 2 [] ?_
 refine Wc.i (fun hc3=>?_) fun hc3=>?_
 refine Wc.ga 8 [] ?_
 rotate_left
 refine Wc.gl 5 [] ?_
 refine Wl.k 0 rfl (c106 _ _ _ _ ‹_› (by omega) (by first | assumption | omega)) fun v1 G1 Ho1 hle1 hp=>?_
 obtain ⟨ti1,tj1,tb1,rfl,htb1,rfl,rfl⟩:=hp
 refine Wl.gc 15 [] ?_
 refine lE rfl (fun hc4=>?_) fun hc4=>?_
 refine Wc.ga 8 [] ?_
 rotate_left
 refine Wc.gl 7 [] ?_
 refine Wl.k 0 rfl (c33F _ _ _ _ ‹_› (by omega)) fun v2 G2 Ho2 hle2 hp=>?_
 obtain ⟨s2,d2,rfl,hs2,hsd2,rfl⟩:=hp
 refine Wl.p (Qy.build (cs:=[_,_,_]) T.st176 rfl rfl rfl) ?_
 refine Wl.x 0 fun b1=>?_
 refine Wl.ga 5 [] ?_
 rotate_left
 · refine Ar.e2 ?_
   exact ⟨_,by rw [uS (fun h=>absurd (h j (by omega)) ‹_›)],rfl⟩
 · refine Ar.re 23 rfl (show _=Value.int .i64 ((j+1:Nat):Int) from rfl) ?_
   refine aH (j+1) ?_ ?_
   · refine ⟨by omega,fun i hi=>?_⟩
     rcases Nat.lt_or_ge i j with h | h
     · exact hno i h
     have e:i=j:=by omega
     subst e;exact Decidable.not_not.1 ‹_›
   omega
 · have hA:mX l:=fun i hi=>hno i (by omega)
   have e:cA k1 k2 l=71:=hc3.elim (fun h=>rP hP hA h) (fun h=>kQ hP hA (.inl h))
   refine Ar.e2 ?_
   exact ⟨_,by rw [e],rfl⟩
 · have hA:mX l:=fun i hi=>hno i (by omega)
   have e:cA k1 k2 l=71:=kQ hP hA (.inr (htb1.1 ‹_›))
   refine Ar.e2 ?_
   exact ⟨_,by rw [e],rfl⟩
 have hA:mX l:=fun i hi=>hno i (by omega)
 have e:cA k1 k2 l=0:=aCD hP hA (Classical.byContradiction fun h=>hc3 (.inl h)) (fun h=>h.elim (fun h=>hc3 (.inr h)) (fun h=>absurd (htb1.2 h) (by rw [hc4];decide)))
 refine Ar.e2 ?_
 exact ⟨_,by rw [e],rfl⟩
theorem c87 (G:Imm) (a:Option Addr) (c:Nat) (l:List R2) (ha:Arr G a l) (hl:l.length≤1048576) (hR:fC l) :
 Does Tryz.prog 87 [.slice a l.length c] G [] (fun v G' Ho=>v=.bool (decide (1=1))∧G'=G∧Ho=[]):=by
 refine D0 Tryz.func87 Tryz.ntmps87 fun w=>?_
 refine Wc.gc 14 [] ?_
 refine Wc.lp (ι:=Nat) (fun j=>([(7,.int .i64 (j:Int)),(6,.int .i64 (l.length:Int)),(5,.slice a (List.length l) c),(0,.slice a (List.length l) c)],[])) (fun j=>j≤l.length) (fun j=>l.length - j) (0) (Nat.zero_le _) fun j=>fun (hk:j≤l.length)=>?_
 refine Wc.gc 6 [] ?_
 refine Wc.i (fun hc1=>?_) fun hc1=>?_
 refine Wc.gl 6 [] ?_
 refine Wl.at (α:=R2) T.sl22 ?_
 refine Wl.le T.agg52 ?_
 refine Wl.alloc 0 rfl T.zero52 fun b1=>?_
 refine Wl.gl 6 [0,0] ?_
 refine Wl.k0 rfl (by apply c72 <;> first | assumption | omega | rfl) ?_
 refine Wl.p (aW rfl) ?_
 refine Wl.gc 2 [] ?_
 refine Wc.i (fun hc2=>?_) fun hc2=>?_
 refine Wc.ga 11 [] ?_
 rotate_left
 refine Wc.ga 7 [] ?_
 rotate_left
 refine Wc.gl 11 [] ?_
 apply aM 4 18 22 rfl
 intro hg1
 refine aA 7 [] ?_
 exact Wl.b 4 0
 intro hg1
 refine aA 4 [] ?_
 exact Wl.b 4 0
 refine Wl.ga 4 [] ?_
 rotate_left
 · exfalso
   have h:=(hR.2.2.1 j (by omega)).1
   exact absurd h ‹_›
 · refine Ar.re 7 rfl (show _=Value.int .i64 ((j+1:Nat):Int) from rfl) ?_
   refine aH (j+1) ?_ ?_
   · omega
   omega
 refine Ar.e1 ?_
 have h1:=hR.1
 have h2:=hR.2.1
 exact ⟨by rw [decide_eq_true (by omega),decide_eq_true rfl],rfl,rfl⟩
theorem aCJ {x y:Int}:bL x y=0↔x=y:=by
 unfold bL
 split
 · omega
 split <;> omega
theorem aEK {a b:Int} {n:Nat} (h:cD a b) (hn:n≤15):Below 2 (dQ a b n):=fun z hz=>by
 rw [zK];exact (rO h hn).2 z hz
theorem c155S (G:Imm) (p:PV) (ac ao ga:Option Addr) (cc co gc:Nat) (gl:List SV) (gs:List (List Int)) (m N:Nat) (hc:Arr G ac p.code) (ho:Arr G ao p.outs) (hga:Arr G ga gl) (hgg:BGrid G gl gs) (hev:EvenB m N gs) (hmm:m≤1048576) (hN:N≤4096) (hR:aP p=true) (hgi:(gl.length:Int)=p.ins) (os:List (List Int)) (hf:bP p gs=some os) :
 Does Tryz.prog 155 [.agg #[.int .i64 p.ins,.int .i64 p.regs,.slice ac p.code.length cc,.slice ao p.outs.length co],.slice ga gl.length gc] G [] (fun v G' Ho=>∃ b r c',v=.tuple #[.slice b (List.length r) c',.int .i64 0,.int .i64 0]∧Arr G' b r∧BGrid G' r os∧EvenB (m+3*p.code.length) N os∧Ho=[]):=by
 refine (c155 G p ac ao ga cc co gc gl gs m N hc ho hga hgg hev hmm hN hR hgi).mono fun v G' Ho _ h=>?_
 obtain ⟨h0,⟨os2,b,r,c',h1,h2,h3,h4,h5,h6⟩ | ⟨h1,_⟩⟩:=h
 · rw [hf] at h1
   obtain rfl:=Option.some.inj h1
   exact ⟨b,r,c',h2,h3,h5,h6,h0⟩
 rw [hf] at h1;cases h1
section
attribute [local irreducible] aB aD pb pw bL bK p2 dQ dD bP aP cY cst doI
theorem c108 (G:Imm) (p:PV) (ac ao a:Option Addr) (cc co c k:Nat) (l:List R2) (hc:Arr G ac p.code) (ho:Arr G ao p.outs) (ha:Arr G a l) (hcl:p.code.length≤16384) (hol:p.outs.length≤1099511627776) (hRL:fC l) (hR:aP p=true) (hk1:1≤k) (hk8:k≤8) :
 Does Tryz.prog 108 [.agg #[.int .i64 p.ins,.int .i64 p.regs,.slice ac p.code.length cc,.slice ao p.outs.length co],.int .i64 (k:Int),.slice a l.length c] G [] (fun v G' Ho=>v=.tuple #[.bool (decide (eB p (k:Int) l)),.int .i64 0]∧Ho=[]):=by
 have hl15:l.length≤15:=hRL.2.1
 have hnr:∀ i:Nat,i<l.length→cD (l[i]?.getD default).a (l[i]?.getD default).b:=fun i hi=>(hRL.2.2.1 i hi).1
 refine D0 Tryz.func108 Tryz.ntmps108 fun w=>?_
 refine Wc.gl 2 [] ?_
 refine Wl.x 0 fun b1=>?_
 refine Wl.gl 10 [] ?_
 refine dB 22 ?_
 refine aA 6 [] ?_
 refine dB 26 ?_
 refine aA 3 [] ?_
 refine Wl.k0 rfl (c87 _ _ _ _ ‹_› (by omega) hRL) ?_
 refine aA 1 [] ?_
 refine Wl.p (aW rfl) ?_
 refine Wl.gl 9 [0,0] ?_
 refine Wl.k0 rfl (aCF _ p _ _ _ _ ‹_› ‹_› (by omega) hol hR) ?_
 refine Wl.gl 25 [0,0] ?_
 apply aG 7 43 50 rfl
 intro hg1
 refine aA 13 [0] ?_
 exact Wl.b 7 0
 intro hg1
 refine aA 7 [] ?_
 exact Wl.b 7 0
 refine Wl.gc 2 [] ?_
 refine Wc.i (fun hc1=>?_) fun hc1=>?_
 refine Wc.ga 8 [] ?_
 rotate_left
 refine Wc.gc 12 [0] ?_
 rotate_left
 · refine Ar.e2 ?_
   exact ⟨by rw [decide_eq_false (fun h=>hc1.elim (fun h2=>h2 h.1) (fun h2=>h2 (by have:=h.2.1;omega)))],rfl⟩
 have hI:p.ins=(k:Int):=Classical.byContradiction fun h=>hc1 (.inl h)
 have hO:p.outs.length=l.length:=Classical.byContradiction fun h=>hc1 (.inr (by omega))
 refine Wc.lp (ι:=Nat) (fun j=>([(54,.int .i64 (j:Int)),(1,.int .i64 (k:Int)),(2,.slice a l.length c),(53,.int .i64 (↑(List.length (PV.code p)):Int)),(52,.slice ac (List.length (PV.code p)) cc),(9,.int .i64 0),(3,.pointer (some ⟨b1,0,none⟩))],[(0,some b1,.cells #[.int .i64 (PV.ins p),.int .i64 (PV.regs p),.slice ac (List.length (PV.code p)) cc,.slice ao (List.length (PV.outs p)) co] 26)])) (fun j=>j≤p.code.length∧∀ i:Nat,i<j→¬((p.code[i]?.getD default).op=6∨(p.code[i]?.getD default).op=8)) (fun j=>p.code.length - j) (0) (⟨Nat.zero_le _,fun i h=>absurd h (by omega)⟩) fun j=>fun hk=>?_
 obtain ⟨hj,hno⟩:=hk
 rcases Nat.lt_or_ge j p.code.length with hjl | hjl
 · refine Wc.gl 13 [1] ?_
   refine Wl.at (α:=Sl.Instr) T.sl23 ?_
   refine Wl.le T.agg91 ?_
   refine Wl.alloc 1 rfl T.zero91 fun b2=>?_
   refine Wl.gl 9 [1,1] ?_
   apply aG 4 61 65 rfl
   intro hg1
   refine aA 7 [1] ?_
   exact Wl.b 4 0
   intro hg1
   refine aA 4 [] ?_
   exact Wl.b 4 0
   refine Wl.gc 2 [] ?_
   refine Wc.i (fun hc2=>?_) fun hc2=>?_
   refine Wc.ga 12 [] ?_
   rotate_left
   refine Wc.ga 7 [] ?_
   rotate_left
   · refine Ar.e2 ?_
     refine ⟨by rw [decide_eq_false (fun h=>h.2.2.1 (p.code[j]?.getD default) (by rw [List.getElem?_eq_getElem hjl];exact List.getElem_mem _) ‹_›)],rfl⟩
   refine Ar.re 54 rfl (show _=Value.int .i64 ((j+1:Nat):Int) from rfl) ?_
   refine aH (j+1) ?_ ?_
   · refine ⟨by omega,fun i hi=>?_⟩
     rcases Nat.lt_or_ge i j with h | h
     · exact hno i h
     have e:i=j:=by omega
     subst e;assumption
   show p.code.length - (j+1)<p.code.length - j
   omega
 have hND:xU p:=fun i hi=>by
  obtain ⟨t,ht,rfl⟩:=List.mem_iff_getElem.1 hi
  have:=hno t (by omega)
  rw [List.getElem?_eq_getElem ht] at this
  exact this
 obtain ⟨os,hf⟩:=pZ hND (dE k)
 have hosl:os.length=l.length:=by rw [gZ hf,hO]
 have hiff:eB p (k:Int) l↔∀ t:Nat,t<l.length→os[t]?.getD []=dQ (l[t]?.getD default).a (l[t]?.getD default).b k:=by
  rw [←aCC hosl]
  unfold eB
  rw [Int.toNat_natCast,hf]
  exact ⟨fun h=>Option.some.inj h.2.2.2,fun h=>⟨hI,hO,hND,by rw [h]⟩⟩
 refine Wc.gc 13 [0] ?_
 refine aN [0] [] T.mixed [[0,0],[1]] ?_
 refine Gm.o1 2 ?_
 refine Wl.k 1 rfl (c156 _ k (by omega)) fun v1 G1 Ho1 hle1 hp=>?_
 obtain ⟨us1,ur1,uc1,rfl,huA1,huB1,huL1,rfl⟩:=hp
 replace hc:=hc.up hle1
 replace ho:=ho.up hle1
 replace ha:=ha.up hle1
 refine Wl.o1 3 ?_
 refine Wl.k 1 rfl (c155S _ p _ _ _ _ _ _ _ (dE k) 2 k ‹_› ‹_› ‹_› ‹_› (uV (mW k)) (by omega) (by omega) hR (by rw [huB1.1,jN];omega) os hf) fun v2 G2 Ho2 hle2 hp=>?_
 obtain ⟨ob2,or2,oc2,rfl,hoA2,hoB2,hoE2,rfl⟩:=hp
 replace huA1:=huA1.up hle2
 replace hc:=hc.up hle2
 replace ho:=ho.up hle2
 replace ha:=ha.up hle2
 refine aO ?_
 refine Gm.r [[4],[5],[6],[7],[8],[9],[10]] ?_
 refine Gm.fin ?_
 refine Ar.gc 20 [0] ?_
 have hol2:or2.length=l.length:=by rw [hoB2.1];exact hosl
 refine Wc.lg (ι:=Nat×Imm) (fun (i,Gx)=>([(79,.int .i64 (i:Int)),(1,.int .i64 (k:Int)),(2,.slice a l.length c),(78,.int .i64 (l.length:Int)),(77,.slice a (List.length l) c),(12,.slice ob2 (List.length or2) oc2)],[(0,some b1,.cells #[.int .i64 (PV.ins p),.int .i64 (PV.regs p),.slice ac (List.length (PV.code p)) cc,.slice ao (List.length (PV.outs p)) co] 26)])) (fun (i,Gx)=>Gx) (fun (i,Gx)=>i≤l.length∧G2.le Gx∧∀ t:Nat,t<i→os[t]?.getD []=dQ (l[t]?.getD default).a (l[t]?.getD default).b k) (fun (i,Gx)=>l.length - i) ((0,G2)) (⟨Nat.zero_le _,Imm.le_refl _,fun t ht=>absurd ht (by omega)⟩) fun ⟨i,Gx⟩=>fun hk=>?_
 obtain ⟨hi0,hgx,hall⟩:=hk
 replace ha:=ha.up hgx
 replace hoA2:=hoA2.up hgx
 rcases Nat.lt_or_ge i l.length with hil | hil
 · have hnear:cD (l[((i:Nat):Int).toNat]?.getD default).a (l[((i:Nat):Int).toNat]?.getD default).b:=hnr i hil
   refine Wc.gl 14 [1] ?_
   refine Wl.at (α:=R2) T.sl22 ?_
   refine Wl.le T.agg52 ?_
   refine Wl.alloc 1 rfl T.zero52 fun b2=>?_
   refine Wl.gl 8 [1,1] ?_
   refine Wl.k 2 rfl (c157 _ _ _ k hnear (by omega)) fun v3 G3 Ho3 hle3 hp=>?_
   obtain ⟨ps3,pr3,pc3,rfl,hpA3,hpB3,hpL3,rfl⟩:=hp
   replace ha:=ha.up hle3
   replace hoA2:=hoA2.up hle3
   refine Wl.gl 11 [] ?_
   refine Wl.at (α:=SV) T.sl237 ?_
   refine bM 0 T.one68 ?_
   refine Wl.gc 5 [] ?_
   obtain ⟨q,hq1,hq2,hq3,hq4⟩:=(hoB2.up (Imm.le_trans hgx hle3)).2 i (by omega)
   have hE:=hoE2.at (k:=i) (by omega)
   have hql:q.length=k:=hq4.1.trans hE.1
   have hP:Below 2 (dQ (l[i]?.getD default).a (l[i]?.getD default).b k):=aEK (hnr i hil) (by omega)
   have hpl:pr3.length=k:=hpB3.1.trans (qA _ _ _)
   refine Wc.re 93 rfl (show _=Value.slice (or2[((i:Nat):Int).toNat]?.getD default).a q.length (or2[((i:Nat):Int).toNat]?.getD default).c by rw [hq1];rfl) ?_
   refine Wc.re 94 rfl (show _=Value.int .i64 (q.length:Int) by rw [hq1];rfl) ?_
   refine Wc.lp (ι:=Nat) (fun j=>([(95,.int .i64 (j:Int)),(93,.slice (or2[((i:Nat):Int).toNat]?.getD default).a q.length (or2[((i:Nat):Int).toNat]?.getD default).c),(94,.int .i64 (q.length:Int)),(16,.slice ps3 pr3.length pc3),(12,.slice ob2 or2.length oc2),(1,.int .i64 (k:Int)),(2,.slice a l.length c),(77,.slice a l.length c),(78,.int .i64 (l.length:Int)),(79,.int .i64 (i:Int))],[(1,some b2,.cells (List.toArray (Cells.enc (Option.getD l[Int.toNat (↑i:Int)]? default))) 52),(0,some b1,.cells #[.int .i64 (PV.ins p),.int .i64 (PV.regs p),.slice ac (List.length (PV.code p)) cc,.slice ao (List.length (PV.outs p)) co] 26)])) (fun j=>j≤k∧∀ t:Nat,t<j→(os[i]?.getD [])[t]?.getD 0=(dQ (l[i]?.getD default).a (l[i]?.getD default).b k)[t]?.getD 0) (fun j=>k - j) (0) (⟨Nat.zero_le _,fun i h=>absurd h (by omega)⟩) fun j=>fun hk=>?_
   obtain ⟨hj9,hjj⟩:=hk
   rcases Nat.lt_or_ge j k with hjk | hjk
   · have hx:=hq4.at (k:=(j:Int)) (by omega)
     have hy:=hpB3.at (k:=(j:Int)) (by omega)
     have hxn:=Big.len hx (hE.2.at _)
     have hyn:=Big.len hy (hP.at _)
     refine Wc.gl 14 [1] ?_
     refine Wl.at (α:=IV) T.sl68 ?_
     refine Wl.le T.agg125 ?_
     refine Wl.alloc 2 rfl T.zero125 fun b3=>?_
     refine Wl.gc 5 [2] ?_
     refine aN [0,1,2] [] T.mixed [[0,2],[1],[2]] ?_
     refine Gm.at (α:=IV) 3 T.sl68 ?_
     refine Gm.le 4 T.agg125 ?_
     refine Gm.o1 5 ?_
     refine Wl.k0 rfl (c137 _ _ _ _ _ hx hy (by omega) (by omega)) ?_
     refine aO ?_
     refine Gm.r [[6]] ?_
     refine Gm.fin ?_
     refine Ar.next ?_
     refine Wc.i (fun hc2=>?_) fun hc2=>?_
     refine Wc.ga 16 [] ?_
     rotate_left
     refine Wc.ga 7 [] ?_
     rotate_left
     · refine Ar.e2 ?_
       have hne:¬((os[i]?.getD [])[j]?.getD 0=(dQ (l[i]?.getD default).a (l[i]?.getD default).b k)[j]?.getD 0):=fun h=>absurd (aCJ.2 h) ‹_›
       exact ⟨by rw [decide_eq_false (fun h=>hne (by rw [hiff.1 h i hil]))],rfl⟩
     refine Ar.re 95 rfl (show _=Value.int .i64 ((j+1:Nat):Int) from rfl) ?_
     refine aH (j+1) ?_ ?_
     · refine ⟨by omega,fun t ht=>?_⟩
       rcases Nat.lt_or_ge t j with h | h
       · exact hjj t h
       have e:t=j:=by omega
       subst e;exact aCJ.1 (Decidable.not_not.1 ‹_›)
     show k - (j+1)<k - j
     omega
   have hjk:j=k:=by omega
   subst hjk
   refine Wc.ga 17 [0] ?_
   refine Ar.re 79 rfl (show _=Value.int .i64 ((i+1:Nat):Int) from rfl) ?_
   refine aH ((i+1,G3)) ?_ ?_
   · refine ⟨by omega,Imm.le_trans hgx hle3,fun t ht=>?_⟩
     rcases Nat.lt_or_ge t i with h | h
     · exact hall t h
     have e:t=i:=by omega
     subst e
     exact (aGE hE.1 (qA _ _ _)).2 hjj
   show l.length - (i+1)<l.length - i
   omega
 refine Wc.ga 19 [0] ?_
 refine Ar.e2 ?_
 exact ⟨by rw [decide_eq_true (hiff.2 (fun t ht=>hall t (by omega)))],rfl⟩
end
section
attribute [local irreducible] aB aD pb pw bL bK p2 dQ dD bP aP cY
theorem c117 (G:Imm) (x y:IV) (zx zy:Int) (hx:Num G x zx) (hy:Num G y zy) (h1:x.n≤1073741824) (h2:y.n≤1073741824) :
 Does Tryz.prog 117 [.agg (Cells.enc x).toArray,.agg (Cells.enc y).toArray] G [] (fun v G' Ho=>v=.bool (decide (zx=zy))∧G'=G∧Ho=[]):=by
 refine D0 Tryz.func117 Tryz.ntmps117 fun w=>?_
 refine Wc.gl 2 [] ?_
 refine Wl.x 0 fun b1=>?_
 refine Wl.x 1 fun b2=>?_
 refine Wl.gl 7 [0,1] ?_
 refine Wl.k0 rfl (aFU _ _ _ _ _ ‹_› ‹_› (by omega) (by omega)) ?_
 refine Wl.ga 5 [] ?_
 refine Ar.e1 ?_
 exact ⟨by congr 1;exact decide_eq_decide.mpr oK,rfl,rfl⟩
theorem c115 (G:Imm) (k:Nat) (hk15:k≤15):Does Tryz.prog 115 [.int .i64 (k:Int)] G [] (fun v G' Ho=>∃ (s:Option Addr) (r:List SV) (c':Nat),v=.slice s r.length c'∧Arr G' s r∧NGrid G' r (dE k)∧r.length≤c'∧Ho=[]):=by
 refine D0 Tryz.func115 Tryz.ntmps115 fun w=>?_
 refine bF 9 (Row 191 ([]:List SV) []) ?_
 refine Wc.gc 17 [] ?_
 refine cS (ι:=Nat×Imm×List SV×(Option Addr×Nat×List Value)) (fun (i,Gx,r,(o,d,j))=>([(4,.int .i64 (i:Int)),(3,.slice o r.length d),(2,.slice none 0 0),(0,.int .i64 (↑k:Int))],[(9,o.map (·.block),Row 191 r j)])) (fun (i,Gx,r,(o,d,j))=>Gx) (fun (i,Gx,r,(o,d,j))=>i≤k∧G.le Gx∧r.length=i∧NGrid Gx r ((dE k).take i)∧OwnA o d r j) (fun (i,Gx,r,(o,d,j))=>k - i) ((0,G,[],(none,0,[]))) (⟨Nat.zero_le _,Imm.le_refl _,rfl,by rw [List.take_zero];exact NGrid.nil _,OwnA.nil⟩) rfl ⟨rfl,rfl,rfl,rfl,trivial⟩ ⟨rfl,trivial⟩ fun ⟨i,Gx,r,(o,d,j)⟩=>fun hk=>?_
 obtain ⟨hi1,hi2,hi3,hi4,hi5⟩:=hk
 rcases Nat.lt_or_ge i k with hil | hil
 · refine Wc.gl 16 [1] ?_
   refine Wl.make (α:=IV) 10 rfl T.sl191 T.el190 rfl rfl (by omega) (by omega) fun b1=>?_
   refine Wl.gl 7 [] ?_
   refine Wl.k 11 rfl (aDX _ 1 (by decide)) fun v1 G1 Ho1 hle1 hp=>?_
   obtain ⟨ro1,rfl,hro1,rfl⟩:=hp
   have ho2:OwnA (some ⟨b1,0,none⟩) (List.replicate ((k:Int)).toNat (default:IV)).length (List.replicate ((k:Int)).toNat (default:IV)) []:=dV (by rw [List.length_replicate];simp only [maxLen];omega)
   refine Wl.p (eR (α:=IV) T.sl191 rfl rfl ho2 (by rw [List.length_replicate];omega)) ?_
   refine bG (α:=IV) (z:=ro1) (m:=((i:Nat):Int)) 10 T.size190 rfl rfl rfl ho2 (by rw [List.length_replicate];omega) rfl fun ho3=>?_
   refine Wl.freezeRow 10 rfl ho3 fun G3 hle3 hA3=>?_
   refine Wl.gl 5 [] ?_
   refine Wl.lit (α:=SV) 11 [⟨_,_,_⟩] rfl T.sl182 T.el191 rfl rfl rfl rfl rfl fun b2=>?_
   refine Wl.ap (α:=SV) 9 T.sl182 T.el191 (Src.row 11 rfl) fun a1 c1 junk1 ho1=>?_
   refine Wl.ga 9 [] ?_
   refine aH ((i+1,_,r++[⟨some ⟨b1,0,none⟩,(List.replicate ((k:Int)).toNat (default:IV)).length,(List.replicate ((k:Int)).toNat (default:IV)).length⟩],(a1,c1,junk1))) ?_ ?_
   · refine ⟨by omega,Imm.le_trans hi2 (Imm.le_trans hle1 hle3),by rw [List.length_append,hi3];rfl,?_,ho1⟩
     have e:(dE k).take (i+1)=(dE k).take i++[cY k i]:=by
      rw [List.take_add_one]
      congr 1
      unfold dE
      rw [List.getElem?_map,List.getElem?_range hil];rfl
     rw [e]
     exact NGrid.snoc (hi4.up (Imm.le_trans hle1 hle3)) ⟨_,by rw [List.length_set],Nat.le_refl _,hA3,(xT hro1 hil).up hle3⟩
   show k - (i+1)<k - i
   omega
 have hie:i=k:=by omega
 subst hie
 have e:(dE i).take i=dE i:=List.take_of_length_le (by rw [jN];exact Nat.le_refl _)
 rw [e] at hi4
 refine Wc.ga 21 [0] ?_
 refine Ar.freezeRow 9 rfl hi5 fun G8 hle8 hA8=>?_
 refine Ar.e1 ?_
 exact ⟨_,_,_,rfl,hA8,hi4.up hle8,hi5.le,rfl⟩
end
section
attribute [local irreducible] aB aD pb pw bL bK p2 dQ dD bP aP cY
theorem c58 (G:Imm) (p:PV) (ac ao a:Option Addr) (cc co c k:Nat) (l:List R2) (hc:Arr G ac p.code) (ho:Arr G ao p.outs) (ha:Arr G a l) (hcl:p.code.length≤16384) (hol:p.outs.length≤1099511627776) (hl15:l.length≤15) (hnr:∀ i:Nat,i<l.length→cD (l[i]?.getD default).a (l[i]?.getD default).b) (hR:aP p=true) (hk1:1≤k) (hk8:k≤8) :
 Does Tryz.prog 58 [.agg #[.int .i64 p.ins,.int .i64 p.regs,.slice ac p.code.length cc,.slice ao p.outs.length co],.int .i64 (k:Int),.slice a l.length c] G [] (fun v G' Ho=>v=.bool (decide (eB p (k:Int) l))∧Ho=[]):=by
 refine D0 Tryz.func58 Tryz.ntmps58 fun w=>?_
 refine Wc.gl 2 [] ?_
 refine Wl.x 0 fun b1=>?_
 refine Wl.gl 11 [0] ?_
 apply aG 7 18 25 rfl
 intro hg1
 refine aA 13 [0] ?_
 exact Wl.b 7 0
 intro hg1
 refine aA 7 [] ?_
 exact Wl.b 7 0
 refine Wl.gc 2 [] ?_
 refine Wc.i (fun hc1=>?_) fun hc1=>?_
 refine Wc.ga 7 [] ?_
 rotate_left
 refine Wc.gc 9 [] ?_
 rotate_left
 · refine Ar.e1 ?_
   exact ⟨by rw [decide_eq_false (fun h=>hc1.elim (fun h2=>h2 h.1) (fun h2=>h2 (by have:=h.2.1;omega)))],rfl⟩
 have hI:p.ins=(k:Int):=Classical.byContradiction fun h=>hc1 (.inl h)
 have hO:p.outs.length=l.length:=Classical.byContradiction fun h=>hc1 (.inr (by omega))
 refine Wc.lp (ι:=Nat) (fun j=>([(7,.int .i64 (j:Int)),(1,.int .i64 (k:Int)),(2,.slice a l.length c),(3,.pointer (some ⟨b1,0,none⟩))],[(0,some b1,.cells #[.int .i64 (PV.ins p),.int .i64 (PV.regs p),.slice ac (List.length (PV.code p)) cc,.slice ao (List.length (PV.outs p)) co] 26)])) (fun j=>j≤p.code.length∧∀ i:Nat,i<j→¬((p.code[i]?.getD default).op=6∨(p.code[i]?.getD default).op=8)) (fun j=>p.code.length - j) (0) (⟨Nat.zero_le _,fun i h=>absurd h (by omega)⟩) fun j=>fun hk=>?_
 obtain ⟨hj,hno⟩:=hk
 rcases Nat.lt_or_ge j p.code.length with hjl | hjl
 · refine Wc.gl 20 [0,1,0] ?_
   refine Wl.at (α:=Sl.Instr) T.sl23 ?_
   refine aA 1 [] ?_
   refine bM 0 T.one3 ?_
   refine aA 2 [] ?_
   apply aG 8 40 48 rfl
   intro hg1
   refine aA 7 [0] ?_
   refine Wl.at (α:=Sl.Instr) T.sl23 ?_
   refine aA 3 [] ?_
   refine bM 0 T.one3 ?_
   refine aA 3 [] ?_
   exact Wl.b 8 0
   intro hg1
   refine aA 8 [] ?_
   exact Wl.b 8 0
   refine Wl.gc 2 [] ?_
   refine Wc.i (fun hc2=>?_) fun hc2=>?_
   refine Wc.ga 11 [] ?_
   rotate_left
   refine Wc.ga 8 [] ?_
   rotate_left
   · refine Ar.e1 ?_
     refine ⟨by rw [decide_eq_false (fun h=>h.2.2.1 (p.code[j]?.getD default) ?_ ‹_›)],rfl⟩
     rw [List.getElem?_eq_getElem hjl];exact List.getElem_mem _
   refine aH (j+1) ?_ ?_
   · refine ⟨by omega,fun i hi=>?_⟩
     rcases Nat.lt_or_ge i j with h | h
     · exact hno i h
     have e:i=j:=by omega
     subst e;assumption
   show p.code.length - (j+1)<p.code.length - j
   omega
 have hND:xU p:=fun i hi=>by
  obtain ⟨t,ht,rfl⟩:=List.mem_iff_getElem.1 hi
  have:=hno t (by omega)
  rw [List.getElem?_eq_getElem ht] at this
  exact this
 obtain ⟨os,hf⟩:=pZ hND (dE k)
 have hosl:os.length=l.length:=by rw [gZ hf,hO]
 have hose:=sK hR (mW k) (by rw [jN];omega) hf
 have hiff:eB p (k:Int) l↔∀ t:Nat,t<l.length→os[t]?.getD []=dQ (l[t]?.getD default).a (l[t]?.getD default).b k:=by
  rw [←aCC hosl]
  unfold eB
  rw [Int.toNat_natCast,hf]
  exact ⟨fun h=>Option.some.inj h.2.2.2,fun h=>⟨hI,hO,hND,by rw [h]⟩⟩
 refine Wc.gc 17 [0,0] ?_
 refine aN [0] [] T.mixed [[0,0],[1]] ?_
 refine Gm.o1 2 ?_
 refine Wl.k 1 rfl (c115 _ k (by omega)) fun v1 G1 Ho1 hle1 hp=>?_
 obtain ⟨us1,ur1,uc1,rfl,huA1,huB1,huL1,rfl⟩:=hp
 replace hc:=hc.up hle1
 replace ho:=ho.up hle1
 replace ha:=ha.up hle1
 refine Wl.o1 3 ?_
 refine Wl.k 1 rfl (sJ _ p _ _ _ _ _ _ _ (dE k) k ‹_› ‹_› ‹_› (oL huB1) (mW k) (by omega) hR (by rw [huB1.1,jN];omega) hcl os hf) fun v2 G2 Ho2 hle2 hp=>?_
 obtain ⟨sv2,oa2,oc2,ol2,rfl,hoA2,hoG2,rfl⟩:=hp
 replace huA1:=huA1.up hle2
 replace hc:=hc.up hle2
 replace ho:=ho.up hle2
 replace ha:=ha.up hle2
 refine aO ?_
 refine Gm.r [[4],[5],[6],[7],[8],[9],[10]] ?_
 refine Gm.fin ?_
 refine Ar.gc 8 [] ?_
 have hol2:ol2.length=l.length:=by rw [hoG2.1];exact hosl
 refine Wc.lg (ι:=Nat×Imm) (fun (i,Gx)=>([(11,.int .i64 (i:Int)),(10,.slice oa2 (List.length ol2) oc2),(1,.int .i64 (↑k:Int)),(2,.slice a (List.length l) c)],[(0,some b1,.cells #[.int .i64 (PV.ins p),.int .i64 (PV.regs p),.slice ac (List.length (PV.code p)) cc,.slice ao (List.length (PV.outs p)) co] 26)])) (fun (i,Gx)=>Gx) (fun (i,Gx)=>i≤l.length∧G2.le Gx∧∀ t:Nat,t<i→os[t]?.getD []=dQ (l[t]?.getD default).a (l[t]?.getD default).b k) (fun (i,Gx)=>l.length - i) ((0,G2)) (⟨Nat.zero_le _,Imm.le_refl _,fun t ht=>absurd ht (by omega)⟩) fun ⟨i,Gx⟩=>fun hk=>?_
 obtain ⟨hi0,hgx,hall⟩:=hk
 replace ha:=ha.up hgx
 replace hoA2:=hoA2.up hgx
 rcases Nat.lt_or_ge i l.length with hil | hil
 · have hnear:cD (l[((i:Nat):Int).toNat]?.getD default).a (l[((i:Nat):Int).toNat]?.getD default).b:=hnr i hil
   refine Wc.gl 18 [1] ?_
   refine Wl.at (α:=R2) T.sl22 ?_
   refine Wl.le T.agg52 ?_
   refine aA 1 [] ?_
   refine Wl.k 1 rfl (c116 _ _ _ k hnear (by omega)) fun v3 G3 Ho3 hle3 hp=>?_
   obtain ⟨ps3,pr3,pc3,rfl,hpA3,hpB3,hpL3,rfl⟩:=hp
   replace ha:=ha.up hle3
   replace hoA2:=hoA2.up hle3
   refine Wl.gc 9 [] ?_
   obtain ⟨q,hq1,hq2,hq3,hq4⟩:RowS G3 (ol2[((i:Nat):Int).toNat]?.getD default) (os[i]?.getD []):=(hoG2.up (Imm.le_trans hgx hle3)).2 i (by omega)
   have hE:=hose.at (k:=(i:Int)) (by omega)
   rw [Int.toNat_natCast] at hE
   have hql:q.length=k:=hq4.1.trans hE.1
   have hP:Go.Sl.Below 4 (dQ (l[i]?.getD default).a (l[i]?.getD default).b k):=(rO (hnr i hil) (by omega)).2
   have hpl:pr3.length=k:=hpB3.1.trans (qA _ _ _)
   refine Wc.lp (ι:=Nat) (fun j=>([(13,.int .i64 (j:Int)),(1,.int .i64 (k:Int)),(10,.slice oa2 ol2.length oc2),(11,.int .i64 (i:Int)),(12,.slice ps3 pr3.length pc3),(2,.slice a l.length c)],[(0,some b1,.cells #[.int .i64 (PV.ins p),.int .i64 (PV.regs p),.slice ac (List.length (PV.code p)) cc,.slice ao (List.length (PV.outs p)) co] 26)])) (fun j=>j≤k∧∀ t:Nat,t<j→(os[i]?.getD [])[t]?.getD 0=(dQ (l[i]?.getD default).a (l[i]?.getD default).b k)[t]?.getD 0) (fun j=>k - j) (0) (⟨Nat.zero_le _,fun i h=>absurd h (by omega)⟩) fun j=>fun hk=>?_
   obtain ⟨hj9,hjj⟩:=hk
   rcases Nat.lt_or_ge j k with hjk | hjk
   · have hx:=hq4.at (m:=(j:Int)) (by omega)
     have hy:=hpB3.at (m:=(j:Int)) (by omega)
     have hxn:=Num.len hx (hE.2.at _)
     have hyn:=Num.len hy (hP.at _)
     have hcell:G3.cell (Go.Sl.ab oa2) (Go.Sl.ao oa2+((i:Nat):Int).toNat*Cells.sz SV+0)=some (.slice (ol2[((i:Nat):Int).toNat]?.getD default).a q.length (ol2[((i:Nat):Int).toNat]?.getD default).c):=(Arr.cell ‹_› (by omega) 0 rfl rfl).trans (by rw [hq1])
     refine Wc.gc 14 [1] ?_
     refine aN [] [] T.mixed [[0],[1]] ?_
     refine Gm.at (α:=SV) 2 T.sl182 ?_
     refine Gm.u 3 [] rfl (aL T.one191 rfl hcell) ?_
     refine Gm.r [[4]] ?_
     refine Gm.u 5 [] rfl (Qy.at (α:=IV) T.sl191 rfl rfl hq3 (by omega)) ?_
     refine Gm.u 6 [] rfl (gR T.agg190 rfl (Arr.elem hq3 (by omega)) rfl) ?_
     refine Gm.r [[7],[8]] ?_
     refine Gm.u 9 [] rfl (Qy.at (α:=IV) T.sl186 rfl rfl hpA3 (by omega)) ?_
     refine Gm.u 10 [] rfl (gR T.agg190 rfl (Arr.elem hpA3 (by omega)) rfl) ?_
     refine Gm.o1 11 ?_
     refine Wl.k0 rfl (c117 _ _ _ _ _ hx hy (by omega) (by omega)) ?_
     refine aO ?_
     refine Gm.u 12 [] rfl (aW rfl) ?_
     refine Gm.fin ?_
     refine Ar.next ?_
     refine Wc.i (fun hc2=>?_) fun hc2=>?_
     refine Wc.ga 15 [] ?_
     rotate_left
     refine Wc.ga 8 [] ?_
     rotate_left
     · refine Ar.e1 ?_
       have hne:¬((os[i]?.getD [])[j]?.getD 0=(dQ (l[i]?.getD default).a (l[i]?.getD default).b k)[j]?.getD 0):=by assumption
       exact ⟨by rw [decide_eq_false (fun h=>hne (by rw [hiff.1 h i hil]))],rfl⟩
     refine aH (j+1) ?_ ?_
     · refine ⟨by omega,fun t ht=>?_⟩
       rcases Nat.lt_or_ge t j with h | h
       · exact hjj t h
       have e:t=j:=by omega
       subst e;exact Decidable.not_not.1 ‹_›
     show k - (j+1)<k - j
     omega
   have hjk:j=k:=by omega
   subst hjk
   refine Wc.ga 20 [0] ?_
   refine aH ((i+1,G3)) ?_ ?_
   · refine ⟨by omega,Imm.le_trans hgx hle3,fun t ht=>?_⟩
     rcases Nat.lt_or_ge t i with h | h
     · exact hall t h
     have e:t=i:=by omega
     subst e
     exact (aGE hE.1 (qA _ _ _)).2 hjj
   show l.length - (i+1)<l.length - i
   omega
 refine Wc.ga 21 [0] ?_
 refine Ar.e1 ?_
 exact ⟨by rw [decide_eq_true (hiff.2 (fun t ht=>hall t (by omega)))],rfl⟩
end
theorem aNH {k1 k2:Int} {l:List R2} {x y z:PV} (h:¬cA k1 k2 l=0):cX k1 k2 l x y z=(0,cA k1 k2 l):=by unfold cX;rw [if_pos h]
theorem aGJ {k1 k2:Int} {l:List R2} {x y z:PV} (h:cA k1 k2 l=0) (h1:¬aP x=true):cX k1 k2 l x y z=(1,80):=by
 unfold cX;rw [if_neg (fun h0=>h0 h),if_pos h1]
theorem aGK {k1 k2:Int} {l:List R2} {x y z:PV} (h:cA k1 k2 l=0) (h1:aP x=true) (h2:¬eB x k1 l):cX k1 k2 l x y z=(1,180):=by
 unfold cX;rw [if_neg (fun h0=>h0 h),if_neg (fun h0=>h0 h1),if_pos h2]
theorem aGL {k1 k2:Int} {l:List R2} {x y z:PV} (h:cA k1 k2 l=0) (h1:aP x=true) (h2:eB x k1 l) (h3:¬aP y=true):cX k1 k2 l x y z=(2,80):=by
 unfold cX;rw [if_neg (fun h0=>h0 h),if_neg (fun h0=>h0 h1),if_neg (fun h0=>h0 h2),if_pos h3]
theorem aGM {k1 k2:Int} {l:List R2} {x y z:PV} (h:cA k1 k2 l=0) (h1:aP x=true) (h2:eB x k1 l) (h3:aP y=true) (h4:¬eB y k2 l):cX k1 k2 l x y z=(2,180):=by
 unfold cX;rw [if_neg (fun h0=>h0 h),if_neg (fun h0=>h0 h1),if_neg (fun h0=>h0 h2),if_neg (fun h0=>h0 h3),if_pos h4]
theorem aGN {k1 k2:Int} {l:List R2} {x y z:PV} (h:cA k1 k2 l=0) (h1:aP x=true) (h2:eB x k1 l) (h3:aP y=true) (h4:eB y k2 l) (h5:¬aP z=true):cX k1 k2 l x y z=(3,80):=by
 unfold cX;rw [if_neg (fun h0=>h0 h),if_neg (fun h0=>h0 h1),if_neg (fun h0=>h0 h2),if_neg (fun h0=>h0 h3),if_neg (fun h0=>h0 h4),if_pos h5]
theorem aGO {k1 k2:Int} {l:List R2} {x y z:PV} (h:cA k1 k2 l=0) (h1:aP x=true) (h2:eB x k1 l) (h3:aP y=true) (h4:eB y k2 l) (h5:aP z=true) (h6:¬dF z l):cX k1 k2 l x y z=(3,180):=by
 unfold cX;rw [if_neg (fun h0=>h0 h),if_neg (fun h0=>h0 h1),if_neg (fun h0=>h0 h2),if_neg (fun h0=>h0 h3),if_neg (fun h0=>h0 h4),if_neg (fun h0=>h0 h5),if_pos h6]
theorem aGP {k1 k2:Int} {l:List R2} {x y z:PV} (h:cA k1 k2 l=0) (h1:aP x=true) (h2:eB x k1 l) (h3:aP y=true) (h4:eB y k2 l) (h5:aP z=true) (h6:dF z l):cX k1 k2 l x y z=(0,0):=by
 unfold cX;rw [if_neg (fun h0=>h0 h),if_neg (fun h0=>h0 h1),if_neg (fun h0=>h0 h2),if_neg (fun h0=>h0 h3),if_neg (fun h0=>h0 h4),if_neg (fun h0=>h0 h5),if_neg (fun h0=>h0 h6)]
section
attribute [local irreducible] eB dF cA aP fC
theorem c14 (G:Imm) (k1 k2:Int) (pl:List R2) (pa:Option Addr) (pc:Nat) (xp yp zp:PV) (xac xao yac yao zac zao:Option Addr) (xcc xoc ycc yoc zcc zoc:Nat) (hpa:Arr G pa pl) (hpc:pl.length≤pc) (hpl:pl.length≤1048576) (hxc:Arr G xac xp.code) (hxo:Arr G xao xp.outs) (hx1:xp.code.length≤16384) (hx2:xp.outs.length≤1048576) (hyc:Arr G yac yp.code) (hyo:Arr G yao yp.outs) (hy1:yp.code.length≤16384) (hy2:yp.outs.length≤1048576) (hzc:Arr G zac zp.code) (hzo:Arr G zao zp.outs) (hz1:zp.code.length≤16384) (hz2:zp.outs.length≤1048576) :
 Does Tryz.prog 14 [.agg #[.int .i64 k1,.int .i64 k2,.slice pa pl.length pc,.int .i64 xp.ins,.int .i64 xp.regs,.slice xac xp.code.length xcc,.slice xao xp.outs.length xoc,.int .i64 yp.ins,.int .i64 yp.regs,.slice yac yp.code.length ycc,.slice yao yp.outs.length yoc,.int .i64 zp.ins,.int .i64 zp.regs,.slice zac zp.code.length zcc,.slice zao zp.outs.length zoc]] G [] (fun v G' Ho=>v=.tuple #[.int .i64 (cX k1 k2 pl xp yp zp).1,.int .i64 (cX k1 k2 pl xp yp zp).2]∧Ho=[]):=by
 refine D0 Tryz.func14 Tryz.ntmps14 fun w=>?_
 by_cases hW:cA k1 k2 pl=0
 case neg =>
  refine Wc.gl 2 [] ?_
  refine Wl.x 0 fun b1=>?_
  refine Wl.gl 12 [0,0,0] ?_
  refine Wl.p (Qy.build (cs:=[_,_,_]) T.st62 rfl rfl rfl) ?_
  refine Wl.k0 rfl (c35 _ _ _ _ _ _ ‹_› (by omega)) ?_
  refine Wl.ga 20 [1] ?_
  refine Ar.e2 ?_
  exact ⟨by rw [aNH hW],rfl⟩
 obtain ⟨hP1,hP2,hL,hRL⟩:=sL hW
 obtain ⟨n1,rfl⟩:∃ n:Nat,k1=(n:Int):=⟨k1.toNat,by have:=hP1.1;omega⟩
 obtain ⟨n2,rfl⟩:∃ n:Nat,k2=(n:Int):=⟨k2.toNat,by have:=hP2.1;omega⟩
 have hn1:1≤n1∧n1≤8:=by have:=hP1.1;have:=hP1.2;omega
 have hn2:1≤n2∧n2≤8:=by have:=hP2.1;have:=hP2.2;omega
 have hl15:pl.length≤15:=by omega
 have hl1:1≤pl.length:=by omega
 have hRR:pl.length≤15∧(∀ i:Nat,i<pl.length→okP (pl[i]?.getD default)):=by unfold fC at hRL;exact ⟨hRL.2.1,hRL.2.2.1⟩
 have hok:=hRR.2
 have hnr:∀ i:Nat,i<pl.length→cD (pl[i]?.getD default).a (pl[i]?.getD default).b:=fun i hi=>(hok i hi).1
 refine Wc.gl 2 [] ?_
 refine Wl.x 0 fun b1=>?_
 refine Wl.gl 12 [0,0,0] ?_
 refine Wl.p (Qy.build (cs:=[_,_,_]) T.st62 rfl rfl rfl) ?_
 refine Wl.k0 rfl (c35 _ _ _ _ _ _ ‹_› (by omega)) ?_
 refine Wl.gl 17 [0] ?_
 refine Wl.p (bC 0 T.agg26 rfl rfl rfl rfl) ?_
 refine Wl.k0 rfl (c57 _ _ _ _ _ _ ‹_› ‹_› (by omega) (by omega)) ?_
 refine Wl.p (aW rfl) ?_
 refine Wl.gc 2 [] ?_
 refine Wc.i (fun hc1=>?_) fun hc1=>?_
 refine Wc.ga 8 [] ?_
 rotate_left
 refine Wc.gl 6 [] ?_
 refine Wl.p (bC 0 T.agg26 rfl rfl rfl rfl) ?_
 refine aA 4 [0,0] ?_
 refine Wl.k 1 rfl (c58 _ _ _ _ _ _ _ _ _ _ ‹_› ‹_› ‹_› (by omega) (by omega) hl15 hnr (Decidable.not_not.1 ‹_›) (by omega) (by omega)) fun v1 G1 Ho1 hle1 hp=>?_
 obtain ⟨rfl,rfl⟩:=hp
 replace hpa:=hpa.up hle1
 replace hxc:=hxc.up hle1
 replace hxo:=hxo.up hle1
 replace hyc:=hyc.up hle1
 replace hyo:=hyo.up hle1
 replace hzc:=hzc.up hle1
 replace hzo:=hzo.up hle1
 refine Wl.p (aW rfl) ?_
 refine Wl.gc 2 [] ?_
 refine Wc.i (fun hc2=>?_) fun hc2=>?_
 refine Wc.ga 8 [] ?_
 rotate_left
 refine Wc.gl 6 [] ?_
 refine Wl.p (bC 0 T.agg26 rfl rfl rfl rfl) ?_
 refine Wl.k0 rfl (c57 _ _ _ _ _ _ ‹_› ‹_› (by omega) (by omega)) ?_
 refine Wl.p (aW rfl) ?_
 refine Wl.gc 2 [] ?_
 refine Wc.i (fun hc3=>?_) fun hc3=>?_
 refine Wc.ga 8 [] ?_
 rotate_left
 refine Wc.gl 6 [] ?_
 refine Wl.p (bC 0 T.agg26 rfl rfl rfl rfl) ?_
 refine aA 4 [0,0] ?_
 refine Wl.k 1 rfl (c58 _ _ _ _ _ _ _ _ _ _ ‹_› ‹_› ‹_› (by omega) (by omega) hl15 hnr (Decidable.not_not.1 ‹_›) (by omega) (by omega)) fun v2 G2 Ho2 hle2 hp=>?_
 obtain ⟨rfl,rfl⟩:=hp
 replace hpa:=hpa.up hle2
 replace hxc:=hxc.up hle2
 replace hxo:=hxo.up hle2
 replace hyc:=hyc.up hle2
 replace hyo:=hyo.up hle2
 replace hzc:=hzc.up hle2
 replace hzo:=hzo.up hle2
 refine Wl.p (aW rfl) ?_
 refine Wl.gc 2 [] ?_
 refine Wc.i (fun hc4=>?_) fun hc4=>?_
 refine Wc.ga 8 [] ?_
 rotate_left
 refine Wc.gl 6 [] ?_
 refine Wl.p (bC 0 T.agg26 rfl rfl rfl rfl) ?_
 refine Wl.k0 rfl (c57 _ _ _ _ _ _ ‹_› ‹_› (by omega) (by omega)) ?_
 refine Wl.p (aW rfl) ?_
 refine Wl.gc 2 [] ?_
 refine Wc.i (fun hc5=>?_) fun hc5=>?_
 refine Wc.ga 8 [] ?_
 rotate_left
 refine Wc.gl 6 [] ?_
 refine Wl.p (bC 0 T.agg26 rfl rfl rfl rfl) ?_
 refine aA 2 [0] ?_
 refine Wl.k 1 rfl (c59 _ _ _ _ _ _ _ _ _ ‹_› ‹_› ‹_› (by omega) (by omega) hpc hl1 hl15 hok) fun v3 G3 Ho3 hle3 hp=>?_
 obtain ⟨rfl,rfl⟩:=hp
 replace hpa:=hpa.up hle3
 replace hxc:=hxc.up hle3
 replace hxo:=hxo.up hle3
 replace hyc:=hyc.up hle3
 replace hyo:=hyo.up hle3
 replace hzc:=hzc.up hle3
 replace hzo:=hzo.up hle3
 refine Wl.p (aW rfl) ?_
 refine Wl.gc 2 [] ?_
 refine Wc.i (fun hc6=>?_) fun hc6=>?_
 refine Wc.ga 8 [] ?_
 rotate_left
 refine Wc.ga 9 [] ?_
 rotate_left
 · refine Ar.e2 ?_
   exact ⟨by rw [aGJ hW ‹_›],rfl⟩
 · refine Ar.e2 ?_
   exact ⟨by rw [aGK hW (Decidable.not_not.1 hc1) ‹_›],rfl⟩
 · refine Ar.e2 ?_
   exact ⟨by rw [aGL hW (Decidable.not_not.1 hc1) (Decidable.not_not.1 hc2) ‹_›],rfl⟩
 · refine Ar.e2 ?_
   exact ⟨by rw [aGM hW (Decidable.not_not.1 hc1) (Decidable.not_not.1 hc2) (Decidable.not_not.1 hc3) ‹_›],rfl⟩
 · refine Ar.e2 ?_
   exact ⟨by rw [aGN hW (Decidable.not_not.1 hc1) (Decidable.not_not.1 hc2) (Decidable.not_not.1 hc3) (Decidable.not_not.1 hc4) ‹_›],rfl⟩
 · refine Ar.e2 ?_
   exact ⟨by rw [aGO hW (Decidable.not_not.1 hc1) (Decidable.not_not.1 hc2) (Decidable.not_not.1 hc3) (Decidable.not_not.1 hc4) (Decidable.not_not.1 hc5) ‹_›],rfl⟩
 refine Ar.e2 ?_
 exact ⟨by rw [aGP hW (Decidable.not_not.1 hc1) (Decidable.not_not.1 hc2) (Decidable.not_not.1 hc3) (Decidable.not_not.1 hc4) (Decidable.not_not.1 hc5) (Decidable.not_not.1 hc6)],rfl⟩
end
theorem eV {G:Imm} {b:Nat} {c:Array Value} {ty:TypeId} {z:Nat×Nat} (h:G b=some (.cells c ty z)) {k:Nat} {v:Value} (hv:c[k]?=some v):G.cell b k=some v:=by
 unfold Imm.cell;rw [h];exact hv
structure PF where
 p:PH
 f:Nat
 b:Nat
instance:Inhabited PF:=⟨⟨default,0,0⟩⟩
instance:Cells PF:=⟨5,fun x=>[.int .i64 x.p.ins,.int .i64 x.p.regs,.slice x.p.ac x.p.cn x.p.cc,.slice x.p.ao x.p.on x.p.oc,.func (.func x.f) #[] #[.pointer (some ⟨x.b,0,none⟩)]],fun _=>rfl,fun _=>rfl⟩
section
attribute [local irreducible] eB dF cA aP fC
theorem c107 (G:Imm) (k:Nat) (b:Nat) (cs:Array Value) (ty:TypeId) (zz:Nat×Nat) (p:PV) (ac ao a:Option Addr) (cc co c:Nat) (l:List R2) (hU:G b=some (.cells cs ty zz)) (h0:cs[0]?=some (.int .i64 (k:Int))) (h2:cs[2]?=some (.slice a l.length c)) (hc:Arr G ac p.code) (ho:Arr G ao p.outs) (ha:Arr G a l) (hac:l.length≤c) (hl:l.length≤1048576) (hcl:p.code.length≤16384) (hol:p.outs.length≤1099511627776) (hRL:fC l) (hR:aP p=true) (hk1:1≤k) (hk8:k≤8) :
 Does Tryz.prog 107 [.agg #[.int .i64 p.ins,.int .i64 p.regs,.slice ac p.code.length cc,.slice ao p.outs.length co],.pointer (some ⟨b,0,none⟩)] G [] (fun v G' Ho=>v=.tuple #[.bool (decide (eB p (k:Int) l)),.int .i64 0]∧Ho=[]):=by
 refine D0 Tryz.func107 Tryz.ntmps107 fun w=>?_
 refine Wc.gl 2 [] ?_
 refine Wl.x 0 fun b1=>?_
 refine Wl.gl 8 [0] ?_
 refine Wl.p (aL T.one3 rfl ((by rw [Nat.zero_add]:G.cell b (0+0)=G.cell b 0).trans (eV hU h0))) ?_
 refine aA 1 [] ?_
 refine Wl.p (aL T.one22 rfl ((by rw [Nat.zero_add]:G.cell b (0+2)=G.cell b 2).trans (eV hU h2))) ?_
 refine Wl.k 1 rfl (c108 _ _ _ _ _ _ _ _ _ _ ‹_› ‹_› ‹_› (by omega) (by omega) hRL hR (by omega) (by omega)) fun v1 G1 Ho1 hle1 hp=>?_
 obtain ⟨rfl,rfl⟩:=hp
 replace hc:=hc.up hle1
 replace ho:=ho.up hle1
 replace ha:=ha.up hle1
 refine Wl.ga 7 [] ?_
 refine Ar.e2 ?_
 exact ⟨rfl,rfl⟩
theorem c109 (G:Imm) (k:Nat) (b:Nat) (cs:Array Value) (ty:TypeId) (zz:Nat×Nat) (p:PV) (ac ao a:Option Addr) (cc co c:Nat) (l:List R2) (hU:G b=some (.cells cs ty zz)) (h0:cs[1]?=some (.int .i64 (k:Int))) (h2:cs[2]?=some (.slice a l.length c)) (hc:Arr G ac p.code) (ho:Arr G ao p.outs) (ha:Arr G a l) (hac:l.length≤c) (hl:l.length≤1048576) (hcl:p.code.length≤16384) (hol:p.outs.length≤1099511627776) (hRL:fC l) (hR:aP p=true) (hk1:1≤k) (hk8:k≤8) :
 Does Tryz.prog 109 [.agg #[.int .i64 p.ins,.int .i64 p.regs,.slice ac p.code.length cc,.slice ao p.outs.length co],.pointer (some ⟨b,0,none⟩)] G [] (fun v G' Ho=>v=.tuple #[.bool (decide (eB p (k:Int) l)),.int .i64 0]∧Ho=[]):=by
 refine D0 Tryz.func109 Tryz.ntmps109 fun w=>?_
 refine Wc.gl 2 [] ?_
 refine Wl.x 0 fun b1=>?_
 refine Wl.gl 8 [0] ?_
 refine Wl.p (aL T.one3 rfl ((by rw [Nat.zero_add]:G.cell b (0+1)=G.cell b 1).trans (eV hU h0))) ?_
 refine aA 1 [] ?_
 refine Wl.p (aL T.one22 rfl ((by rw [Nat.zero_add]:G.cell b (0+2)=G.cell b 2).trans (eV hU h2))) ?_
 refine Wl.k 1 rfl (c108 _ _ _ _ _ _ _ _ _ _ ‹_› ‹_› ‹_› (by omega) (by omega) hRL hR (by omega) (by omega)) fun v1 G1 Ho1 hle1 hp=>?_
 obtain ⟨rfl,rfl⟩:=hp
 replace hc:=hc.up hle1
 replace ho:=ho.up hle1
 replace ha:=ha.up hle1
 refine Wl.ga 7 [] ?_
 refine Ar.e2 ?_
 exact ⟨rfl,rfl⟩
theorem c110 (G:Imm) (b:Nat) (cs:Array Value) (ty:TypeId) (zz:Nat×Nat) (p:PV) (ac ao a:Option Addr) (cc co c:Nat) (l:List R2) (hU:G b=some (.cells cs ty zz)) (h2:cs[2]?=some (.slice a l.length c)) (hc:Arr G ac p.code) (ho:Arr G ao p.outs) (ha:Arr G a l) (hac:l.length≤c) (hl:l.length≤1048576) (hcl:p.code.length≤16384) (hol:p.outs.length≤1099511627776) (hRL:fC l) (hR:aP p=true) :
 Does Tryz.prog 110 [.agg #[.int .i64 p.ins,.int .i64 p.regs,.slice ac p.code.length cc,.slice ao p.outs.length co],.pointer (some ⟨b,0,none⟩)] G [] (fun v G' Ho=>v=.tuple #[.bool (decide (dF p l)),.int .i64 0]∧Ho=[]):=by
 refine D0 Tryz.func110 Tryz.ntmps110 fun w=>?_
 refine Wc.gl 2 [] ?_
 refine Wl.x 0 fun b1=>?_
 refine Wl.gl 8 [0] ?_
 refine Wl.p (aL T.one22 rfl ((by rw [Nat.zero_add]:G.cell b (0+2)=G.cell b 2).trans (eV hU h2))) ?_
 refine Wl.k 1 rfl (c111Y _ _ _ _ _ _ _ _ _ ‹_› ‹_› (by omega) (by omega) ‹_› hac hl hRL hR) fun v1 G1 Ho1 hle1 hp=>?_
 obtain ⟨rfl,rfl⟩:=hp
 replace hc:=hc.up hle1
 replace ho:=ho.up hle1
 replace ha:=ha.up hle1
 refine Wl.ga 7 [] ?_
 refine Ar.e2 ?_
 exact ⟨rfl,rfl⟩
theorem c55 (G:Imm) (k1 k2:Int) (pl:List R2) (pa:Option Addr) (pc:Nat) (xp yp zp:PV) (xac xao yac yao zac zao:Option Addr) (xcc xoc ycc yoc zcc zoc:Nat) :
 Does Tryz.prog 55 [.agg #[.int .i64 k1,.int .i64 k2,.slice pa pl.length pc,.int .i64 xp.ins,.int .i64 xp.regs,.slice xac xp.code.length xcc,.slice xao xp.outs.length xoc,.int .i64 yp.ins,.int .i64 yp.regs,.slice yac yp.code.length ycc,.slice yao yp.outs.length yoc,.int .i64 zp.ins,.int .i64 zp.regs,.slice zac zp.code.length zcc,.slice zao zp.outs.length zoc]] G [] (fun v G' Ho=>∃ (s:Option Addr) (b:Nat),v=.slice s ([⟨⟨xp.ins,xp.regs,xac,xp.code.length,xcc,xao,xp.outs.length,xoc⟩,107,b⟩,⟨⟨yp.ins,yp.regs,yac,yp.code.length,ycc,yao,yp.outs.length,yoc⟩,109,b⟩,⟨⟨zp.ins,zp.regs,zac,zp.code.length,zcc,zao,zp.outs.length,zoc⟩,110,b⟩]:List PF).length 3∧Arr G' s ([⟨⟨xp.ins,xp.regs,xac,xp.code.length,xcc,xao,xp.outs.length,xoc⟩,107,b⟩,⟨⟨yp.ins,yp.regs,yac,yp.code.length,ycc,yao,yp.outs.length,yoc⟩,109,b⟩,⟨⟨zp.ins,zp.regs,zac,zp.code.length,zcc,zao,zp.outs.length,zoc⟩,110,b⟩]:List PF)∧G' b=some (.cells #[.int .i64 k1,.int .i64 k2,.slice pa pl.length pc,.int .i64 xp.ins,.int .i64 xp.regs,.slice xac xp.code.length xcc,.slice xao xp.outs.length xoc,.int .i64 yp.ins,.int .i64 yp.regs,.slice yac yp.code.length ycc,.slice yao yp.outs.length yoc,.int .i64 zp.ins,.int .i64 zp.regs,.slice zac zp.code.length zcc,.slice zao zp.outs.length zoc] 28 (0,0))∧Ho=[]):=by
 refine D0 Tryz.func55 Tryz.ntmps55 fun w=>?_
 refine Wc.gl 2 [] ?_
 refine Wl.x 0 fun b1=>?_
 refine Wl.gl 6 [] ?_
 refine Wl.p (bC 0 T.agg26 rfl rfl rfl rfl) ?_
 refine Wl.p (Qy.makeFunc rfl rfl) ?_
 refine Wl.p (Qy.build (cs:=[_,_,_,_,_]) T.st100 rfl rfl rfl) ?_
 refine aA 1 [] ?_
 refine Wl.p (bC 0 T.agg26 rfl rfl rfl rfl) ?_
 refine Wl.p (Qy.makeFunc rfl rfl) ?_
 refine Wl.p (Qy.build (cs:=[_,_,_,_,_]) T.st100 rfl rfl rfl) ?_
 refine aA 1 [] ?_
 refine Wl.p (bC 0 T.agg26 rfl rfl rfl rfl) ?_
 refine Wl.p (Qy.makeFunc rfl rfl) ?_
 refine Wl.p (Qy.build (cs:=[_,_,_,_,_]) T.st100 rfl rfl rfl) ?_
 refine Wl.lit (α:=PF) 1 [⟨⟨xp.ins,xp.regs,xac,xp.code.length,xcc,xao,xp.outs.length,xoc⟩,107,b1⟩,⟨⟨yp.ins,yp.regs,yac,yp.code.length,ycc,yao,yp.outs.length,yoc⟩,109,b1⟩,⟨⟨zp.ins,zp.regs,zac,zp.code.length,zcc,zao,zp.outs.length,zoc⟩,110,b1⟩] rfl T.sl96 T.el100 rfl rfl rfl rfl rfl fun b2=>?_
 refine Wl.ga 4 [] ?_
 refine Ar.freeze 0 rfl fun G1 hle1 hb1=>?_
 have hoF:OwnA (some ⟨b2,0,none⟩) 3 ([⟨⟨xp.ins,xp.regs,xac,xp.code.length,xcc,xao,xp.outs.length,xoc⟩,107,b1⟩,⟨⟨yp.ins,yp.regs,yac,yp.code.length,ycc,yao,yp.outs.length,yoc⟩,109,b1⟩,⟨⟨zp.ins,zp.regs,zac,zp.code.length,zcc,zao,zp.outs.length,zoc⟩,110,b1⟩]:List PF) []:=dV (by simp [maxLen])
 refine Ar.freezeRow (α:=PF) 1 rfl hoF fun G2 hle2 hA2=>?_
 refine Ar.e1 ?_
 exact ⟨_,b1,rfl,hA2,hle2 _ _ hb1,rfl⟩
end
def rdP (a:Option Addr) (n c:Nat) (s:RS):Obj:=.cells #[.slice a n c,.int .i64 (s.k:Int),.bool s.wr] 198 (0,0)
def uW (G:Imm) (g:FuncId) (caps:List Value) (good:Int→Bool):Prop:=dP Tryz.prog g∧∀ (G':Imm) (x:Int),G.le G'→0≤x→x≤255→Does Tryz.prog g ([]++[.int .i64 x]++caps) G' [] (fun v G'' Ho=>v=.bool (decide (good x=true))∧G''=G'∧Ho=[])
theorem aJA (G:Imm) (b:Nat) (a:Option Addr) (c:Nat) (B:List U8) (s:RS) (g:FuncId) (caps:List Value) (good:Int→Bool) (hg:uW G g caps good) (hA:Arr G a B) (hB:Bytes B) (hk:s.k≤B.length) (hl:B.length≤1048576) :
 Does Tryz.prog 169 [.pointer (some ⟨b,0,none⟩),.func (.func g) #[] caps.toArray] G [(0,some b,rdP a B.length c s)] (fun v G' Ho=>v=.int .i64 (nx B s good).1∧G'=G∧Ho=[(0,some b,rdP a B.length c (nx B s good).2)]):=by
 refine D0 Tryz.func169 Tryz.ntmps169 fun w=>?_
 obtain ⟨k,wr⟩:=s
 replace hk:k≤B.length:=hk
 cases wr with
 | true =>
   show Wc none Tryz.prog _ ⟨_,_,_,_⟩ ⟨_,_,[(0,some b,.cells #[.slice a B.length c,.int .i64 (k:Int),.bool (decide ((0:Int)<1))] 198 (0,0))],_⟩ _
   refine Wc.gc 7 [] ?_
   refine aN [0] [(0,29)] T.mixed [[0],[1],[2]] ?_
   refine Gm.o1 3 ?_
   refine aA 1 [0] ?_
   refine aO ?_
   refine Gm.r [[4]] ?_
   refine rA 9 rfl (by first | assumption | omega) ?_
   refine Gm.r [[5],[6],[7],[8],[9],[10],[11],[12],[13],[14],[15],[16],[17],[18],[19],[20],[21],[22],[23],[24],[25],[26],[27],[28]] ?_
   refine Gm.o1 29 ?_
   refine aA 1 [] ?_
   refine aO ?_
   refine Gm.r [[30],[31]] ?_
   refine mG (by kernel_rfl) trivial (by first | exact Imm.le_refl _ | repeat (first | assumption | refine Imm.le_trans ?_ ‹_›)) ?_
   refine Ar.ga 17 [1,0] ?_
   refine Ar.p1 [0] ?_
   rw [qB rfl]
   exact ⟨rfl,rfl,rfl⟩
 | false =>
   show Wc none Tryz.prog _ ⟨_,_,_,_⟩ ⟨_,_,[(0,some b,.cells #[.slice a B.length c,.int .i64 (k:Int),.bool (decide ((1:Int)<0))] 198 (0,0))],_⟩ _
   refine Wc.gc 7 [] ?_
   refine aN [0] [] T.mixed [[0],[1],[2],[3,0],[4]] ?_
   refine uA 9 rfl (by omega) ?_
   refine Gm.r [[5],[6],[7],[8,0],[9],[10],[11],[12,0],[13],[14],[15],[16]] ?_
   refine Gm.cases 21 rfl (fun hg1=>?_) fun hg1=>?_
   · refine Gm.r [[17],[18],[19],[20],[21],[22],[23],[24],[25],[26],[27],[28]] ?_
     refine Gm.o1 29 ?_
     refine aA 1 [] ?_
     refine aO ?_
     refine Gm.r [[30],[31]] ?_
     refine Gm.fin ?_
     refine Ar.ga 17 [1,0] ?_
     refine Ar.p1 [0] ?_
     rw [zG (s:=⟨k,false⟩) (show k=B.length by omega)]
     exact ⟨rfl,rfl,rfl⟩
   have h8:=hB k (by omega)
   have ew:IntKind.i64.wrap (B[((k:Nat):Int).toNat]?.getD default).v=(B[k]?.getD default).v:=w64 (by show _≤(B[k]?.getD default).v∧(B[k]?.getD default).v≤_;omega)
   refine Gm.r [[17],[18],[19],[20],[21,0],[22],[23],[24],[25,0]] ?_
   refine Gm.y 26 [] rfl (Qy.at (α:=U8) T.sl38 rfl rfl hA (by omega)) ?_
   refine Gm.y 27 [] rfl (aL T.one5 rfl (Arr.cell hA (by omega) 0 rfl rfl)) ?_
   refine Gm.y 28 [] rfl (bE rfl T.u3 rfl) ?_
   refine Gm.o1 29 ?_
   refine aA 1 [] ?_
   rw [ew]
   refine bN (fst:=[]) (cap:=caps) 20 rfl hg.1 rfl rfl (hg.2 _ _ (Imm.le_refl _) h8.1 h8.2) (bO trivial) fun v9 G9 Ho9 hle9 hp=>?_
   obtain ⟨rfl,rfl,rfl⟩:=hp
   refine aO ?_
   refine Gm.y 30 [] rfl (aW rfl) ?_
   refine Gm.r [[31]] ?_
   refine Gm.fin ?_
   refine Ar.next ?_
   refine Wc.i (fun hc1=>?_) fun hc1=>?_
   refine Wc.ga 15 [0] ?_
   refine Ar.p1 [0] ?_
   rotate_left
   refine Wc.gc 15 [0,0] ?_
   refine aN [0] [] T.mixed [[0],[1],[2],[3,0],[4],[5],[6],[7,0],[8]] ?_
   refine Gm.at (α:=U8) 9 T.sl38 ?_
   refine gO 10 [0] 0 T.one5 ?_
   refine Gm.u 11 [] rfl (bE rfl T.u3 rfl) ?_
   refine Gm.r [[12]] ?_
   refine Gm.fin ?_
   refine Ar.ga 2 [] ?_
   refine Ar.p1 [0] ?_
   rotate_left
   · rw [aEG (s:=⟨k,false⟩) (Bool.eq_false_iff.2 hc1)]
     exact ⟨rfl,rfl,rfl⟩
   rw [aRH (s:=⟨k,false⟩) rfl (show k≠B.length by omega) (Decidable.not_not.1 hc1)]
   have e2:((k:Nat):Int)+1 - 1=((k:Nat):Int):=by omega
   rw [e2,ew]
   exact ⟨rfl,rfl,rfl⟩
theorem c170 (G:Imm) (lo hi x:Int) (b1 b2:Nat) (c1 c2:Array Value) (t1 t2:TypeId) (z1 z2:Nat×Nat) (h1:G b1=some (.cells c1 t1 z1)) (h2:G b2=some (.cells c2 t2 z2)) (e1:c1[0]?=some (.int .i64 lo)) (e2:c2[0]?=some (.int .i64 hi)) :
 Does Tryz.prog 170 [.int .i64 x,.pointer (some ⟨b1,0,none⟩),.pointer (some ⟨b2,0,none⟩)] G [] (fun v G' Ho=>v=.bool (decide (lo≤x∧x≤hi))∧G'=G∧Ho=[]):=by
 refine D0 Tryz.func170 Tryz.ntmps170 fun w=>?_
 by_cases hlo:lo≤x
 · refine Wc.gl 8 [] ?_
   refine Wl.p (aL T.one3 rfl (eV h1 e1)) ?_
   refine aA 2 [] ?_
   refine lZ 8 ?_
   refine aA 3 [] ?_
   refine Wl.p (aL T.one3 rfl (eV h2 e2)) ?_
   refine Wl.ga 7 [] ?_
   refine Ar.e1 ?_
   refine ⟨?_,rfl,rfl⟩
   congr 1
   rw [Bool.eq_iff_iff,decide_eq_true_eq]
   simp [hlo]
 refine Wc.gl 8 [] ?_
 refine Wl.p (aL T.one3 rfl (eV h1 e1)) ?_
 refine aA 2 [] ?_
 refine dB 8 ?_
 refine Wl.ga 8 [] ?_
 refine Ar.e1 ?_
 refine ⟨?_,rfl,rfl⟩
 congr 1
 rw [Bool.eq_iff_iff,decide_eq_true_eq]
 simp [hlo]
theorem c171 (G:Imm) (x:Int):Does Tryz.prog 171 [.int .i64 x] G [] (fun v G' Ho=>v=.bool (decide (x≤16∨240≤x))∧G'=G∧Ho=[]):=by
 refine D0 Tryz.func171 Tryz.ntmps171 fun w=>?_
 refine Wc.gl 10 [] ?_
 apply aG 3 5 8 rfl
 intro hg1
 refine aA 5 [] ?_
 exact Wl.b 3 0
 intro hg1
 refine aA 3 [] ?_
 exact Wl.b 3 0
 refine Wl.ga 4 [] ?_
 refine Ar.e1 ?_
 exact ⟨rfl,rfl,rfl⟩
theorem lW (p:Prop) [Decidable p]:Value.bool (decide p)=Value.bool (decide (decide p=true)):=by
 congr 1
 rw [Bool.eq_iff_iff]
 simp
theorem kH (G:Imm) (b:Nat) (a:Option Addr) (c:Nat) (B:List U8) (s:RS) (lo hi:Int) (hA:Arr G a B) (hB:Bytes B) (hk:s.k≤B.length) (hl:B.length≤1048576) :
 Does Tryz.prog 123 [.pointer (some ⟨b,0,none⟩),.int .i64 lo,.int .i64 hi] G [(0,some b,rdP a B.length c s)] (fun v G' Ho=>∃ (x:Int) (t:RS),wi B s lo hi=(x,t)∧t.k≤B.length∧(0≤x∧x≤255)∧v=.int .i64 x∧Ho=[(0,some b,rdP a B.length c t)]):=by
 refine D0 Tryz.func123 Tryz.ntmps123 fun w=>?_
 refine Wc.gl 2 [] ?_
 refine Wl.x 1 fun b1=>?_
 refine Wl.x 2 fun b2=>?_
 refine Wl.gl 6 [] ?_
 refine Wl.p (Qy.makeFunc rfl rfl) ?_
 refine Wl.freeze 1 rfl fun G1 hle1 hb1=>?_
 refine Wl.freeze 2 rfl fun G2 hle2 hb2=>?_
 have hb1':=hle2 _ _ hb1
 have hG:uW G2 170 [.pointer (some ⟨b1,0,none⟩),.pointer (some ⟨b2,0,none⟩)] (fun x=>decide (lo≤x∧x≤hi)):=⟨T.fn170,fun G' x hle h0 h1=>(c170 G' lo hi x b1 b2 _ _ _ _ _ _ (hle _ _ hb1') (hle _ _ hb2) rfl rfl).mono fun v G'' Ho _ h=>⟨h.1.trans (lW _),h.2⟩⟩
 refine Wl.k 0 rfl (aJA _ b a c B s 170 _ _ hG ((hA.up hle1).up hle2) hB hk hl) fun v3 G3 Ho3 hle3 hp=>?_
 obtain ⟨rfl,rfl,rfl⟩:=hp
 refine Wl.ga 4 [] ?_
 refine Ar.p1 [0] ?_
 exact ⟨_,_,rfl,wi_k hk,aMV hB hk,rfl,rfl⟩
theorem w8 {x:Int} (h:0≤x∧x≤255):IntKind.i8.wrap x=if 128≤x then x - 256 else x:=by
 simp [IntKind.wrap,IntKind.bits,IntKind.signed]
 split <;> split <;> omega
def gS (x:Int):Bool:=decide (x≤16∨240≤x)
theorem aRK (B:List U8) (s:RS):sg B s=(if 128≤(nx B s gS).1 then (nx B s gS).1 - 256 else (nx B s gS).1,(nx B s gS).2):=rfl
theorem sg_k {B:List U8} {s:RS} (h:s.k≤B.length):(sg B s).2.k≤B.length:=by rw [aRK];exact qC h
theorem c124 (G:Imm) (b:Nat) (a:Option Addr) (c:Nat) (B:List U8) (s:RS) (hA:Arr G a B) (hB:Bytes B) (hk:s.k≤B.length) (hl:B.length≤1048576) :
 Does Tryz.prog 124 [.pointer (some ⟨b,0,none⟩)] G [(0,some b,rdP a B.length c s)] (fun v G' Ho=>∃ (x:Int) (t:RS),sg B s=(x,t)∧t.k≤B.length∧(-128≤x∧x≤255)∧v=.int .i64 x∧Ho=[(0,some b,rdP a B.length c t)]):=by
 refine D0 Tryz.func124 Tryz.ntmps124 fun w=>?_
 refine Wc.gl 8 [] ?_
 have hG:uW G 171 [] gS:=⟨T.fn171,fun G' x hle h0 h1=>(c171 G' x).mono fun v G'' Ho _ h=>⟨h.1.trans (lW _),h.2⟩⟩
 refine Wl.k 0 rfl (aJA _ b a c B s 171 _ _ hG hA hB hk hl) fun v3 G3 Ho3 hle3 hp=>?_
 obtain ⟨rfl,rfl,rfl⟩:=hp
 have hv:=rQ (B:=B) (s:=s) (g:=gS) hB hk
 have hk2:=qC (B:=B) (s:=s) (g:=gS) hk
 have e9:=aRK B s
 obtain ⟨x,t,e⟩:∃ x t,nx B s gS=(x,t):=⟨_,_,rfl⟩
 rw [e] at hv hk2 e9 ⊢
 dsimp only at hv hk2 e9 ⊢
 refine Wl.p (bE rfl T.u253 rfl) ?_
 refine Wl.p (bE rfl T.u3 rfl) ?_
 refine Wl.ga 4 [] ?_
 refine Ar.p1 [0] ?_
 refine ⟨_,t,e9,hk2,by split <;> omega,?_,rfl⟩
 rw [w8 hv,w64 (by split <;> omega)]
theorem w16 {x:Int} (h:0≤x∧x≤65535):IntKind.i16.wrap x=if 32768≤x then x - 65536 else x:=by
 simp [IntKind.wrap,IntKind.bits,IntKind.signed]
 split <;> split <;> omega
theorem uX {h l:Int} (hh:0≤h∧h≤255) (hl:0≤l∧l≤255):bits .or .i64 (h*256) l=h*256+l:=by
 obtain ⟨a,rfl⟩:∃ a:Nat,h=(a:Int):=⟨h.toNat,by omega⟩
 obtain ⟨b,rfl⟩:∃ b:Nat,l=(b:Int):=⟨l.toNat,by omega⟩
 have e:=(bits_nat .i64 16 (by decide) (fun n h1 h2=>w64 (by have:(2:Int) ^ 16=65536:=(by decide);omega)) (2 ^ 8*a) b (by omega) (by omega)).2
 rw [←Nat.two_pow_add_eq_or_of_lt (by omega) a] at e
 have e2:((a:Int)*256)=((2 ^ 8*a:Nat):Int):=by omega
 rw [e2,e]
 omega
theorem shl8 {h:Int} (hh:0≤h∧h≤65535):IntKind.i64.wrap (h*2 ^ (min (8:Int).toNat IntKind.i64.bits))=h*256:=by
 have e:(2:Int) ^ (min (8:Int).toNat IntKind.i64.bits)=256:=by decide
 rw [e,w64 (by omega)]
theorem c218 (G:Imm) (h l:Int) (hh:0≤h∧h≤255) (hl:0≤l∧l≤255):Does Tryz.prog 218 [.int .i64 h,.int .i64 l] G [] (fun v G' Ho=>v=.int .i64 (i16 h l)∧G'=G∧Ho=[]):=by
 refine D0 Tryz.func218 Tryz.ntmps218 fun w=>?_
 refine Wc.gl 8 [] ?_
 refine Wl.p (Qy.shl rfl rfl (by omega)) ?_
 refine aA 1 [] ?_
 refine Wl.p (lG rfl rfl) ?_
 refine Wl.p (bE rfl T.u292 rfl) ?_
 refine Wl.p (bE rfl T.u3 rfl) ?_
 refine Wl.ga 4 [] ?_
 refine Ar.e1 ?_
 refine ⟨?_,rfl,rfl⟩
 rw [shl8 (by omega),uX hh hl,w16 (by omega),w64 (by split <;> omega)]
 rfl
theorem c217 (G:Imm) (op x:Int) (b1:Nat) (c1:Array Value) (t1:TypeId) (z1:Nat×Nat) (h1:G b1=some (.cells c1 t1 z1)) (e1:c1[0]?=some (.int .i64 op)) :
 Does Tryz.prog 217 [.int .i64 x,.pointer (some ⟨b1,0,none⟩)] G [] (fun v G' Ho=>v=.bool (decide (fJ op x=true))∧G'=G∧Ho=[]):=by
 refine D0 Tryz.func217 Tryz.ntmps217 fun w=>?_
 refine Wc.gl 8 [] ?_
 refine Wl.p (aL T.one3 rfl (eV h1 e1)) ?_
 by_cases ho:op=5∨op=6
 · rcases ho with rfl | rfl
   · refine Wl.gl 19 [1,1] ?_
     apply aM 3 10 13 rfl
     intro hg1
     refine aA 5 [] ?_
     exact Wl.b 3 0
     intro hg1
     refine aA 3 [] ?_
     exact Wl.b 3 0
     refine aA 1 [] ?_
     apply aM 3 14 17 rfl
     intro hg1
     refine aA 5 [] ?_
     exact Wl.b 3 0
     intro hg1
     refine aA 3 [] ?_
     exact Wl.b 3 0
     refine Wl.ga 6 [] ?_
     refine Ar.e1 ?_
     exact ⟨by unfold fJ;rw [if_pos (by omega)];exact lW _,rfl,rfl⟩
   refine Wl.gl 22 [0,1] ?_
   apply aM 3 10 13 rfl
   intro hg1
   refine aA 5 [] ?_
   exact Wl.b 3 0
   intro hg1
   refine aA 3 [] ?_
   exact Wl.b 3 0
   refine aA 1 [] ?_
   apply aM 3 14 17 rfl
   intro hg1
   refine aA 5 [] ?_
   exact Wl.b 3 0
   intro hg1
   refine aA 3 [] ?_
   exact Wl.b 3 0
   refine Wl.ga 6 [] ?_
   refine Ar.e1 ?_
   exact ⟨by unfold fJ;rw [if_pos (by omega)];exact lW _,rfl,rfl⟩
 by_cases ho2:op=7∨op=8
 · rcases ho2 with rfl | rfl
   · refine Wl.gl 33 [0,0,1,1] ?_
     apply aM 3 23 26 rfl
     intro hg1
     refine aA 5 [] ?_
     exact Wl.b 3 0
     intro hg1
     refine aA 3 [] ?_
     exact Wl.b 3 0
     refine Wl.ga 6 [] ?_
     refine Ar.e1 ?_
     exact ⟨by unfold fJ;rw [if_neg (by omega),if_pos (by omega)];exact lW _,rfl,rfl⟩
   refine Wl.gl 36 [0,0,0,1] ?_
   apply aM 3 23 26 rfl
   intro hg1
   refine aA 5 [] ?_
   exact Wl.b 3 0
   intro hg1
   refine aA 3 [] ?_
   exact Wl.b 3 0
   refine Wl.ga 6 [] ?_
   refine Ar.e1 ?_
   exact ⟨by unfold fJ;rw [if_neg (by omega),if_pos (by omega)];exact lW _,rfl,rfl⟩
 refine Wl.ga 42 [0,0,0,0] ?_
 refine Ar.e1 ?_
 exact ⟨by unfold fJ;rw [if_neg ho,if_neg ho2];exact lW _,rfl,rfl⟩
def CapsC (G:Imm) (op:Int) (bo bm bb:Nat):Prop:=
 (∃ c t z,G bo=some (.cells c t z)∧c[0]?=some (.int .i64 op))∧(∃ c t z,G bm=some (.cells c t z)∧c[0]?=some (.func (.func 217) #[] #[.pointer (some ⟨bo,0,none⟩)]))∧(∃ c t z,G bb=some (.cells c t z)∧c[0]?=some (.func (.func 218) #[] #[]))
theorem CapsC.up {G G':Imm} {op:Int} {bo bm bb:Nat} (h:CapsC G op bo bm bb) (hl:G.le G'):CapsC G' op bo bm bb:=by
 obtain ⟨⟨c1,t1,z1,h1,e1⟩,⟨c2,t2,z2,h2,e2⟩,c3,t3,z3,h3,e3⟩:=h
 exact ⟨⟨c1,t1,z1,hl _ _ h1,e1⟩,⟨c2,t2,z2,hl _ _ h2,e2⟩,c3,t3,z3,hl _ _ h3,e3⟩
theorem aSH {op h:Int} (hn:∀ t:Nat,t<256→fJ op (i16 h (t:Int))=false):hiC op h=false:=by
 unfold hiC
 rw [List.any_eq_false]
 intro t ht
 rw [hn t (List.mem_range.1 ht)]
 decide
theorem aQK {op h:Int} {t:Nat} (ht:t<256) (hm:fJ op (i16 h (t:Int))=true):hiC op h=true:=by
 unfold hiC
 rw [List.any_eq_true]
 exact ⟨t,List.mem_range.2 ht,hm⟩
theorem c219 (G:Imm) (op x:Int) (bo bm bb:Nat) (hC:CapsC G op bo bm bb) (hx:0≤x∧x≤255) :
 Does Tryz.prog 219 [.int .i64 x,.pointer (some ⟨bm,0,none⟩),.pointer (some ⟨bb,0,none⟩)] G [] (fun v G' Ho=>v=.bool (decide (hiC op x=true))∧G'=G∧Ho=[]):=by
 obtain ⟨⟨c1,t1,z1,h1,e1⟩,⟨c2,t2,z2,h2,e2⟩,c3,t3,z3,h3,e3⟩:=hC
 refine D0 Tryz.func219 Tryz.ntmps219 fun w=>?_
 refine Wc.gc 12 [] ?_
 refine Wc.lp (ι:=Nat) (fun j=>([(6,.int .i64 (j:Int)),(0,.int .i64 x),(1,.pointer (some ⟨bm,0,none⟩)),(2,.pointer (some ⟨bb,0,none⟩))],[])) (fun j=>j≤256∧∀ t:Nat,t<j→fJ op (i16 x (t:Int))=false) (fun j=>256 - j) (0) (⟨Nat.zero_le _,fun t h=>absurd h (by omega)⟩) fun j=>fun hk=>?_
 obtain ⟨hj,hno⟩:=hk
 rcases Nat.lt_or_ge j 256 with hjl | hjl
 · refine Wc.gc 18 [1] ?_
   refine Wc.draw [] [] T.mixed rfl ?_
   refine Gm.u 0 [] rfl (aL T.one171 rfl (eV h2 e2)) ?_
   refine Gm.u 1 [] rfl (aL T.one110 rfl (eV h3 e3)) ?_
   refine Gm.r [[2],[3]] ?_
   refine Gm.one 4 trivial (Imm.le_refl _) (by kernel_rfl) rfl ?_
   refine bN (fst:=[]) (cap:=[]) 2 rfl T.fn218 rfl rfl (c218 _ x (j:Int) hx (by omega)) (bO trivial) fun v8 G8 Ho8 hle8 hp=>?_
   obtain ⟨rfl,rfl,rfl⟩:=hp
   refine aO ?_
   refine Gm.one 5 trivial (Imm.le_refl _) (by kernel_rfl) rfl ?_
   refine bN (fst:=[]) (cap:=[.pointer (some ⟨bo,0,none⟩)]) 2 rfl T.fn217 rfl rfl (c217 _ op _ bo _ _ _ h1 e1) (bO trivial) fun v9 G9 Ho9 hle9 hp=>?_
   obtain ⟨rfl,rfl,rfl⟩:=hp
   refine aO ?_
   refine mG (by kernel_rfl) trivial (Imm.le_refl _) ?_
   refine Ar.next ?_
   refine Wc.i (fun hc1=>?_) fun hc1=>?_
   refine Wc.ga 11 [] ?_
   rotate_left
   refine Wc.ga 7 [] ?_
   rotate_left
   · refine Ar.e1 ?_
     exact ⟨by rw [aQK hjl ‹_›];rfl,rfl,rfl⟩
   refine Ar.re 6 rfl (show _=Value.int .i64 ((j+1:Nat):Int) from rfl) ?_
   refine aH (j+1) ?_ ?_
   · refine ⟨by omega,fun t ht=>?_⟩
     rcases Nat.lt_or_ge t j with h | h
     · exact hno t h
     have e:t=j:=by omega
     subst e;exact Bool.eq_false_iff.2 ‹_›
   show 256 - (j+1)<256 - j
   omega
 refine Wc.ga 18 [0] ?_
 refine Ar.e1 ?_
 exact ⟨by rw [aSH (fun t ht=>hno t (by omega))];rfl,rfl,rfl⟩
theorem c220 (G:Imm) (op h x:Int) (bo bm bb bh:Nat) (hC:CapsC G op bo bm bb) (c4:Array Value) (t4:TypeId) (z4:Nat×Nat) (h4:G bh=some (.cells c4 t4 z4)) (e4:c4[0]?=some (.int .i64 h)) (hh:0≤h∧h≤255) (hx:0≤x∧x≤255) :
 Does Tryz.prog 220 [.int .i64 x,.pointer (some ⟨bm,0,none⟩),.pointer (some ⟨bb,0,none⟩),.pointer (some ⟨bh,0,none⟩)] G [] (fun v G' Ho=>v=.bool (decide (fJ op (i16 h x)=true))∧G'=G∧Ho=[]):=by
 obtain ⟨⟨c1,t1,z1,h1,e1⟩,⟨c2,t2,z2,h2,e2⟩,c3,t3,z3,h3,e3⟩:=hC
 refine D0 Tryz.func220 Tryz.ntmps220 fun w=>?_
 refine Wc.gc 6 [] ?_
 refine Wc.draw [] [] T.mixed rfl ?_
 refine Gm.u 0 [] rfl (aL T.one171 rfl (eV h2 e2)) ?_
 refine Gm.u 1 [] rfl (aL T.one110 rfl (eV h3 e3)) ?_
 refine Gm.u 2 [] rfl (aL T.one3 rfl (eV h4 e4)) ?_
 refine Gm.r [[3]] ?_
 refine Gm.one 4 trivial (Imm.le_refl _) (by kernel_rfl) rfl ?_
 refine bN (fst:=[]) (cap:=[]) 2 rfl T.fn218 rfl rfl (c218 _ h x hh hx) (bO trivial) fun v8 G8 Ho8 hle8 hp=>?_
 obtain ⟨rfl,rfl,rfl⟩:=hp
 refine aO ?_
 refine Gm.one 5 trivial (Imm.le_refl _) (by kernel_rfl) rfl ?_
 refine bN (fst:=[]) (cap:=[.pointer (some ⟨bo,0,none⟩)]) 2 rfl T.fn217 rfl rfl (c217 _ op _ bo _ _ _ h1 e1) (bO trivial) fun v9 G9 Ho9 hle9 hp=>?_
 obtain ⟨rfl,rfl,rfl⟩:=hp
 refine aO ?_
 refine Gm.r [[6]] ?_
 refine mG (by kernel_rfl) trivial (Imm.le_refl _) ?_
 refine Ar.ga 2 [] ?_
 refine Ar.e1 ?_
 exact ⟨rfl,rfl,rfl⟩
theorem cst_k {B:List U8} {s:RS} {op:Int} (h:s.k≤B.length):(oO B s op).2.k≤B.length:=by
 unfold oO
 exact qC (qC h)
theorem c174 (G:Imm) (b:Nat) (a:Option Addr) (c:Nat) (B:List U8) (s:RS) (op:Int) (hA:Arr G a B) (hB:Bytes B) (hk:s.k≤B.length) (hl:B.length≤1048576) :
 Does Tryz.prog 174 [.pointer (some ⟨b,0,none⟩),.int .i64 op] G [(0,some b,rdP a B.length c s)] (fun v G' Ho=>∃ (x:Int) (t:RS),oO B s op=(x,t)∧t.k≤B.length∧v=.int .i64 x∧Ho=[(0,some b,rdP a B.length c t)]):=by
 refine D0 Tryz.func174 Tryz.ntmps174 fun w=>?_
 refine Wc.gl 2 [] ?_
 refine Wl.x 1 fun b1=>?_
 refine Wl.gl 5 [] ?_
 refine Wl.p (Qy.makeFunc rfl rfl) ?_
 refine Wl.alloc 2 rfl T.zero171 fun b2=>?_
 refine Wl.gl 5 [2] ?_
 refine Wl.alloc 3 rfl T.zero110 fun b3=>?_
 refine Wl.gl 6 [3] ?_
 refine Wl.p (Qy.makeFunc rfl rfl) ?_
 refine Wl.freeze 1 rfl fun G1 hle1 hb1=>?_
 refine Wl.freeze 2 rfl fun G2 hle2 hb2=>?_
 refine Wl.freeze 3 rfl fun G3 hle3 hb3=>?_
 have hC:CapsC G3 op b1 b2 b3:=⟨⟨_,_,_,hle3 _ _ (hle2 _ _ hb1),rfl⟩,⟨_,_,_,hle3 _ _ hb2,rfl⟩,_,_,_,hb3,rfl⟩
 have hA3:=((hA.up hle1).up hle2).up hle3
 have hG:uW G3 219 [.pointer (some ⟨b2,0,none⟩),.pointer (some ⟨b3,0,none⟩)] (hiC op):=⟨T.fn219,fun G' x hle h0 h1=>c219 G' op x b1 b2 b3 (hC.up hle) ⟨h0,h1⟩⟩
 refine Wl.k 0 rfl (aJA _ b a c B s 219 _ _ hG hA3 hB hk hl) fun v4 G4 Ho4 hle4 hp=>?_
 obtain ⟨rfl,rfl,rfl⟩:=hp
 have hh:=rQ (B:=B) (s:=s) (g:=hiC op) hB hk
 have hk1:=qC (B:=B) (s:=s) (g:=hiC op) hk
 obtain ⟨h,t,e⟩:∃ h t,nx B s (hiC op)=(h,t):=⟨_,_,rfl⟩
 rw [e] at hh hk1 ⊢
 dsimp only at hh hk1 ⊢
 refine Wl.alloc 4 rfl T.zero3 fun b4=>?_
 refine Wl.gl 6 [4] ?_
 refine Wl.p (Qy.makeFunc rfl rfl) ?_
 refine Wl.freeze 4 rfl fun G5 hle5 hb5=>?_
 have hC5:=hC.up hle5
 have hG2:uW G5 220 [.pointer (some ⟨b2,0,none⟩),.pointer (some ⟨b3,0,none⟩),.pointer (some ⟨b4,0,none⟩)] (fun l=>fJ op (i16 h l)):=⟨T.fn220,fun G' x hle h0 h1=>c220 G' op h x b1 b2 b3 b4 (hC5.up hle) _ _ _ (hle _ _ hb5) rfl hh ⟨h0,h1⟩⟩
 refine Wl.k 0 rfl (aJA _ b a c B t 220 _ _ hG2 (hA3.up hle5) hB hk1 hl) fun v6 G6 Ho6 hle6 hp=>?_
 obtain ⟨rfl,rfl,rfl⟩:=hp
 have hh2:=rQ (B:=B) (s:=t) (g:=fun l=>fJ op (i16 h l)) hB hk1
 have hk2:=qC (B:=B) (s:=t) (g:=fun l=>fJ op (i16 h l)) hk1
 obtain ⟨l,u,e2⟩:∃ l u,nx B t (fun l=>fJ op (i16 h l))=(l,u):=⟨_,_,rfl⟩
 rw [e2] at hh2 hk2 ⊢
 dsimp only at hh2 hk2 ⊢
 have hb3':=hle5 _ _ hb3
 refine Wl.gl 5 [] ?_
 refine Wl.p (aL T.one110 rfl (eV hb3' rfl)) ?_
 refine Wl.p (aL T.one3 rfl (eV hb5 rfl)) ?_
 refine aA 1 [] ?_
 refine bN (fst:=[]) (cap:=[]) 5 rfl T.fn218 rfl rfl (c218 _ h l hh hh2) (bO trivial) fun v7 G7 Ho7 hle7 hp=>?_
 obtain ⟨rfl,rfl,rfl⟩:=hp
 refine Wl.ga 4 [] ?_
 refine Ar.p1 [0] ?_
 exact ⟨i16 h l,u,by unfold oO;rw [e];dsimp only;rw [e2],hk2,rfl,rfl⟩
theorem RS.wr_eq {t:RS} (h:t.wr=true):(⟨t.k,true⟩:RS)=t:=by
 obtain ⟨k,w⟩:=t
 cases h;rfl
theorem uY {B:List U8} {s:RS} {lo hi:Int} (h:s.wr=true):wi B s lo hi=(0,s):=by rw [aMU h,RS.wr_eq h]
theorem uZ {B:List U8} {s:RS} {g:Int→Bool} (h:s.wr=true):nx B s g=(0,s):=by rw [qB h,RS.wr_eq h]
theorem aQL {B:List U8} {s:RS} {op:Int} (h:s.wr=true):(oO B s op).2=s:=by
 unfold oO
 rw [uZ h]
 dsimp only
 rw [uZ h]
theorem aQM {B:List U8} {s:RS} {regs:Int} (h:s.wr=true):(zH B s regs).2=s:=by
 unfold zH
 simp only [uY h]
 split <;> exact aQL h
theorem vA {B:List U8} {regs:Int}:∀ (n:Nat) (s:RS) (acc:List Sl.Instr),s.wr=true→eO B regs n s acc=(acc,s)
 | 0,s,acc,_=>rfl
 | n+1,s,acc,h=>by
   have e:=aQM (B:=B) (regs:=regs) h
   cases hq:zH B s regs with
   | mk i t =>
     rw [hq] at e
     replace e:t=s:=e
     subst e
     unfold eO
     rw [hq]
     dsimp only
     rw [if_pos h]
theorem mY {B:List U8} {regs:Int}:∀ (n:Nat) (s:RS) (acc:List Int),s.wr=true→(fZ B regs n s acc).2=s
 | 0,s,acc,_=>rfl
 | n+1,s,acc,h=>by
   unfold fZ
   rw [uY h]
   exact mY n s _ h
theorem aNI {B:List U8} {s:RS} (h:s.wr=true):(sg B s).2=s:=by
 unfold sg;rw [uZ h]
theorem tE {B:List U8}:∀ (n:Nat) (s:RS) (acc:List R2),s.wr=true→(kR B n s acc).2=s
 | 0,s,acc,_=>rfl
 | n+1,s,acc,h=>by
   have e:=aNI (B:=B) h
   cases hq:sg B s with
   | mk x t =>
     rw [hq] at e
     replace e:t=s:=e
     subst e
     unfold kR
     rw [hq]
     dsimp only
     rw [hq]
     dsimp only
     exact tE n t _ h
theorem vB {B:List U8} {regs:Int} {n:Nat} {s t:RS} {acc:List Sl.Instr} {i:Sl.Instr} (e:zH B s regs=(i,t)) (h:t.wr=false):eO B regs (n+1) s acc=eO B regs n t (acc++[i]):=by
 rw [eO,e]
 dsimp only
 rw [if_neg (by rw [h];decide)]
theorem rS {B:List U8} {regs:Int} {n:Nat} {s t:RS} {acc:List Sl.Instr} {i:Sl.Instr} (e:zH B s regs=(i,t)) (h:t.wr=true):eO B regs (n+1) s acc=(acc,t):=by
 rw [eO,e]
 dsimp only
 rw [if_pos h]
theorem aCK {B:List U8} {regs:Int} {n:Nat} {s t:RS} {acc:List Int} {x:Int} (e:wi B s 0 (regs - 1)=(x,t)):fZ B regs (n+1) s acc=fZ B regs n t (acc++[x]):=by
 rw [fZ,e]
theorem qE {B:List U8} {s t1 t2 t3 t4 t5:RS} {regs op to a b c:Int} (e1:wi B s 1 8=(op,t1)) (e2:wi B t1 0 (regs - 1)=(to,t2)) (e3:wi B t2 0 (regs - 1)=(a,t3)) (e4:(if op=3∨op=4 then wi B t3 0 (regs - 1) else ((0:Int),(wi B t3 0 0).2))=(b,t4)) (e5:oO B t4 op=(c,t5)):zH B s regs=(⟨op,to,a,b,c⟩,t5):=by
 unfold zH
 rw [e1];dsimp only
 rw [e2];dsimp only
 rw [e3];dsimp only
 rw [e4];dsimp only
 rw [e5]
theorem c172 (G:Imm) (x:Int) (hx:0≤x∧x≤255):Does Tryz.prog 172 [.int .i64 x] G [] (fun v G' Ho=>v=.bool (decide (x*256≤16384))∧G'=G∧Ho=[]):=by
 refine D0 Tryz.func172 Tryz.ntmps172 fun w=>?_
 refine Wc.gl 8 [] ?_
 refine Wl.p (Qy.shl rfl rfl (by omega)) ?_
 refine Wl.ga 5 [] ?_
 refine Ar.e1 ?_
 rw [shl8 (by omega)]
 exact ⟨rfl,rfl,rfl⟩
theorem c173 (G:Imm) (h x:Int) (b1:Nat) (c1:Array Value) (t1:TypeId) (z1:Nat×Nat) (h1:G b1=some (.cells c1 t1 z1)) (e1:c1[0]?=some (.int .i64 h)) (hh:0≤h∧h≤255) (hx:0≤x∧x≤255) :
 Does Tryz.prog 173 [.int .i64 x,.pointer (some ⟨b1,0,none⟩)] G [] (fun v G' Ho=>v=.bool (decide (h*256+x≤16384))∧G'=G∧Ho=[]):=by
 refine D0 Tryz.func173 Tryz.ntmps173 fun w=>?_
 refine Wc.gl 7 [] ?_
 refine Wl.p (aL T.one3 rfl (eV h1 e1)) ?_
 refine Wl.p (Qy.shl rfl rfl (by omega)) ?_
 refine aA 1 [] ?_
 refine Wl.p (lG rfl rfl) ?_
 refine Wl.ga 5 [] ?_
 refine Ar.e1 ?_
 rw [shl8 (by omega),uX hh hx]
 exact ⟨rfl,rfl,rfl⟩
theorem wi_00 {B:List U8} {s t:RS} {x:Int} (h:wi B s 0 0=(x,t)):x=0:=by
 cases hw:t.wr with
 | false=>have:=aR h hw;omega
 | true =>
   unfold wi nx at h
   split at h
   · exact (Prod.mk.inj h).1.symm
   have:=(Prod.mk.inj h).2
   rw [←this] at hw
   cases hw
theorem c122X (G:Imm) (b:Nat) (a:Option Addr) (c:Nat) (B:List U8) (s:RS) (op:Int) (hA:Arr G a B) (hB:Bytes B) (hk:s.k≤B.length) (hl:B.length≤1048576) :
 Does Tryz.prog 122 [.pointer (some ⟨b,0,none⟩),.int .i64 op] G [(0,some b,rdR a B.length c s)] (fun v G' Ho=>∃ (x q:Int) (t:RS),oO B s op=(q,t)∧t.k≤B.length∧(-65536≤x∧x≤65536)∧(t.wr=false→x=q)∧v=.int .i64 x∧G'=G∧Ho=[(0,some b,rdR a B.length c t)]):=
 (c122 G b a c B s op hA hB hk hl).mono fun v G' Ho _ ⟨x,h1,h2,h3,h4,h5⟩=>⟨x,_,_,rfl,cst_k hk,h2,h3,h1,h4,h5⟩
theorem nx_n {B:List U8} {s:RS} (hB:Bytes B) (hk:s.k≤B.length):nx B s (fun x=>decide (x*256≤16384))=wi B s 0 64:=by
 unfold wi
 exact iK (fun h=>decide_eq_decide.mpr (by have:=hB s.k h;omega)) hk
theorem nx_l {B:List U8} {s t:RS} {h m:Int} (hB:Bytes B) (hk:s.k≤B.length) (e:wi B t 0 64=(h,s)) (hm:m=if h=64 then 0 else 255):nx B s (fun x=>decide (h*256+x≤16384))=wi B s 0 m:=by
 cases hw:s.wr with
 | true=>rw [qB hw,aMU hw]
 | false =>
   have h1:=aR e hw
   unfold wi
   refine iK (fun h2=>decide_eq_decide.mpr ?_) hk
   have:=hB s.k h2
   split at hm <;> omega
theorem qF {B:List U8} {s t1 t2 t3 t4 t5 t6 t7:RS} {ins regs h l n:Int} {r:List Sl.Instr} {q:List Int} {N M:Nat} (e1:wi B s 1 128=(ins,t1)) (e2:wi B t1 ins 128=(regs,t2)) (e3:nx B t2 (fun x=>decide (x*256≤16384))=(h,t3)) (e4:nx B t3 (fun x=>decide (h*256+x≤16384))=(l,t4)) (hN:(h*256+l).toNat=N) (e5:eO B regs N t4 []=(r,t5)) (e6:wi B t5 1 128=(n,t6)) (hM:n.toNat=M) (e7:fZ B regs M t6 []=(q,t7)):cZ B s=(⟨ins,regs,r,q⟩,t7):=by
 subst hN hM
 unfold cZ
 rw [e1]
 dsimp only
 rw [e2]
 dsimp only
 rw [e3]
 dsimp only
 rw [e4]
 dsimp only
 rw [e5]
 dsimp only
 rw [e6]
 dsimp only
 rw [e7]
theorem mZ {s:RS}:(if s.wr=true then (s.k:Int) else -1)<0↔s.wr=false:=by
 cases s.wr <;> simp
theorem c63 (G:Imm) (b:Nat) (a:Option Addr) (c:Nat) (B:List U8) (s:RS) (hA:Arr G a B) (hB:Bytes B) (hk:s.k≤B.length) (hl:B.length≤1048576) :
 Does Tryz.prog 63 [.pointer (some ⟨b,0,none⟩)] G [(0,some b,rdR a B.length c s)] (fun v G' Ho=>∃ (p:PV) (t:RS) (ac ao:Option Addr) (cc co:Nat),(cZ B s).2=t∧t.k≤B.length∧v=.agg #[.int .i64 p.ins,.int .i64 p.regs,.slice ac p.code.length cc,.slice ao p.outs.length co]∧Arr G' ac p.code∧Arr G' ao p.outs∧(t.wr=false→cZ B s=(p,t))∧Ho=[(0,some b,rdR a B.length c t)]):=by
 refine D0 Tryz.func63 Tryz.ntmps63 fun w=>?_
 refine bF 9 (Row 91 ([]:List Sl.Instr) []) ?_
 refine bF 8 (Row 3 ([]:List Int) []) ?_
 refine Wc.gl 2 [] ?_
 refine Wl.alloc 10 rfl T.zero26 fun b1=>?_
 refine Wl.gl 4 [] ?_
 refine Wl.alloc 11 rfl T.zero26 fun b2=>?_
 refine Wl.gl 5 [] ?_
 refine Wl.k 0 rfl (cP _ _ a c B _ _ _ hA hB ‹_› hl) fun v1 G1 Ho1 hle1 hp=>?_
 obtain ⟨x1,t1,ht1,hk1,hx1,rfl,rfl,rfl⟩:=hp
 refine Wl.gl 9 [11,11] ?_
 refine Wl.k 0 rfl (cP _ _ a c B _ _ _ hA hB ‹_› hl) fun v2 G2 Ho2 hle2 hp=>?_
 obtain ⟨x2,t2,ht2,hk2,hx2,rfl,rfl,rfl⟩:=hp
 refine Wl.gl 7 [11] ?_
 refine Wl.k 0 rfl (cP _ _ a c B _ _ _ hA hB ‹_› hl) fun v3 G3 Ho3 hle3 hp=>?_
 obtain ⟨x3,t3,ht3,hk3,hx3,rfl,rfl,rfl⟩:=hp
 refine Wl.gc 8 [] ?_
 refine eY (ι:=Int) (fun m=>([(5,.int .i64 m),(4,Go.Value.int Go.IntKind.i64 x3),(3,Go.Value.pointer (Option.some (Go.Addr.mk b2 0 Option.none))),(2,Go.Value.pointer (Option.some (Go.Addr.mk b1 0 Option.none))),(0,Go.Value.pointer (Option.some (Go.Addr.mk b 0 Option.none)))],[(0,Option.some b,Go.Proofs.YtfdcckcadfhpeaaGreatDoor.rdR a (List.length B) c t3),(11,Option.some b2,Go.Obj.cells (List.toArray (List.set (List.set [Go.Value.int Go.IntKind.i64 0,Go.Value.int Go.IntKind.i64 0,Go.Value.slice Option.none 0 0,Go.Value.slice Option.none 0 0] (0+0) (Go.Value.int Go.IntKind.i64 x1)) (0+1) (Go.Value.int Go.IntKind.i64 x2))) 26),(10,Option.some b1,Go.Obj.cells #[Go.Value.int Go.IntKind.i64 0,Go.Value.int Go.IntKind.i64 0,Go.Value.slice Option.none 0 0,Go.Value.slice Option.none 0 0] 26),(8,Option.none,Go.Sl.Row (α:=Int) 3 ([]) ([])),(9,Option.none,Go.Sl.Row (α:=Go.Sl.Instr) 91 ([]) ([]))])) (fun m=>m=if x3=64 then 0 else 255) ?_ fun m=>fun (hk:m=if x3=64 then 0 else 255)=>?_
 · refine Wc.gc 6 [] ?_
   refine Wc.i (fun hc1=>?_) fun hc1=>?_
   refine Wc.ga 3 [] ?_
   rotate_left
   refine Wc.skip ?_
   rotate_left
   · refine Ar.mt ((0:Int)) ?_
     exact (if_pos ‹_›).symm
   refine Ar.mt ((255:Int)) ?_
   exact (if_neg ‹_›).symm
 have hkm:=hk
 have hm0:0≤m∧m≤255:=by split at hk <;> omega
 refine Wc.gl 3 [] ?_
 refine Wl.p (Qy.mul rfl rfl (by omega)) ?_
 refine aA 2 [] ?_
 refine Wl.k 0 rfl (cP _ _ a c B _ _ _ hA hB ‹_› hl) fun v4 G4 Ho4 hle4 hp=>?_
 obtain ⟨x4,t4,ht4,hk4,hx4,rfl,rfl,rfl⟩:=hp
 refine Wl.gc 4 [] ?_
 obtain ⟨N,hN,hN2⟩:∃ N:Nat,x3*256+x4=(N:Int)∧N≤65535:=⟨(x3*256+x4).toNat,by omega,by omega⟩
 refine Wc.re 4 rfl (show _=Value.int .i64 (N:Int) by rw [hN]) ?_
 refine eY (ι:=RS×List Sl.Instr×(Option Addr×Nat×List Value)) (fun (t,r,(o,d,j))=>([(4,Go.Value.int Go.IntKind.i64 (↑N:Int)),(3,Go.Value.pointer (Option.some (Go.Addr.mk b2 0 Option.none))),(2,Go.Value.pointer (Option.some (Go.Addr.mk b1 0 Option.none))),(0,Go.Value.pointer (Option.some (Go.Addr.mk b 0 Option.none)))],[(0,some b,rdR a B.length c t),(11,some b2,.cells #[.int .i64 x1,.int .i64 x2,.slice o r.length d,.slice none 0 0] 26),(9,o.map (·.block),Row 91 r j),(8,none,Row 3 ([]:List Int) []),(10,Option.some b1,Go.Obj.cells #[Go.Value.int Go.IntKind.i64 0,Go.Value.int Go.IntKind.i64 0,Go.Value.slice Option.none 0 0,Go.Value.slice Option.none 0 0] 26)])) (fun (t,r,(o,d,j))=>(eO B x2 N t4 []).2=t∧t.k≤B.length∧OwnA o d r j∧r.length≤N∧(t.wr=false→eO B x2 N t4 []=(r,t))) ?_ fun ⟨t,r,(o,d,j)⟩=>fun (hk:(eO B x2 N t4 []).2=t∧t.k≤B.length∧OwnA o d r j∧r.length≤N∧(t.wr=false→eO B x2 N t4 []=(r,t)))=>?_
 · refine Wc.gc 6 [] ?_
   refine Wc.loop (ι:=Nat×RS×List Sl.Instr×(Option Addr×Nat×List Value)) (fun (i,t,r,(o,d,j))=>([(6,.int .i64 (i:Int)),(4,.int .i64 (N:Int)),(0,.pointer (some ⟨b,0,none⟩)),(2,.pointer (some ⟨b1,0,none⟩)),(3,.pointer (some ⟨b2,0,none⟩))],[(0,some b,rdR a B.length c t),(10,some b1,.cells #[.int .i64 0,.int .i64 0,.slice none 0 0,.slice none 0 0] 26),(11,some b2,.cells #[.int .i64 x1,.int .i64 x2,.slice o r.length d,.slice none 0 0] 26),(9,o.map (·.block),Row 91 r j),(8,none,Row 3 ([]:List Int) [])])) (fun (i,t,r,(o,d,j))=>i≤N∧t.k≤B.length∧OwnA o d r j∧r.length=i∧(t.wr=false→eO B x2 N t4 []=eO B x2 (N - i) t r)∧(t.wr=true→(eO B x2 N t4 []).2=t)) (fun (i,t,r,(o,d,j))=>N - i) ((0,t4,[],(none,0,[]))) (⟨Nat.zero_le _,hk4,OwnA.nil,rfl,fun _=>rfl,fun h=>by rw [vA _ _ _ h]⟩) ⟨rfl,rfl,rfl,rfl,rfl,trivial⟩ ⟨rfl,rfl,rfl,rfl,rfl,trivial⟩ fun ⟨i,t,r,(o,d,j)⟩=>fun hk=>?_
   obtain ⟨hi,hkt,hown,hri,hcode,hcw⟩:=hk
   rcases Nat.lt_or_ge i N with hiN | hiN
   · refine Wc.gl 7 [] ?_
     refine lZ 30 ?_
     refine Wl.gc 13 [0] ?_
     refine Wc.i (fun hc1=>?_) fun hc1=>?_
     refine Wc.gl 6 [] ?_
     refine Wl.alloc 12 rfl T.zero91 fun b3=>?_
     refine Wl.gl 5 [] ?_
     refine Wl.k 0 rfl (cP _ _ a c B _ _ _ hA hB ‹_› hl) fun v5 G5 Ho5 hle5 hp=>?_
     obtain ⟨x5,t5,ht5,hk5,hx5,rfl,rfl,rfl⟩:=hp
     refine Wl.gl 10 [12,11] ?_
     refine Wl.k 0 rfl (cP _ _ a c B _ _ _ hA hB ‹_› hl) fun v6 G6 Ho6 hle6 hp=>?_
     obtain ⟨x6,t6,ht6,hk6,hx6,rfl,rfl,rfl⟩:=hp
     refine Wl.gl 10 [12,11] ?_
     refine Wl.k 0 rfl (cP _ _ a c B _ _ _ hA hB ‹_› hl) fun v7 G7 Ho7 hle7 hp=>?_
     obtain ⟨x7,t7,ht7,hk7,hx7,rfl,rfl,rfl⟩:=hp
     refine Wl.gc 4 [12] ?_
     rotate_left
     refine Wc.ga 4 [] ?_
     rotate_left
     · have hw:=mZ.1 hc1
       have hNi:N - i=(N - i - 1)+1:=by omega
       refine eY (ι:=Int×RS) (fun (y,u)=>([(4,.int .i64 (N:Int)),(7,Go.Value.pointer (Option.some (Go.Addr.mk b3 0 Option.none))),(6,Go.Value.int Go.IntKind.i64 (↑i:Int)),(0,Go.Value.pointer (Option.some (Go.Addr.mk b 0 Option.none))),(2,Go.Value.pointer (Option.some (Go.Addr.mk b1 0 Option.none))),(3,Go.Value.pointer (Option.some (Go.Addr.mk b2 0 Option.none)))],[(0,some b,rdR a B.length c u),(12,some b3,.cells #[.int .i64 x5,.int .i64 x6,.int .i64 x7,.int .i64 y,.int .i64 0] 91),(10,Option.some b1,Go.Obj.cells #[Go.Value.int Go.IntKind.i64 0,Go.Value.int Go.IntKind.i64 0,Go.Value.slice Option.none 0 0,Go.Value.slice Option.none 0 0] 26),(11,Option.some b2,Go.Obj.cells #[Go.Value.int Go.IntKind.i64 x1,Go.Value.int Go.IntKind.i64 x2,Go.Value.slice o (List.length r) d,Go.Value.slice Option.none 0 0] 26),(9,Option.map (fun x=>Go.Addr.block x) o,Go.Sl.Row (α:=Go.Sl.Instr) 91 (r) (j)),(8,Option.none,Go.Sl.Row (α:=Int) 3 ([]) ([]))])) (fun (y,u)=>(if x5=3∨x5=4 then wi B t7 0 (x2 - 1) else ((0:Int),(wi B t7 0 0).2))=(y,u)∧u.k≤B.length) ?_ fun ⟨y,u⟩=>fun (hk:(if x5=3∨x5=4 then wi B t7 0 (x2 - 1) else ((0:Int),(wi B t7 0 0).2))=(y,u)∧u.k≤B.length)=>?_
       · refine Wc.gl 6 [12] ?_
         apply aG 4 57 61 rfl
         intro hg1
         refine aA 7 [12] ?_
         exact Wl.b 4 0
         intro hg1
         refine aA 4 [] ?_
         exact Wl.b 4 0
         refine Wl.gc 2 [] ?_
         refine Wc.i (fun hc2=>?_) fun hc2=>?_
         refine Wc.gl 5 [11] ?_
         refine Wl.k 0 rfl (cP _ _ a c B _ _ _ hA hB ‹_› hl) fun v8 G8 Ho8 hle8 hp=>?_
         obtain ⟨x8,t8,ht8,hk8,hx8,rfl,rfl,rfl⟩:=hp
         refine Wl.ga 3 [12] ?_
         rotate_left
         refine Wc.gl 2 [] ?_
         refine Wl.k 0 rfl (cP _ _ a c B _ _ _ hA hB ‹_› hl) fun v8 G8 Ho8 hle8 hp=>?_
         obtain ⟨x8,t8,ht8,hk8,hx8,rfl,rfl,rfl⟩:=hp
         refine Wl.ga 3 [12] ?_
         rotate_left
         · refine Ar.mt ((x8,t8)) ?_
           exact ⟨(if_pos (by omega)).trans ht8,hk8⟩
         refine Ar.mt ((x8,t8)) ?_
         exact ⟨(if_neg (by omega)).trans (by rw [ht8,wi_00 ht8]),hk8⟩
       obtain ⟨hyu,hku⟩:=hk
       refine Wc.gl 5 [12] ?_
       refine Wl.k 0 rfl (c122X _ _ a c B _ _ hA hB ‹_› hl) fun v8 G8 Ho8 hle8 hp=>?_
       obtain ⟨x8,q8,t8,ht8,hk8,hx8,hq8,rfl,rfl,rfl⟩:=hp
       refine Wl.gl 8 [12,11,12] ?_
       refine Wl.lit (α:=Sl.Instr) 13 [⟨x5,x6,x7,y,x8⟩] rfl T.sl23 T.el91 rfl rfl rfl rfl rfl fun b4=>?_
       refine Wl.ap (α:=Sl.Instr) 9 T.sl23 T.el91 (Src.row 13 rfl) fun a1 c1 junk1 ho1=>?_
       refine Wl.ga 10 [11] ?_
       refine Ar.re 6 rfl (show _=Value.int .i64 ((i+1:Nat):Int) from rfl) ?_
       refine aH ((i+1,t8,r++[⟨x5,x6,x7,y,x8⟩],(a1,c1,junk1))) ?_ ?_
       · have hin:=qE ht5 ht6 ht7 hyu ht8
         refine ⟨by omega,hk8,ho1,by rw [List.length_append,hri];rfl,fun h=>?_,fun h=>?_⟩
         · rw [hcode hw,hNi,show N - (i+1)=N - i - 1 by omega,hq8 h]
           exact vB hin h
         rw [hcode hw,hNi,rS hin h]
       show N - (i+1)<N - i
       omega
     have hw:t.wr=true:=by cases hw:t.wr with | true=>rfl | false=>exact absurd (mZ.2 hw) hc1
     refine Ar.mt ((t,r,(o,d,j))) ?_
     exact ⟨hcw hw,hkt,hown,by omega,fun h=>by rw [hw] at h;cases h⟩
   have hz:N - i=0:=by omega
   rw [hz] at hcode
   refine Wc.gl 7 [] ?_
   refine dB 30 ?_
   refine Wl.ga 13 [0] ?_
   refine Ar.mt ((t,r,(o,d,j))) ?_
   refine ⟨?_,hkt,hown,by omega,hcode⟩
   cases hw:t.wr with
   | true=>exact hcw hw
   | false=>rw [hcode hw];rfl
 obtain ⟨hc2,hkt,hown,hrl,hcode⟩:=hk
 refine Wc.gl 3 [] ?_
 refine Wl.k 0 rfl (cP _ _ a c B _ _ _ hA hB ‹_› hl) fun v5 G5 Ho5 hle5 hp=>?_
 obtain ⟨x5,t5,ht5,hk5,hx5,rfl,rfl,rfl⟩:=hp
 refine Wl.gc 3 [] ?_
 obtain ⟨M,hM,hM2⟩:∃ M:Nat,x5=(M:Int)∧M≤255:=⟨x5.toNat,by omega,by omega⟩
 refine Wc.re 4 rfl (show _=Value.int .i64 (M:Int) by rw [hM]) ?_
 refine eY (ι:=RS×List Int×(Option Addr×Nat×List Value)) (fun (u,q,(o2,d2,j2))=>([(3,Go.Value.pointer (Option.some (Go.Addr.mk b2 0 Option.none))),(2,Go.Value.pointer (Option.some (Go.Addr.mk b1 0 Option.none)))],[(0,some b,rdR a B.length c u),(11,some b2,.cells #[.int .i64 x1,.int .i64 x2,.slice o r.length d,.slice o2 q.length d2] 26),(9,o.map (·.block),Row 91 r j),(8,o2.map (·.block),Row 3 q j2),(10,Option.some b1,Go.Obj.cells #[Go.Value.int Go.IntKind.i64 0,Go.Value.int Go.IntKind.i64 0,Go.Value.slice Option.none 0 0,Go.Value.slice Option.none 0 0] 26)])) (fun (u,q,(o2,d2,j2))=>(fZ B x2 M t5 []).2=u∧u.k≤B.length∧OwnA o2 d2 q j2∧(u.wr=false→fZ B x2 M t5 []=(q,u))) ?_ fun ⟨u,q,(o2,d2,j2)⟩=>fun (hk:(fZ B x2 M t5 []).2=u∧u.k≤B.length∧OwnA o2 d2 q j2∧(u.wr=false→fZ B x2 M t5 []=(q,u)))=>?_
 · refine Wc.gc 6 [] ?_
   refine Wc.loop (ι:=Nat×RS×List Int×(Option Addr×Nat×List Value)) (fun (i,u,q,(o2,d2,j2))=>([(8,.int .i64 (i:Int)),(4,.int .i64 (M:Int)),(0,.pointer (some ⟨b,0,none⟩)),(2,.pointer (some ⟨b1,0,none⟩)),(3,.pointer (some ⟨b2,0,none⟩))],[(0,some b,rdR a B.length c u),(10,some b1,.cells #[.int .i64 0,.int .i64 0,.slice none 0 0,.slice none 0 0] 26),(11,some b2,.cells #[.int .i64 x1,.int .i64 x2,.slice o r.length d,.slice o2 q.length d2] 26),(9,o.map (·.block),Row 91 r j),(8,o2.map (·.block),Row 3 q j2)])) (fun (i,u,q,(o2,d2,j2))=>i≤M∧u.k≤B.length∧OwnA o2 d2 q j2∧q.length=i∧fZ B x2 M t5 []=fZ B x2 (M - i) u q) (fun (i,u,q,(o2,d2,j2))=>M - i) ((0,t5,[],(none,0,[]))) (⟨Nat.zero_le _,hk5,OwnA.nil,rfl,rfl⟩) ⟨rfl,rfl,rfl,rfl,rfl,trivial⟩ ⟨rfl,rfl,rfl,rfl,rfl,trivial⟩ fun ⟨i,u,q,(o2,d2,j2)⟩=>fun hk=>?_
   obtain ⟨hi,hku,hob,hqi,houts⟩:=hk
   rcases Nat.lt_or_ge i M with hiM | hiM
   · refine Wc.gl 7 [] ?_
     refine lZ 87 ?_
     refine Wl.gc 13 [0] ?_
     refine Wc.i (fun hc1=>?_) fun hc1=>?_
     refine Wc.gc 4 [] ?_
     refine aN [8,9,11,10,0] [(11,10),(9,8),(8,8),(0,6)] T.mixed [[0],[1,11],[2],[3],[4,11],[5]] ?_
     refine Gm.o1 6 ?_
     refine Wl.k 0 rfl (cP _ _ a c B _ _ _ hA hB ‹_› hl) fun v6 G6 Ho6 hle6 hp=>?_
     obtain ⟨x6,t6,ht6,hk6,hx6,rfl,rfl,rfl⟩:=hp
     refine Wl.o1 7 ?_
     refine Wl.lit (α:=Int) 12 [(x6)] rfl T.sl24 T.el3 rfl rfl rfl rfl rfl fun b3=>?_
     refine Wl.o1 8 ?_
     refine Wl.ap (α:=Int) 8 T.sl24 T.el3 (Src.row 12 rfl) fun a1 c1 junk1 ho1=>?_
     refine aO ?_
     refine Gm.r [[9]] ?_
     refine Gm.o1 10 ?_
     refine aA 1 [11] ?_
     refine aZ ?_
     refine Ar.ga 7 [] ?_
     rotate_left
     refine Wc.ga 4 [] ?_
     rotate_left
     · refine Ar.re 8 rfl (show _=Value.int .i64 ((i+1:Nat):Int) from rfl) ?_
       refine aH ((i+1,t6,q++[x6],(a1,c1,junk1))) ?_ ?_
       · refine ⟨by omega,hk6,ho1,by rw [List.length_append,hqi];rfl,?_⟩
         rw [houts,show M - i=(M - (i+1))+1 by omega]
         exact aCK ht6
       show M - (i+1)<M - i
       omega
     have hw:u.wr=true:=by cases hw:u.wr with | true=>rfl | false=>exact absurd (mZ.2 hw) hc1
     refine Ar.mt ((u,q,(o2,d2,j2))) ?_
     exact ⟨by rw [houts,mY _ _ _ hw],hku,hob,fun h=>by rw [hw] at h;cases h⟩
   have hz:M - i=0:=by omega
   rw [hz] at houts
   refine Wc.gl 7 [] ?_
   refine dB 87 ?_
   refine Wl.ga 13 [0] ?_
   refine Ar.mt ((u,q,(o2,d2,j2))) ?_
   exact ⟨by rw [houts];rfl,hku,hob,fun _=>houts⟩
 obtain ⟨hou,hku,hob,houts⟩:=hk
 refine Wc.ga 7 [11,10] ?_
 refine Ar.freezeRow 9 rfl hown fun G8 hle8 hA8=>?_
 refine Ar.freezeRow 8 rfl hob fun G9 hle9 hA9=>?_
 refine aT (.inr rfl) (Ho:=Hp.only _ [0]) rfl (.agg 10 rfl rfl T.agg26) (aC _ _) ?_
 refine ⟨⟨x1,x2,r,q⟩,u,o,o2,d,d2,?_,hku,rfl,hA8.up hle9,hA9,?_,rfl⟩
 · obtain ⟨r',hr'⟩:∃ r',eO B x2 N t4 []=(r',t):=⟨_,by rw [←hc2]⟩
   obtain ⟨q',hq'⟩:∃ q',fZ B x2 M t5 []=(q',u):=⟨_,by rw [←hou]⟩
   rw [qF ht1 ht2 ((nx_n hB hk2).trans ht3) ((nx_l hB hk3 ht3 hkm).trans ht4) (show _=N by omega) hr' ht5 (show _=M by omega) hq']
 intro hw
 have hw5:t5.wr=false:=by
  cases h:t5.wr with
  | false=>rfl
  | true=>rw [mY _ _ _ h] at hou;rw [←hou,h] at hw;cases hw
 have hw4:=(aR ht5 hw5).2.2
 exact qF ht1 ht2 ((nx_n hB hk2).trans ht3) ((nx_l hB hk3 ht3 hkm).trans ht4) (show _=N by omega) (hcode hw4) ht5 (show _=M by omega) (houts hw)
theorem c125 (G:Imm) (b:Nat) (a:Option Addr) (c:Nat) (B:List U8) (s:RS) (hA:Arr G a B) (hB:Bytes B) (hk:s.k≤B.length) (hl:B.length≤1048576) :
 Does Tryz.prog 125 [.pointer (some ⟨b,0,none⟩)] G [(0,some b,rdP a B.length c s)] (fun v G' Ho=>∃ (p:PV) (t:RS) (ac ao:Option Addr) (cc co:Nat),cZ B s=(p,t)∧t.k≤B.length∧v=.agg #[.int .i64 p.ins,.int .i64 p.regs,.slice ac p.code.length cc,.slice ao p.outs.length co]∧Arr G' ac p.code∧Arr G' ao p.outs∧p.code.length≤65535∧p.outs.length≤255∧Ho=[(0,some b,rdP a B.length c t)]):=by
 refine D0 Tryz.func125 Tryz.ntmps125 fun w=>?_
 refine bF 9 (Row 91 ([]:List Sl.Instr) []) ?_
 refine bF 8 (Row 3 ([]:List Int) []) ?_
 refine Wc.gl 2 [] ?_
 refine Wl.alloc 10 rfl T.zero26 fun b1=>?_
 refine Wl.gc 2 [] ?_
 refine Wc.scope ?_
 refine Wc.gl 3 [] ?_
 refine Wl.k 0 rfl (kH _ _ a c B _ _ _ hA hB ‹_› hl) fun v1 G1 Ho1 hle1 hp=>?_
 obtain ⟨x1,t1,ht1,hk1,hx1,rfl,rfl⟩:=hp
 replace hA:=hA.up hle1
 refine Wl.p (Qy.build (cs:=[_,_,_,_]) T.st26 rfl rfl rfl) ?_
 refine Wl.alloc 11 rfl T.zero26 fun b2=>?_
 refine Wl.gl 8 [11,11] ?_
 refine Wl.k 0 rfl (kH _ _ a c B _ _ _ hA hB ‹_› hl) fun v2 G2 Ho2 hle2 hp=>?_
 obtain ⟨x2,t2,ht2,hk2,hx2,rfl,rfl⟩:=hp
 replace hA:=hA.up hle2
 refine Wl.gl 7 [11] ?_
 have hG1:uW G2 172 [] (fun x=>decide (x*256≤16384)):=⟨T.fn172,fun G' x hle h0 h1=>(c172 G' x ⟨h0,h1⟩).mono fun v G'' Ho _ h=>⟨h.1.trans (lW _),h.2⟩⟩
 refine Wl.k 0 rfl (aJA _ b a c B t2 172 _ _ hG1 hA hB hk2 hl) fun v3 G3 Ho3 hle3 hp=>?_
 obtain ⟨rfl,rfl,rfl⟩:=hp
 have hh3:=rQ (B:=B) (s:=t2) (g:=fun x=>decide (x*256≤16384)) hB hk2
 have hk3:=qC (B:=B) (s:=t2) (g:=fun x=>decide (x*256≤16384)) hk2
 obtain ⟨h,t3,e3⟩:∃ h t3,nx B t2 (fun x=>decide (x*256≤16384))=(h,t3):=⟨_,_,rfl⟩
 rw [e3] at hh3 hk3 ⊢
 dsimp only at hh3 hk3 ⊢
 refine Wl.alloc 12 rfl T.zero3 fun b3=>?_
 refine Wl.gl 6 [12] ?_
 refine Wl.p (Qy.makeFunc rfl rfl) ?_
 refine Wl.freeze 12 rfl fun G4 hle4 hb4=>?_
 replace hA:=hA.up hle4
 have hG2:uW G4 173 [.pointer (some ⟨b3,0,none⟩)] (fun x=>decide (h*256+x≤16384)):=⟨T.fn173,fun G' x hle h0 h1=>(c173 G' h x b3 _ _ _ (hle _ _ hb4) rfl hh3 ⟨h0,h1⟩).mono fun v G'' Ho _ q=>⟨q.1.trans (lW _),q.2⟩⟩
 refine Wl.k 0 rfl (aJA _ b a c B t3 173 _ _ hG2 hA hB hk3 hl) fun v5 G5 Ho5 hle5 hp=>?_
 obtain ⟨rfl,rfl,rfl⟩:=hp
 have hh4:=rQ (B:=B) (s:=t3) (g:=fun x=>decide (h*256+x≤16384)) hB hk3
 have hk4:=qC (B:=B) (s:=t3) (g:=fun x=>decide (h*256+x≤16384)) hk3
 obtain ⟨l,t4,e4⟩:∃ l t4,nx B t3 (fun x=>decide (h*256+x≤16384))=(l,t4):=⟨_,_,rfl⟩
 rw [e4] at hh4 hk4 ⊢
 dsimp only at hh4 hk4 ⊢
 obtain ⟨N,hN,hN2⟩:∃ N:Nat,h*256+l=(N:Int)∧N≤65535:=⟨(h*256+l).toNat,by omega,by omega⟩
 refine Wl.gc 6 [] ?_
 refine pK (ι:=Imm×RS×List Sl.Instr×(Option Addr×Nat×List Value)) (fun (Gx,t,r,(o,d,j))=>([(0,.pointer (some ⟨b,0,none⟩)),(2,.pointer (some ⟨b1,0,none⟩)),(3,.pointer (some ⟨b2,0,none⟩))],[(0,some b,rdP a B.length c t),(10,some b1,.cells #[.int .i64 0,.int .i64 0,.slice none 0 0,.slice none 0 0] 26),(11,some b2,.cells #[.int .i64 x1,.int .i64 x2,.slice o r.length d,.slice none 0 0] 26),(9,o.map (·.block),Row 91 r j),(8,none,Row 3 ([]:List Int) [])])) (fun (Gx,t,r,(o,d,j))=>Gx) (fun (Gx,t,r,(o,d,j))=>G5.le Gx∧eO B x2 N t4 []=(r,t)∧t.k≤B.length∧OwnA o d r j∧r.length≤N) ?_ fun ⟨Gx,t,r,(o,d,j)⟩=>fun (hk:G5.le Gx∧eO B x2 N t4 []=(r,t)∧t.k≤B.length∧OwnA o d r j∧r.length≤N)=>?_
 · refine Wc.gl 2 [] ?_
   refine Wl.p (aL T.one3 rfl (eV hb4 rfl)) ?_
   refine Wl.p (Qy.shl rfl rfl (by omega)) ?_
   refine aA 1 [] ?_
   refine Wl.p (lG rfl rfl) ?_
   refine Wl.gc 4 [] ?_
   refine Wc.re 23 rfl (show _=Value.int .i64 (N:Int) by rw [shl8 (by omega),uX hh3 hh4,hN]) ?_
   refine cS (ι:=Nat×Imm×RS×List Sl.Instr×(Option Addr×Nat×List Value)) (fun (i,Gx,t,r,(o,d,j))=>([(24,.int .i64 (i:Int)),(23,.int .i64 (N:Int)),(0,.pointer (some ⟨b,0,none⟩)),(2,.pointer (some ⟨b1,0,none⟩)),(3,.pointer (some ⟨b2,0,none⟩))],[(0,some b,rdP a B.length c t),(10,some b1,.cells #[.int .i64 0,.int .i64 0,.slice none 0 0,.slice none 0 0] 26),(11,some b2,.cells #[.int .i64 x1,.int .i64 x2,.slice o r.length d,.slice none 0 0] 26),(9,o.map (·.block),Row 91 r j),(8,none,Row 3 ([]:List Int) [])])) (fun (i,Gx,t,r,(o,d,j))=>Gx) (fun (i,Gx,t,r,(o,d,j))=>i≤N∧G5.le Gx∧eO B x2 N t4 []=eO B x2 (N - i) t r∧t.k≤B.length∧OwnA o d r j∧r.length=i) (fun (i,Gx,t,r,(o,d,j))=>N - i) ((0,G5,t4,[],(none,0,[]))) (⟨Nat.zero_le _,Imm.le_refl _,rfl,hk4,OwnA.nil,rfl⟩) rfl ⟨rfl,rfl,rfl,rfl,rfl,trivial⟩ ⟨rfl,rfl,rfl,rfl,rfl,trivial⟩ fun ⟨i,Gx,t,r,(o,d,j)⟩=>fun hk=>?_
   obtain ⟨hi,hgx,hcode,hkt,hown,hri⟩:=hk
   replace hA:=hA.up hgx
   rcases Nat.lt_or_ge i N with hiN | hiN
   · refine Wc.gc 11 [1] ?_
     refine pK (ι:=Imm×Nat×(Int×RS)×(Int×RS)×(Int×RS)) (fun (Gy,b4,(y6,u6),(y7,u7),(y8,u8))=>([(0,.pointer (some ⟨b,0,none⟩)),(2,.pointer (some ⟨b1,0,none⟩)),(3,.pointer (some ⟨b2,0,none⟩)),(24,.int .i64 (i:Int)),(23,.int .i64 (N:Int)),(6,.pointer (some ⟨b4,0,none⟩))],[(0,some b,rdP a B.length c u8),(10,some b1,.cells #[.int .i64 0,.int .i64 0,.slice none 0 0,.slice none 0 0] 26),(11,some b2,.cells #[.int .i64 x1,.int .i64 x2,.slice o r.length d,.slice none 0 0] 26),(9,o.map (·.block),Row 91 r j),(8,none,Row 3 ([]:List Int) []),(12,some b4,.cells #[.int .i64 y6,.int .i64 y7,.int .i64 y8,.int .i64 0,.int .i64 0] 91)])) (fun (Gy,b4,(y6,u6),(y7,u7),(y8,u8))=>Gy) (fun (Gy,b4,(y6,u6),(y7,u7),(y8,u8))=>Gx.le Gy∧wi B t 1 8=(y6,u6)∧wi B u6 0 (x2 - 1)=(y7,u7)∧wi B u7 0 (x2 - 1)=(y8,u8)∧u8.k≤B.length) ?_ fun ⟨Gy,b4,(y6,u6),(y7,u7),(y8,u8)⟩=>fun (hk:Gx.le Gy∧wi B t 1 8=(y6,u6)∧wi B u6 0 (x2 - 1)=(y7,u7)∧wi B u7 0 (x2 - 1)=(y8,u8)∧u8.k≤B.length)=>?_
     · refine aN [8,9,11,10,0] [(0,11),(0,6),(0,1)] T.mixed [[0],[2],[3],[4,11],[5],[7],[8],[9,11],[10]] ?_
       refine Gm.o2 1 13 ?_ ?_
       refine Wl.k 0 rfl (kH _ _ a c B _ _ _ hA hB ‹_› hl) fun v6 G6 Ho6 hle6 hp=>?_
       obtain ⟨x6,t6,ht6,hk6,hx6,rfl,rfl⟩:=hp
       replace hA:=hA.up hle6
       refine aO ?_
       refine Gm.o2 6 13 ?_ ?_
       refine Wl.k 0 rfl (kH _ _ a c B _ _ _ hA hB ‹_› hl) fun v7 G7 Ho7 hle7 hp=>?_
       obtain ⟨x7,t7,ht7,hk7,hx7,rfl,rfl⟩:=hp
       replace hA:=hA.up hle7
       refine aO ?_
       refine Gm.o2 11 13 ?_ ?_
       refine Wl.k 0 rfl (kH _ _ a c B _ _ _ hA hB ‹_› hl) fun v8 G8 Ho8 hle8 hp=>?_
       obtain ⟨x8,t8,ht8,hk8,hx8,rfl,rfl⟩:=hp
       replace hA:=hA.up hle8
       refine aO ?_
       refine Gm.u 12 [] rfl (Qy.build (cs:=[_,_,_,_,_]) T.st91 rfl rfl rfl) ?_
       refine Gm.o1 13 ?_
       refine Wl.alloc 12 rfl T.zero91 fun b4=>?_
       refine Wl.o1 14 ?_
       refine aA 1 [12] ?_
       refine aZ ?_
       rotate_left
       refine Wl.alloc 12 rfl T.zero91 fun b4=>?_
       refine Wl.o1 11 ?_
       refine Wl.k 0 rfl (kH _ _ a c B _ _ _ hA hB ‹_› hl) fun v8 G8 Ho8 hle8 hp=>?_
       obtain ⟨x8,t8,ht8,hk8,hx8,rfl,rfl⟩:=hp
       replace hA:=hA.up hle8
       refine aO ?_
       refine Gm.u 12 [] rfl (Qy.build (cs:=[_,_,_,_,_]) T.st91 rfl rfl rfl) ?_
       refine Gm.o1 14 ?_
       refine aA 1 [12] ?_
       refine aZ ?_
       rotate_left
       refine Wl.alloc 12 rfl T.zero91 fun b4=>?_
       refine Wl.o1 6 ?_
       refine Wl.k 0 rfl (kH _ _ a c B _ _ _ hA hB ‹_› hl) fun v7 G7 Ho7 hle7 hp=>?_
       obtain ⟨x7,t7,ht7,hk7,hx7,rfl,rfl⟩:=hp
       replace hA:=hA.up hle7
       refine Wl.o1 11 ?_
       refine Wl.k 0 rfl (kH _ _ a c B _ _ _ hA hB ‹_› hl) fun v8 G8 Ho8 hle8 hp=>?_
       obtain ⟨x8,t8,ht8,hk8,hx8,rfl,rfl⟩:=hp
       replace hA:=hA.up hle8
       refine aO ?_
       refine Gm.u 12 [] rfl (Qy.build (cs:=[_,_,_,_,_]) T.st91 rfl rfl rfl) ?_
       refine Gm.o1 14 ?_
       refine aA 1 [12] ?_
       refine aZ ?_
       rotate_left
       refine Wl.alloc 12 rfl T.zero91 fun b4=>?_
       refine Wl.o1 1 ?_
       refine Wl.k 0 rfl (kH _ _ a c B _ _ _ hA hB ‹_› hl) fun v6 G6 Ho6 hle6 hp=>?_
       obtain ⟨x6,t6,ht6,hk6,hx6,rfl,rfl⟩:=hp
       replace hA:=hA.up hle6
       refine Wl.o1 6 ?_
       refine Wl.k 0 rfl (kH _ _ a c B _ _ _ hA hB ‹_› hl) fun v7 G7 Ho7 hle7 hp=>?_
       obtain ⟨x7,t7,ht7,hk7,hx7,rfl,rfl⟩:=hp
       replace hA:=hA.up hle7
       refine Wl.o1 11 ?_
       refine Wl.k 0 rfl (kH _ _ a c B _ _ _ hA hB ‹_› hl) fun v8 G8 Ho8 hle8 hp=>?_
       obtain ⟨x8,t8,ht8,hk8,hx8,rfl,rfl⟩:=hp
       replace hA:=hA.up hle8
       refine aO ?_
       refine Gm.u 12 [] rfl (Qy.build (cs:=[_,_,_,_,_]) T.st91 rfl rfl rfl) ?_
       refine Gm.o1 14 ?_
       refine aA 1 [12] ?_
       refine aZ ?_
       rotate_left
       · refine Ar.mt ((G8,b4,(x6,t6),(x7,t7),(x8,t8))) ?_
         exact ⟨Imm.le_trans hle6 (Imm.le_trans hle7 hle8),ht6,ht7,ht8,hk8⟩
       · refine Ar.mt ((G8,b4,(x6,t6),(x7,t7),(x8,t8))) ?_
         exact ⟨Imm.le_trans hle6 (Imm.le_trans hle7 hle8),ht6,ht7,ht8,hk8⟩
       · refine Ar.mt ((G8,b4,(x6,t6),(x7,t7),(x8,t8))) ?_
         exact ⟨Imm.le_trans hle6 (Imm.le_trans hle7 hle8),ht6,ht7,ht8,hk8⟩
       refine Ar.mt ((G8,b4,(x6,t6),(x7,t7),(x8,t8))) ?_
       exact ⟨Imm.le_trans hle6 (Imm.le_trans hle7 hle8),ht6,ht7,ht8,hk8⟩
     obtain ⟨hgy,hu6,hu7,hu8,hk8⟩:=hk
     replace hA:=hA.up hgy
     have hNi:N - i=(N - i - 1)+1:=by omega
     refine Wc.gl 7 [12] ?_
     apply aG 4 42 46 rfl
     intro hg1
     refine aA 7 [12] ?_
     exact Wl.b 4 0
     intro hg1
     refine aA 4 [] ?_
     exact Wl.b 4 0
     refine Wl.gc 2 [] ?_
     refine Wc.i (fun hc1=>?_) fun hc1=>?_
     refine Wc.gl 5 [11] ?_
     refine Wl.k 0 rfl (kH _ _ a c B _ _ _ hA hB ‹_› hl) fun v6 G6 Ho6 hle6 hp=>?_
     obtain ⟨x6,t6,ht6,hk6,hx6,rfl,rfl⟩:=hp
     replace hA:=hA.up hle6
     refine Wl.gl 9 [12,12] ?_
     refine Wl.k 0 rfl (c174 _ _ a c B _ _ hA hB ‹_› hl) fun v7 G7 Ho7 hle7 hp=>?_
     obtain ⟨x7,t7,ht7,hk7,rfl,rfl⟩:=hp
     replace hA:=hA.up hle7
     refine Wl.gc 13 [12,0] ?_
     refine lE rfl (fun hc2=>?_) fun hc2=>?_
     refine Wc.ga 6 [] ?_
     rotate_left
     refine Wc.gl 6 [11,12] ?_
     refine Wl.lit (α:=Sl.Instr) 13 [⟨y6,y7,y8,x6,x7⟩] rfl T.sl23 T.el91 rfl rfl rfl rfl rfl fun b5=>?_
     refine Wl.ap (α:=Sl.Instr) 9 T.sl23 T.el91 (Src.row 13 rfl) fun a1 c1 junk1 ho1=>?_
     refine Wl.ga 9 [11] ?_
     rotate_left
     refine Wc.gl 2 [] ?_
     refine Wl.k 0 rfl (kH _ _ a c B _ _ _ hA hB ‹_› hl) fun v6 G6 Ho6 hle6 hp=>?_
     obtain ⟨x6,t6,ht6,hk6,hx6,rfl,rfl⟩:=hp
     replace hA:=hA.up hle6
     refine Wl.gl 7 [12] ?_
     refine Wl.k 0 rfl (c174 _ _ a c B _ _ hA hB ‹_› hl) fun v7 G7 Ho7 hle7 hp=>?_
     obtain ⟨x7,t7,ht7,hk7,rfl,rfl⟩:=hp
     replace hA:=hA.up hle7
     refine Wl.gc 13 [12,0] ?_
     refine lE rfl (fun hc2=>?_) fun hc2=>?_
     refine Wc.ga 6 [] ?_
     rotate_left
     refine Wc.gl 6 [11,12] ?_
     refine Wl.lit (α:=Sl.Instr) 13 [⟨y6,y7,y8,0,x7⟩] rfl T.sl23 T.el91 rfl rfl rfl rfl rfl fun b5=>?_
     refine Wl.ap (α:=Sl.Instr) 9 T.sl23 T.el91 (Src.row 13 rfl) fun a1 c1 junk1 ho1=>?_
     refine Wl.ga 9 [11] ?_
     rotate_left
     · refine Ar.mt ((G7,t7,r,(o,d,j))) ?_
       refine ⟨Imm.le_trans hgx (Imm.le_trans hgy (Imm.le_trans hle6 hle7)),?_,hk7,hown,by omega⟩
       rw [hcode,hNi]
       exact rS (qE hu6 hu7 hu8 ((if_pos ‹_›).trans ht6) ht7) ‹_›
     · refine Ar.re 24 rfl (show _=Value.int .i64 ((i+1:Nat):Int) from rfl) ?_
       refine aH ((i+1,G7,t7,r++[⟨y6,y7,y8,x6,x7⟩],(a1,c1,junk1))) ?_ ?_
       · refine ⟨by omega,Imm.le_trans hgx (Imm.le_trans hgy (Imm.le_trans hle6 hle7)),?_,hk7,ho1,by rw [List.length_append,hri];rfl⟩
         rw [hcode,hNi,show N - (i+1)=N - i - 1 by omega]
         exact vB (qE hu6 hu7 hu8 ((if_pos ‹_›).trans ht6) ht7) ‹_›
       show N - (i+1)<N - i
       omega
     · refine Ar.mt ((G7,t7,r,(o,d,j))) ?_
       refine ⟨Imm.le_trans hgx (Imm.le_trans hgy (Imm.le_trans hle6 hle7)),?_,hk7,hown,by omega⟩
       rw [hcode,hNi]
       exact rS (qE hu6 hu7 hu8 ((if_neg ‹_›).trans (by rw [ht6])) ht7) ‹_›
     refine Ar.re 24 rfl (show _=Value.int .i64 ((i+1:Nat):Int) from rfl) ?_
     refine aH ((i+1,G7,t7,r++[⟨y6,y7,y8,0,x7⟩],(a1,c1,junk1))) ?_ ?_
     · refine ⟨by omega,Imm.le_trans hgx (Imm.le_trans hgy (Imm.le_trans hle6 hle7)),?_,hk7,ho1,by rw [List.length_append,hri];rfl⟩
       rw [hcode,hNi,show N - (i+1)=N - i - 1 by omega]
       exact vB (qE hu6 hu7 hu8 ((if_neg ‹_›).trans (by rw [ht6])) ht7) ‹_›
     show N - (i+1)<N - i
     omega
   refine Wc.ga 11 [0] ?_
   have hz:N - i=0:=by omega
   rw [hz] at hcode
   refine Ar.mt ((Gx,t,r,(o,d,j))) ?_
   exact ⟨hgx,hcode,hkt,hown,by omega⟩
 obtain ⟨hgx,hcode,hkt,hown,hrl⟩:=hk
 replace hA:=hA.up hgx
 refine Wc.gl 4 [] ?_
 refine Wl.k 0 rfl (kH _ _ a c B _ _ _ hA hB ‹_› hl) fun v6 G6 Ho6 hle6 hp=>?_
 obtain ⟨x6,t6,ht6,hk6,hx6,rfl,rfl⟩:=hp
 replace hA:=hA.up hle6
 refine Wl.gc 4 [] ?_
 obtain ⟨M,hM,hM2⟩:∃ M:Nat,x6=(M:Int)∧M≤255:=⟨x6.toNat,by omega,by omega⟩
 refine Wc.re 72 rfl (show _=Value.int .i64 (M:Int) by rw [hM]) ?_
 refine cS (ι:=Nat×Imm×RS×List Int×(Option Addr×Nat×List Value)) (fun (i,Gy,u,q,(o2,d2,j2))=>([(73,.int .i64 (i:Int)),(72,.int .i64 (M:Int)),(0,.pointer (some ⟨b,0,none⟩)),(2,.pointer (some ⟨b1,0,none⟩)),(3,.pointer (some ⟨b2,0,none⟩))],[(0,some b,rdP a B.length c u),(10,some b1,.cells #[.int .i64 0,.int .i64 0,.slice none 0 0,.slice none 0 0] 26),(11,some b2,.cells #[.int .i64 x1,.int .i64 x2,.slice o r.length d,.slice o2 q.length d2] 26),(9,o.map (·.block),Row 91 r j),(8,o2.map (·.block),Row 3 q j2)])) (fun (i,Gy,u,q,(o2,d2,j2))=>Gy) (fun (i,Gy,u,q,(o2,d2,j2))=>i≤M∧G6.le Gy∧fZ B x2 M t6 []=fZ B x2 (M - i) u q∧u.k≤B.length∧OwnA o2 d2 q j2∧q.length=i) (fun (i,Gy,u,q,(o2,d2,j2))=>M - i) ((0,G6,t6,[],(none,0,[]))) (⟨Nat.zero_le _,Imm.le_refl _,rfl,hk6,OwnA.nil,rfl⟩) rfl ⟨rfl,rfl,rfl,rfl,rfl,trivial⟩ ⟨rfl,rfl,rfl,rfl,rfl,trivial⟩ fun ⟨i,Gy,u,q,(o2,d2,j2)⟩=>fun hk=>?_
 obtain ⟨hi,hgy,houts,hku,hob,hqi⟩:=hk
 replace hA:=hA.up hgy
 rcases Nat.lt_or_ge i M with hiM | hiM
 · refine Wc.gc 11 [1] ?_
   refine aN [8,9,11,10,0] [(11,10),(9,8),(8,8),(0,6)] T.mixed [[0],[1,11],[2],[3],[4,11],[5]] ?_
   refine Gm.o1 6 ?_
   refine Wl.k 0 rfl (kH _ _ a c B _ _ _ hA hB ‹_› hl) fun v7 G7 Ho7 hle7 hp=>?_
   obtain ⟨x7,t7,ht7,hk7,hx7,rfl,rfl⟩:=hp
   replace hA:=hA.up hle7
   refine Wl.o1 7 ?_
   refine Wl.lit (α:=Int) 12 [(x7)] rfl T.sl24 T.el3 rfl rfl rfl rfl rfl fun b4=>?_
   refine Wl.o1 8 ?_
   refine Wl.ap (α:=Int) 8 T.sl24 T.el3 (Src.row 12 rfl) fun a1 c1 junk1 ho1=>?_
   refine aO ?_
   refine Gm.r [[9]] ?_
   refine Gm.o1 10 ?_
   refine aA 1 [11] ?_
   refine aZ ?_
   refine Ar.ga 6 [] ?_
   refine Ar.re 73 rfl (show _=Value.int .i64 ((i+1:Nat):Int) from rfl) ?_
   refine aH ((i+1,G7,t7,q++[x7],(a1,c1,junk1))) ?_ ?_
   · refine ⟨by omega,Imm.le_trans hgy hle7,?_,hk7,ho1,by rw [List.length_append,hqi];rfl⟩
     rw [houts,show M - i=(M - (i+1))+1 by omega]
     exact aCK ht7
   show M - (i+1)<M - i
   omega
 refine Wc.ga 19 [0,11,10] ?_
 refine iW ?_
 have hz:M - i=0:=by omega
 rw [hz] at houts
 refine Ar.freezeRow 9 rfl hown fun G8 hle8 hA8=>?_
 refine Ar.freezeRow 8 rfl hob fun G9 hle9 hA9=>?_
 refine aT (.inr rfl) (Ho:=Hp.only _ [0]) rfl (.agg 10 rfl rfl T.agg26) (aC _ _) ?_
 refine ⟨⟨x1,x2,r,q⟩,u,o,o2,d,d2,?_,hku,rfl,hA8.up hle9,hA9,Nat.le_trans hrl hN2,by show q.length≤255;omega,rfl⟩
 unfold cZ
 rw [ht1]
 dsimp only
 rw [ht2]
 dsimp only
 rw [e3]
 dsimp only
 rw [e4]
 dsimp only
 rw [show (h*256+l).toNat=N by omega,hcode]
 dsimp only
 rw [ht6]
 dsimp only
 rw [show x6.toNat=M by omega,houts]
 rfl
theorem aGQ (B:List U8) (k:Nat):0≤eU B k∧eU B k<65521:=by
 cases k with
 | zero=>exact ⟨Int.le_refl _,(by decide:(0:Int)<65521)⟩
 | succ k =>
   unfold eU
   omega
theorem vC {j v:Int} (hj:0≤j∧j≤1048577) (hv:0≤v∧v≤255):0≤j*v∧j*v≤267387135:=by
 refine ⟨Int.mul_nonneg hj.1 hv.1,?_⟩
 exact Int.le_trans (Int.mul_le_mul hj.2 hv.2 hv.1 (by omega)) (by omega)
theorem c65 (G:Imm) (a:Option Addr) (c:Nat) (B:List U8) (hA:Arr G a B) (hB:Bytes B) (hl:B.length≤1048576) :
 Does Tryz.prog 65 [.slice a B.length c] G [] (fun v G' Ho=>v=.int .i64 (eU B B.length)∧G'=G∧Ho=[]):=by
 refine D0 Tryz.func65 Tryz.ntmps65 fun w=>?_
 refine Wc.gc 17 [] ?_
 refine Wc.lp (ι:=Nat) (fun j=>([(4,.int .i64 (j:Int)),(3,.int .i64 (eU B j)),(0,.slice a B.length c),(2,Go.Value.int Go.IntKind.i64 0)],[])) (fun j=>j≤B.length) (fun j=>B.length - j) (0) (Nat.zero_le _) fun j=>fun (hk:j≤B.length)=>?_
 rcases Nat.lt_or_ge j B.length with hjl | hjl
 · have h8:=hB j hjl
   have ew:IntKind.i64.wrap (B[((j:Nat):Int).toNat]?.getD default).v=(B[j]?.getD default).v:=w64 (by show _≤(B[j]?.getD default).v∧(B[j]?.getD default).v≤_;omega)
   have hm:=vC (j:=(j:Int)+1) (by omega) h8
   rw [←ew] at hm
   have hc:=aGQ B j
   refine Wc.gl 20 [1] ?_
   refine Wl.at (α:=U8) T.sl38 ?_
   refine bM 0 T.one5 ?_
   refine Wl.p (bE rfl T.u3 rfl) ?_
   refine Wl.p (Qy.mul rfl rfl (by omega)) ?_
   refine aA 1 [] ?_
   refine Wl.p (cO rfl rfl (by omega)) ?_
   refine Wl.ga 9 [] ?_
   refine Ar.re 3 rfl (show _=Value.int .i64 (eU B (j+1)) by rw [ew];rfl) ?_
   refine Ar.re 4 rfl (show _=Value.int .i64 ((j+1:Nat):Int) from rfl) ?_
   refine aH (j+1) ?_ ?_
   · exact hjl
   show B.length - (j+1)<B.length - j
   omega
 have hje:j=B.length:=by omega
 subst hje
 refine Wc.ga 22 [0] ?_
 refine Ar.e1 ?_
 exact ⟨rfl,rfl,rfl⟩
theorem c126 (G:Imm) (a:Option Addr) (c:Nat) (B:List U8) (hA:Arr G a B) (hB:Bytes B) (hl:B.length≤65520) :
 Does Tryz.prog 126 [.slice a B.length c] G [] (fun v G' Ho=>v=.int .i64 (eU B B.length)∧G'=G∧Ho=[]):=by
 refine D0 Tryz.func126 Tryz.ntmps126 fun w=>?_
 refine Wc.gc 19 [] ?_
 refine Wc.lp (ι:=Nat) (fun j=>([(8,.int .i64 (j:Int)),(3,.int .i64 (eU B j)),(7,Go.Value.int Go.IntKind.i64 (↑(List.length B):Int)),(6,Go.Value.slice a (List.length B) c),(2,Go.Value.int Go.IntKind.i64 0)],[])) (fun j=>j≤B.length) (fun j=>B.length - j) (0) (Nat.zero_le _) fun j=>fun (hk:j≤B.length)=>?_
 rcases Nat.lt_or_ge j B.length with hjl | hjl
 · have h8:=hB j hjl
   have ew:IntKind.i64.wrap (B[((j:Nat):Int).toNat]?.getD default).v=(B[j]?.getD default).v:=w64 (by show _≤(B[j]?.getD default).v∧(B[j]?.getD default).v≤_;omega)
   have et:((j:Int)+1).tmod 65521=(j:Int)+1:=by rw [Int.tmod_eq_emod_of_nonneg (by omega)];omega
   have hm2:=vC (j:=(j:Int)+1) (by omega) h8
   have hm:=hm2
   rw [←ew,←et] at hm
   have hc:=aGQ B j
   refine Wc.gl 14 [1] ?_
   refine Wl.at (α:=U8) T.sl38 ?_
   refine bM 0 T.one5 ?_
   refine Wl.gl 8 [] ?_
   refine Wl.p (cO rfl rfl (by omega)) ?_
   refine aA 1 [] ?_
   refine Wl.p (bE rfl T.u3 rfl) ?_
   refine Wl.p (eX rfl rfl) ?_
   refine Wl.p (oZ rfl rfl) ?_
   refine Wl.p (Qy.rem rfl rfl (by omega)) ?_
   refine Wl.ga 8 [] ?_
   refine Ar.re 3 rfl (show _=Value.int .i64 (eU B (j+1)) by rw [ew,Int.emod_eq_of_lt (a:=(j:Int)+1) (by omega) (by omega),w64 (x:=((j:Int)+1)*(B[j]?.getD default).v) (by omega),w64 (by omega),Int.tmod_eq_emod_of_nonneg (by omega)];rfl) ?_
   refine Ar.re 8 rfl (show _=Value.int .i64 ((j+1:Nat):Int) from rfl) ?_
   refine aH (j+1) ?_ ?_
   · exact hjl
   show B.length - (j+1)<B.length - j
   omega
 have hje:j=B.length:=by omega
 subst hje
 refine Wc.ga 19 [0] ?_
 refine Ar.e1 ?_
 exact ⟨rfl,rfl,rfl⟩
end Go.Proofs.YtfdcckcadfhpeaaGreatDoor
namespace Go.Sl.Ev
open Go Go.Sl
def s4 {β:Sort _} (a b c d:β) (n:Nat):β:=Nat.rec (motive:=fun _=>β) a (fun n _=>Nat.rec (motive:=fun _=>β) b (fun n _=>Nat.rec (motive:=fun _=>β) c (fun _ _=>d) n) n) n
theorem s4_0 {β:Sort _} (a b c d:β):s4 a b c d 0=a:=rfl
theorem s4_1 {β:Sort _} (a b c d:β):s4 a b c d 1=b:=rfl
theorem s4_2 {β:Sort _} (a b c d:β):s4 a b c d 2=c:=rfl
theorem s4_3 {β:Sort _} (a b c d:β):s4 a b c d 3=d:=rfl
inductive Tr (α:Type) where
 | e
 | n (x:Option α) (a b c d:Tr α)
def Tr.get {α:Type} (t:Tr α):Nat→Option α:=
 Tr.rec (motive:=fun _=>Nat→Option α) (fun _=>none) (fun x _ _ _ _ ga gb gc gd k=>Nat.rec (motive:=fun _=>Option α) x (fun m _=>s4 ga gb gc gd (Nat.mod m 4) (Nat.div m 4)) k) t
def Tr.put {α:Type} (v:Option α) (ih:Tr α→Nat→Tr α) (k:Nat) (x:Option α) (a b c d:Tr α):Tr α:=
 Nat.rec (motive:=fun _=>Tr α) (.n v a b c d) (fun m _=>s4 (.n x (ih a (Nat.div m 4)) b c d) (.n x a (ih b (Nat.div m 4)) c d) (.n x a b (ih c (Nat.div m 4)) d) (.n x a b c (ih d (Nat.div m 4))) (Nat.mod m 4)) k
def Tr.set {α:Type} (v:Option α) (f:Nat):Tr α→Nat→Tr α:=
 Nat.rec (motive:=fun _=>Tr α→Nat→Tr α) (fun t _=>t) (fun _ ih t k=>Tr.rec (motive:=fun _=>Tr α) (Tr.put v ih k none .e .e .e .e) (fun x a b c d _ _ _ _=>Tr.put v ih k x a b c d) t) f
theorem vD {α:Type} (a b c d:Tr α) (x:Option α) (m:Nat):Tr.get (.n x a b c d) (m+1)=s4 a.get b.get c.get d.get (Nat.mod m 4) (Nat.div m 4):=rfl
theorem aCL {α:Type} (v:Option α) (f k:Nat):Tr.set v (f+1) (.e:Tr α) k=Tr.set v (f+1) (.n none .e .e .e .e) k:=rfl
theorem aNJ {α:Type} (v:Option α) (f:Nat) (a b c d:Tr α) (x:Option α):Tr.set v (f+1) (.n x a b c d) 0=.n v a b c d:=rfl
theorem vE {α:Type} (v:Option α) (f m:Nat) (a b c d:Tr α) (x:Option α):Tr.set v (f+1) (.n x a b c d) (m+1) =
 s4 (.n x (Tr.set v f a (Nat.div m 4)) b c d) (.n x a (Tr.set v f b (Nat.div m 4)) c d) (.n x a b (Tr.set v f c (Nat.div m 4)) d) (.n x a b c (Tr.set v f d (Nat.div m 4))) (Nat.mod m 4):=rfl
theorem aEL (m:Nat):Nat.mod m 4=0∨Nat.mod m 4=1∨Nat.mod m 4=2∨Nat.mod m 4=3:=by
 have h:∀ k,k<4→k=0∨k=1∨k=2∨k=3:=by omega
 exact h _ (Nat.mod_lt m (by decide))
theorem same4 {i m r:Nat} (h1:Nat.mod i 4=r) (h2:Nat.mod m 4=r):(Nat.div i 4=Nat.div m 4)=(i+1=m+1):=by
 have e1:i % 4=r:=h1
 have e2:m % 4=r:=h2
 apply propext
 show (i / 4=m / 4)↔_
 constructor <;> intro h <;> omega
theorem diff4 {i m r s:Nat} (h1:Nat.mod i 4=r) (h2:Nat.mod m 4=s) (h:r≠s):¬(i+1=m+1):=fun e=>by
 have:i=m:=by omega
 subst this
 exact h (h1.symm.trans h2)
theorem bB {α:Type} (v:Option α):∀ (f:Nat) (t:Tr α) (k j:Nat),k<f→(Tr.set v f t k).get j=if j=k then v else t.get j:=by
 intro f
 induction f with
 | zero=>intro t k j h;omega
 | succ f ih =>
   have key:∀ (a b c d:Tr α) (x:Option α) (k j:Nat),k<f+1→(Tr.set v (f+1) (.n x a b c d) k).get j=if j=k then v else (Tr.n x a b c d).get j:=by
    intro a b c d x k j h
    cases k with
    | zero =>
      rw [aNJ]
      cases j with
      | zero=>rfl
      | succ i=>rw [if_neg (by omega)];rfl
    | succ m =>
      rw [vE]
      have hm:Nat.div m 4<f:=by show m / 4<f;omega
      cases j with
      | zero =>
        rw [if_neg (by omega)]
        rcases aEL m with h1 | h1 | h1 | h1 <;> rw [h1] <;> rfl
      | succ i =>
        rcases aEL m with h1 | h1 | h1 | h1 <;> rcases aEL i with h2 | h2 | h2 | h2 <;> simp only [h1,s4_0,s4_1,s4_2,s4_3,vD,h2] <;>
         first
         | (rw [if_neg (diff4 h2 h1 (by decide))])
         | (simp only [ih _ _ _ hm,same4 h2 h1])
   intro t k j h
   cases t with
   | e =>
     rw [aCL,key _ _ _ _ _ _ _ h]
     congr 1
     cases j with
     | zero=>rfl
     | succ i=>rw [vD];rcases aEL i with h2 | h2 | h2 | h2 <;> rw [h2] <;> rfl
   | n x a b c d=>exact key a b c d x k j h
inductive CV where
 | int (k:IntKind) (n:Int)
 | bool (b:Bool)
 | str (s:CV)
 | ptr (t o:Nat)
 | nilp
 | sl (t o n sz:Nat) (c:Option Nat)
 | nils
 | sle
 | mp (t:Nat)
 | nilm
 | fn (f:Nat) (fst cap:CV)
 | nilf
 | yl (t:Nat)
 | agg (l:CV)
 | tup (l:CV)
 | nil
 | cons (a b:CV)
abbrev Pl:=Nat→Nat×Nat
def D (ρ:Pl) (x:CV):(Value→Prop)×(List Value→Prop):=
 CV.rec (motive:=fun _=>(Value→Prop)×(List Value→Prop))
  (fun k n=>(fun v=>v=.int k n,fun _=>False))
  (fun b=>(fun v=>v=.bool b,fun _=>False))
  (fun _ ih=>(fun v=>∃ (vs:List Value) (bs:List UInt8),ih.2 vs∧vs=bs.map (fun b=>Value.int .u8 b.toNat)∧v=.string ⟨bs.toArray⟩,fun _=>False))
  (fun t o=>(fun v=>v=.pointer (some ⟨(ρ t).1,o,none⟩),fun _=>False))
  (fun v=>v=.pointer none,fun _=>False)
  (fun t o n sz c=>(fun v=>match c with
   | some c=>v=.slice (some ⟨(ρ t).1,o,none⟩) n c∧o+c*sz≤(ρ t).2∧n≤c∧c≤maxLen
   | none=>∃ c,v=.slice (some ⟨(ρ t).1,o,none⟩) n c∧o+c*sz=(ρ t).2∧n≤c∧c≤maxLen,fun _=>False))
  (fun v=>v=.slice none 0 0,fun _=>False)
  (fun v=>∃ a c,v=.slice a 0 c,fun _=>False)
  (fun t=>(fun v=>v=.map (some (ρ t).1),fun _=>False))
  (fun v=>v=.map none,fun _=>False)
  (fun f _ _ i1 i2=>(fun v=>∃ xs ys,i1.2 xs∧i2.2 ys∧v=.func (.func f) xs.toArray ys.toArray,fun _=>False))
  (fun v=>v=.nilFunc,fun _=>False)
  (fun t=>(fun v=>v=.func (.yield (ρ t).1) #[] #[],fun _=>False))
  (fun _ ih=>(fun v=>∃ vs,ih.2 vs∧v=.agg vs.toArray,fun _=>False))
  (fun _ ih=>(fun v=>∃ vs,ih.2 vs∧v=.tuple vs.toArray,fun _=>False))
  (fun _=>False,fun l=>l=[])
  (fun _ _ i1 i2=>(fun _=>False,fun l=>∃ v vs,l=v :: vs∧i1.1 v∧i2.2 vs)) x
def DV (ρ:Pl) (x:CV) (v:Value):Prop:=(D ρ x).1 v
def DL (ρ:Pl) (x:CV) (l:List Value):Prop:=(D ρ x).2 l
section
variable {ρ:Pl} {v:Value} {l:List Value}
theorem DV.int {k:IntKind} {n:Int}:DV ρ (.int k n) v↔v=.int k n:=Iff.rfl
theorem DV.bool {b:Bool}:DV ρ (.bool b) v↔v=.bool b:=Iff.rfl
theorem DV.ptr {t o:Nat}:DV ρ (.ptr t o) v↔v=.pointer (some ⟨(ρ t).1,o,none⟩):=Iff.rfl
theorem DV.nilp:DV ρ .nilp v↔v=.pointer none:=Iff.rfl
theorem DV.nils:DV ρ .nils v↔v=.slice none 0 0:=Iff.rfl
theorem DV.mp {t:Nat}:DV ρ (.mp t) v↔v=.map (some (ρ t).1):=Iff.rfl
theorem eL {t o n sz c:Nat}:DV ρ (.sl t o n sz (some c)) v↔v=.slice (some ⟨(ρ t).1,o,none⟩) n c∧o+c*sz≤(ρ t).2∧n≤c∧c≤maxLen:=Iff.rfl
theorem gK {t o n sz:Nat}:DV ρ (.sl t o n sz none) v↔∃ c,v=.slice (some ⟨(ρ t).1,o,none⟩) n c∧o+c*sz=(ρ t).2∧n≤c∧c≤maxLen:=Iff.rfl
theorem DV.fn {f:Nat} {x y:CV}:DV ρ (.fn f x y) v↔∃ xs ys,DL ρ x xs∧DL ρ y ys∧v=.func (.func f) xs.toArray ys.toArray:=Iff.rfl
theorem DV.agg {x:CV}:DV ρ (.agg x) v↔∃ vs,DL ρ x vs∧v=.agg vs.toArray:=Iff.rfl
theorem DV.tup {x:CV}:DV ρ (.tup x) v↔∃ vs,DL ρ x vs∧v=.tuple vs.toArray:=Iff.rfl
theorem DL.nil:DL ρ .nil l↔l=[]:=Iff.rfl
theorem DL.cons {a b:CV}:DL ρ (.cons a b) l↔∃ v vs,l=v :: vs∧DV ρ a v∧DL ρ b vs:=Iff.rfl
end
def Bd (nx:Nat) (x:CV):Prop:=
 CV.rec (motive:=fun _=>Prop) (fun _ _=>True) (fun _=>True) (fun _ ih=>ih) (fun t _=>t<nx) True (fun t _ _ _ _=>t<nx) True True (fun t=>t<nx) True (fun _ _ _ i1 i2=>i1∧i2) True (fun t=>t<nx)
  (fun _ ih=>ih) (fun _ ih=>ih) True (fun _ _ i1 i2=>i1∧i2) x
def Ext (nx:Nat) (ρ ρ':Pl):Prop:=∀ t,t<nx→ρ' t=ρ t
theorem Ext.refl (nx:Nat) (ρ:Pl):Ext nx ρ ρ:=fun _ _=>rfl
theorem Ext.trans {nx nx':Nat} {a b c:Pl} (h:Ext nx a b) (k:Ext nx' b c) (hn:nx≤nx'):Ext nx a c:=fun t ht=>(k t (Nat.lt_of_lt_of_le ht hn)).trans (h t ht)
theorem aRL {nx:Nat} {ρ ρ':Pl} (h:Ext nx ρ ρ') (x:CV) (hb:Bd nx x):D ρ' x=D ρ x:=by
 induction x with
 | int k n=>rfl
 | bool b=>rfl
 | str s ih=>have:=ih hb;show (_,_)=(_,_);simp only [D] at this ⊢;rw [this]
 | ptr t o=>have e:=h t hb;show (_,_)=(_,_);simp only [e]
 | nilp=>rfl
 | sl t o n sz c=>have e:=h t hb;show (_,_)=(_,_);simp only [e]
 | nils=>rfl
 | sle=>rfl
 | mp t=>have e:=h t hb;show (_,_)=(_,_);simp only [e]
 | nilm=>rfl
 | fn f x y i1 i2=>have e1:=i1 hb.1;have e2:=i2 hb.2;show (_,_)=(_,_);simp only [D] at e1 e2 ⊢;rw [e1,e2]
 | nilf=>rfl
 | yl t=>have e:=h t hb;show (_,_)=(_,_);simp only [e]
 | agg l ih=>have:=ih hb;show (_,_)=(_,_);simp only [D] at this ⊢;rw [this]
 | tup l ih=>have:=ih hb;show (_,_)=(_,_);simp only [D] at this ⊢;rw [this]
 | nil=>rfl
 | cons a b i1 i2=>have e1:=i1 hb.1;have e2:=i2 hb.2;show (_,_)=(_,_);simp only [D] at e1 e2 ⊢;rw [e1,e2]
theorem Bd.mono {nx nx':Nat} (h:nx≤nx') (x:CV) (hb:Bd nx x):Bd nx' x:=by
 induction x with
 | str s ih=>exact ih hb
 | ptr t o=>exact Nat.lt_of_lt_of_le (show t<nx from hb) h
 | sl t o n sz c=>exact Nat.lt_of_lt_of_le (show t<nx from hb) h
 | mp t=>exact Nat.lt_of_lt_of_le (show t<nx from hb) h
 | fn f x y i1 i2=>exact ⟨i1 hb.1,i2 hb.2⟩
 | yl t=>exact Nat.lt_of_lt_of_le (show t<nx from hb) h
 | agg l ih=>exact ih hb
 | tup l ih=>exact ih hb
 | cons a b i1 i2=>exact ⟨i1 hb.1,i2 hb.2⟩
 | _=>trivial
def Kn (nx:Nat) (ρ:Pl) (x:CV) (v:Value):Prop:=Bd nx x∧DV ρ x v
def KL (nx:Nat) (ρ:Pl) (x:CV) (l:List Value):Prop:=Bd nx x∧DL ρ x l
theorem Kn.up {nx nx':Nat} {ρ ρ':Pl} {x:CV} {v:Value} (h:Kn nx ρ x v) (hn:nx≤nx') (he:Ext nx ρ ρ'):Kn nx' ρ' x v:=
 ⟨h.1.mono hn,by unfold DV;rw [aRL he x h.1];exact h.2⟩
theorem KL.up {nx nx':Nat} {ρ ρ':Pl} {x:CV} {v:List Value} (h:KL nx ρ x v) (hn:nx≤nx') (he:Ext nx ρ ρ'):KL nx' ρ' x v:=
 ⟨h.1.mono hn,by unfold DL;rw [aRL he x h.1];exact h.2⟩
theorem KL.nil {nx:Nat} {ρ:Pl}:KL nx ρ .nil []:=⟨trivial,rfl⟩
theorem KL.cons {nx:Nat} {ρ:Pl} {a b:CV} {v:Value} {vs:List Value} (h1:Kn nx ρ a v) (h2:KL nx ρ b vs):KL nx ρ (.cons a b) (v :: vs):=⟨⟨h1.1,h2.1⟩,⟨v,vs,rfl,h1.2,h2.2⟩⟩
structure Rw where
 n:Nat
 t:Tr CV
def RT (nx:Nat) (ρ:Pl) (t:Tr CV) (vs:List Value):Prop:=∀ i x,t.get i=some x→∃ v,vs[i]?=some v∧Kn nx ρ x v
def RL (nx:Nat) (ρ:Pl) (r:Rw) (vs:List Value):Prop:=r.n=vs.length∧RT nx ρ r.t vs
theorem RL.up {nx nx':Nat} {ρ ρ':Pl} {r:Rw} {vs:List Value} (h:RL nx ρ r vs) (hn:nx≤nx') (he:Ext nx ρ ρ'):RL nx' ρ' r vs:=
 ⟨h.1,fun i x hx=>by obtain ⟨v,h1,h2⟩:=h.2 i x hx;exact ⟨v,h1,h2.up hn he⟩⟩
inductive CB where
 | cells (l:Rw) (ty:Nat) (op:Bool) (st:Nat)
 | ro (l:Rw) (ty:Nat) (st:Nat)
 | mapI (l:List (Int×Int)) (st:Nat)
 | mapK (l:List (K4×Int)) (st:Nat)
 | lp (E:Tr CV) (n:Nat) (ps:List Nat) (asg body:Code) (q:LoopState) (p:Option Code) (st:Nat)
def stB:CB→Nat
 | .cells _ _ _ s=>s
 | .ro _ _ s=>s
 | .mapI _ s=>s
 | .mapK _ s=>s
 | .lp _ _ _ _ _ _ _ s=>s
def DB (nx:Nat) (ρ:Pl) (size:Nat):CB→Obj→Prop
 | .cells l ty op _,o=>∃ vs junk,RL nx ρ l vs∧o=.cells (vs++junk).toArray ty (0,0)∧vs.length+junk.length=size∧(op=false→junk=[])
 | .ro l ty _,o=>∃ vs fz,RL nx ρ l vs∧o=.cells vs.toArray ty fz
 | .mapI l _,o=>o=cE l
 | .mapK l _,o=>o=cE l
 | .lp E n ps asg body st p _,o=>∃ q:Loop,o=.loop q∧q.state=st∧q.pending=p∧q.params=ps.toArray∧q.assign=asg∧q.body=body∧q.tmps.size=n∧∀ i x,E.get i=some x→∃ v,q.tmps[i]?=some v∧Kn nx ρ x v
theorem DB.up {nx nx':Nat} {ρ ρ':Pl} {s:Nat} {b:CB} {o:Obj} (h:DB nx ρ s b o) (hn:nx≤nx') (he:Ext nx ρ ρ'):DB nx' ρ' s b o:=by
 cases b with
 | cells l ty op st=>obtain ⟨vs,junk,h1,h2⟩:=h;exact ⟨vs,junk,h1.up hn he,h2⟩
 | ro l ty st=>obtain ⟨vs,fz,h1,h2⟩:=h;exact ⟨vs,fz,h1.up hn he,h2⟩
 | mapI l st=>exact h
 | mapK l st=>exact h
 | lp E n ps asg body q p st =>
   obtain ⟨q,h1,h2,h3,h4,h5,h6,h7,h8⟩:=h
   exact ⟨q,h1,h2,h3,h4,h5,h6,h7,fun i x hx=>by obtain ⟨v,g1,g2⟩:=h8 i x hx;exact ⟨v,g1,g2.up hn he⟩⟩
structure Bas (Φ:Imm→Prop) where
 w:World
 ks:List Nat
 G:Imm
 ok:Φ G
 s:Nat
structure Mem {Φ:Imm→Prop} (ρ:Pl) (w0:Bas Φ) (h:Tr CB) (nx:Nat) (w:World):Prop where
 upd:Upd (fun _=>False) w0.w w
 own:∀ t b,h.get t=some b→t<nx∧stB b<nx∧w0.w.heap.size≤(ρ t).1∧∃ o,w.heap[(ρ t).1]?=some o∧DB nx ρ (ρ t).2 b o
 one:∀ t t' b b',h.get t=some b→h.get t'=some b'→(ρ t).1=(ρ t').1→t=t'
 imm:∀ b o,w0.G b=some o→w0.w.heap[b]?=some o
 nod:w0.ks.Nodup
 kept:∀ b,b∈w0.ks→w0.w.heap.size≤b∧w.heap[b]?=some (.deferred (some []))∧∀ t c,h.get t=some c→(ρ t).1≠b
def Slots (ρ:Pl) (E:Tr CV) (nx:Nat) (n:Nat) (a:Act):Prop:=a.tmps.size=n∧∀ i x,E.get i=some x→∃ v,a.tmps[i]?=some v∧Kn nx ρ x v
def Bas.plus {Φ:Imm→Prop} (w0:Bas Φ) (os:List Nat):Bas Φ:=⟨w0.w,os++w0.ks,w0.G,w0.ok,w0.s⟩
structure Rel0 {Φ:Imm→Prop} (ρ:Pl) (w0:Bas Φ) (os:List Nat) (n:Nat) (E:Tr CV) (h:Tr CB) (nx:Nat) (a:Act) (w:World):Prop where
 slots:Slots ρ E nx n a
 defers:a.defers=os.map mark
 mem:Mem ρ (w0.plus os) h nx w
 mks:∀ b,b∈os→w0.s≤b
 ss:w0.s≤w.heap.size
def Rel {Φ:Imm→Prop} (ρ:Pl) (w0:Bas Φ) (n:Nat) (E:Tr CV) (h:Tr CB) (nx:Nat) (a:Act) (w:World):Prop:=∃ os,Rel0 ρ w0 os n E h nx a w
def lrec {β:Sort _} (n:β) (c:CV→CV→β→β) (x:CV):β:=
 CV.rec (motive:=fun _=>β) (fun _ _=>n) (fun _=>n) (fun _ _=>n) (fun _ _=>n) n (fun _ _ _ _ _=>n) n n (fun _=>n) n (fun _ _ _ _ _=>n) n (fun _=>n) (fun _ _=>n) (fun _ _=>n) n (fun a b _ ih=>c a b ih) x
section
variable {β:Type} {n:β} {c:CV→CV→β→β}
end
def sU (l:CV):Nat→Option CV:=lrec (fun _=>none) (fun a _ ih k=>bif Nat.beq k 0 then some a else ih (Nat.pred k)) l
def cC (l:CV):Nat:=lrec 0 (fun _ _ ih=>Nat.succ ih) l
def kS (l m:CV):CV:=lrec m (fun a _ ih=>.cons a ih) l
def oB (k:Nat):CV→CV:=Nat.rec (fun l=>l) (fun _ ih l=>lrec .nil (fun _ b _=>ih b) l) k
def oC (k:Nat):CV→CV:=Nat.rec (fun _=>.nil) (fun _ ih l=>lrec .nil (fun a b _=>.cons a (ih b)) l) k
def zL (x:CV):Bool:=
 CV.rec (motive:=fun _=>Bool) (fun _ _=>true) (fun _=>true) (fun _ _=>true) (fun _ _=>true) true (fun _ _ _ _ _=>true) true true (fun _=>true) true (fun _ _ _ _ _=>true) true (fun _=>true) (fun _ _=>false) (fun _ _=>false) false (fun _ _ _ _=>false) x
def qG (l:CV):Bool:=lrec true (fun a _ ih=>zL a && ih) l
def aEM (l:CV) (k:Nat):CV:=Nat.rec .nil (fun _ ih=>kS l ih) k
section
variable {nx:Nat} {ρ:Pl}
theorem KL.inv_nil {l:List Value} (h:KL nx ρ .nil l):l=[]:=h.2
theorem KL.inv_cons {a b:CV} {l:List Value} (h:KL nx ρ (.cons a b) l):∃ v vs,l=v :: vs∧Kn nx ρ a v∧KL nx ρ b vs:=by
 obtain ⟨h1,v,vs,h2,h3,h4⟩:=h
 exact ⟨v,vs,h2,⟨h1.1,h3⟩,⟨h1.2,h4⟩⟩
theorem gA {motive:CV→List Value→Prop} (h0:motive .nil []) (h1:∀ a b v vs,Kn nx ρ a v→KL nx ρ b vs→motive b vs→motive (.cons a b) (v :: vs)):∀ {x:CV} {l:List Value},KL nx ρ x l→motive x l:=by
 intro x
 induction x with
 | nil=>intro l h;rw [h.inv_nil];exact h0
 | cons a b _ ih =>
   intro l h
   obtain ⟨v,vs,rfl,h2,h3⟩:=h.inv_cons
   exact h1 a b v vs h2 h3 (ih h3)
 | _=>intro l h;exact absurd h.2 id
theorem qH {x:CV} {l:List Value} (h:KL nx ρ x l):∀ {k:Nat} {c:CV},sU x k=some c→∃ v,l[k]?=some v∧Kn nx ρ c v:=by
 refine gA (motive:=fun x l=>∀ {k:Nat} {c:CV},sU x k=some c→∃ v,l[k]?=some v∧Kn nx ρ c v) ?_ ?_ h
 · intro k c hc;cases hc
 intro a b v vs hv hvs ih k c hc
 have hc':(bif Nat.beq k 0 then some a else sU b (Nat.pred k))=some c:=hc
 cases hb:Nat.beq k 0 with
 | true =>
   rw [hb] at hc'
   have:=Nat.eq_of_beq_eq_true hb
   subst this
   cases hc'
   exact ⟨v,rfl,hv⟩
 | false =>
   rw [hb] at hc'
   obtain ⟨u,h1,h2⟩:=ih hc'
   refine ⟨u,?_,h2⟩
   cases k with
   | zero=>cases hb
   | succ k=>exact h1
theorem cL {x:CV} {l:List Value} (h:KL nx ρ x l):cC x=l.length:=by
 refine gA (motive:=fun x l=>cC x=l.length) rfl ?_ h
 intro a b v vs _ _ ih
 show Nat.succ (cC b)=_
 rw [ih];rfl
theorem nO {x y:CV} {l m:List Value} (h:KL nx ρ x l) (k:KL nx ρ y m):KL nx ρ (kS x y) (l++m):=by
 refine gA (motive:=fun x l=>KL nx ρ (kS x y) (l++m)) k ?_ h
 intro a b v vs h1 _ ih
 exact KL.cons h1 ih
theorem vF:∀ (k:Nat) {x:CV} {l:List Value},KL nx ρ x l→KL nx ρ (oB k x) (l.drop k):=by
 intro k
 induction k with
 | zero=>intro x l h;exact h
 | succ k ih =>
   intro x l h
   refine gA (motive:=fun x l=>KL nx ρ (oB (k+1) x) (l.drop (k+1))) KL.nil ?_ h
   intro a b v vs _ h2 _
   exact ih h2
theorem vG:∀ (k:Nat) {x:CV} {l:List Value},KL nx ρ x l→KL nx ρ (oC k x) (l.take k):=by
 intro k
 induction k with
 | zero=>intro x l h;exact KL.nil
 | succ k ih =>
   intro x l h
   refine gA (motive:=fun x l=>KL nx ρ (oC (k+1) x) (l.take (k+1))) KL.nil ?_ h
   intro a b v vs h1 h2 _
   exact KL.cons h1 (ih h2)
theorem tF {x:CV} {l:List Value} (h:KL nx ρ x l):∀ k:Nat,KL nx ρ (aEM x k) (List.replicate k l).flatten:=by
 intro k
 induction k with
 | zero=>exact KL.nil
 | succ k ih =>
   rw [List.replicate_succ,List.flatten_cons]
   exact nO h ih
theorem xY {x:CV} {v:Value} (h:Kn nx ρ x v) (hs:zL x=true):v.oneCell'=true:=by
 cases x with
 | int k n=>rw [show v=_ from h.2];rfl
 | bool b=>rw [show v=_ from h.2];rfl
 | str s=>obtain ⟨_,_,_,_,h3⟩:=h.2;rw [h3];rfl
 | ptr t o=>rw [show v=_ from h.2];rfl
 | nilp=>rw [show v=_ from h.2];rfl
 | sl t o n sz c =>
   cases c with
   | some c=>rw [(eL.1 h.2).1];rfl
   | none=>obtain ⟨c,h1,_⟩:=gK.1 h.2;rw [h1];rfl
 | nils=>rw [show v=_ from h.2];rfl
 | sle=>obtain ⟨_,_,h1⟩:=h.2;rw [h1];rfl
 | mp t=>rw [show v=_ from h.2];rfl
 | nilm=>rw [show v=_ from h.2];rfl
 | fn f x y=>obtain ⟨_,_,_,_,h1⟩:=DV.fn.1 h.2;rw [h1];rfl
 | nilf=>rw [show v=_ from h.2];rfl
 | yl t=>rw [show v=_ from h.2];rfl
 | agg l=>cases hs
 | tup l=>cases hs
 | nil=>cases hs
 | cons a b=>cases hs
theorem vH {x:CV} {l:List Value} (h:KL nx ρ x l):qG x=true→l.all (·.oneCell')=true:=by
 refine gA (motive:=fun x l=>qG x=true→l.all (·.oneCell')=true) (fun _=>rfl) ?_ h
 intro a b v vs h1 _ ih hs
 have hs':(zL a && qG b)=true:=hs
 simp only [Bool.and_eq_true] at hs'
 rw [List.all_cons,Bool.and_eq_true]
 exact ⟨xY h1 hs'.1,ih hs'.2⟩
end
def aJB (r:Rw) (o:Nat):Option CV:=r.t.get o
def cU (r:Rw) (o k:Nat):CV:=Nat.rec (motive:=fun _=>Nat→CV) (fun _=>.nil) (fun _ ih o=>match r.t.get o with | some a=>.cons a (ih (Nat.succ o)) | none=>.nil) k o
def aJC (m:CV) (t:Tr CV) (p:Nat):Tr CV:=lrec (β:=Tr CV→Nat→Tr CV) (fun t _=>t) (fun a _ ih t p=>ih (t.set (some a) (Nat.succ p) p) (Nat.succ p)) m t p
def wZ (p:Nat) (m:CV) (r:Rw):Rw:=⟨r.n,aJC m r.t p⟩
def appR (r:Rw) (m:CV):Rw:=⟨Nat.add r.n (cC m),aJC m r.t r.n⟩
def ofR (m:CV):Rw:=⟨cC m,aJC m .e 0⟩
theorem aNK:∀ (m:CV) (t:Tr CV) (p i:Nat),(aJC m t p).get i=if p≤i∧i<p+cC m then sU m (i - p) else t.get i:=by
 intro m
 induction m with
 | cons a b _ ih =>
   intro t p i
   show (aJC b (t.set (some a) (Nat.succ p) p) (Nat.succ p)).get i=if p≤i∧i<p+Nat.succ (cC b) then (bif Nat.beq (i - p) 0 then some a else sU b (Nat.pred (i - p))) else t.get i
   rw [ih,bB _ _ _ _ _ (Nat.lt_succ_self p)]
   by_cases h1:i=p
   · subst h1
     rw [if_neg (by omega),if_pos rfl,if_pos (by omega),Nat.sub_self]
     rfl
   · by_cases h2:p+1≤i∧i<p+1+cC b
     · rw [if_pos (show Nat.succ p≤i∧i<Nat.succ p+cC b from h2),if_pos (by omega)]
       have h3:Nat.beq (i - p) 0=false:=by
        cases hb:Nat.beq (i - p) 0 with
        | false=>rfl
        | true=>have:=Nat.eq_of_beq_eq_true hb;omega
       rw [h3]
       show sU b (i - (p+1))=sU b (i - p - 1)
       rw [Nat.sub_add_eq]
     · rw [if_neg (show ¬(Nat.succ p≤i∧i<Nat.succ p+cC b) from h2),if_neg h1,if_neg (by omega)]
 | _=>intro t p i;exact (if_neg (show ¬(p≤i∧i<p+0) by omega)).symm
section
variable {nx:Nat} {ρ:Pl}
theorem aGR {α:Type} {l n:List α} {p:Nat} (h:p+n.length≤l.length) (i:Nat):(l.take p++n++l.drop (p+n.length))[i]?=if p≤i∧i<p+n.length then n[i - p]? else l[i]?:=by
 have hl:(l.take p).length=p:=by rw [List.length_take];omega
 by_cases h1:i<p
 · rw [if_neg (by omega),List.append_assoc,List.getElem?_append_left (by omega),List.getElem?_take_of_lt h1]
 by_cases h2:i<p+n.length
 · rw [if_pos ⟨by omega,h2⟩,List.append_assoc,List.getElem?_append_right (by omega),hl,List.getElem?_append_left (by omega)]
 rw [if_neg (by omega),List.getElem?_append_right (by rw [List.length_append,hl];omega),List.length_append,hl,List.getElem?_drop]
 congr 1;omega
theorem zM {m:CV} {t:Tr CV} {p:Nat} {vs us news:List Value} (hm:KL nx ρ m news) (ht:RT nx ρ t vs) (h1:∀ i,p≤i→i<p+news.length→us[i]?=news[i - p]?) (h2:∀ i v,¬(p≤i∧i<p+news.length)→vs[i]?=some v→us[i]?=some v):RT nx ρ (aJC m t p) us:=fun i x hx=>by
 rw [aNK,cL hm] at hx
 by_cases h:p≤i∧i<p+news.length
 · rw [if_pos h] at hx
   obtain ⟨v,e1,e2⟩:=qH hm hx
   exact ⟨v,by rw [h1 i h.1 h.2];exact e1,e2⟩
 rw [if_neg h] at hx
 obtain ⟨v,e1,e2⟩:=ht i x hx
 exact ⟨v,h2 i v h e1,e2⟩
theorem aQN {m:CV} {r:Rw} {p:Nat} {vs news:List Value} (hr:RL nx ρ r vs) (hm:KL nx ρ m news) (hp:p+news.length≤vs.length):RL nx ρ (wZ p m r) (vs.take p++news++vs.drop (p+news.length)):=
 ⟨by show r.n=_;rw [hr.1];simp only [List.length_append,List.length_take,List.length_drop];omega,
  zM hm hr.2 (fun i h1 h2=>by rw [aGR hp,if_pos ⟨h1,h2⟩]) (fun i v h e=>by rw [aGR hp,if_neg h];exact e)⟩
theorem aGS {m:CV} {r:Rw} {vs news:List Value} (hr:RL nx ρ r vs) (hm:KL nx ρ m news):RL nx ρ (appR r m) (vs++news):=
 ⟨by show r.n+cC m=_;rw [hr.1,cL hm,List.length_append],
  zM hm hr.2 (fun i h1 h2=>by rw [hr.1] at h1 ⊢;exact List.getElem?_append_right h1) (fun i v _ e=>by
   have:=(List.getElem?_eq_some_iff.1 e).1
   rw [List.getElem?_append_left this];exact e)⟩
theorem zN {m:CV} {vs:List Value} (hm:KL nx ρ m vs):RL nx ρ (ofR m) vs:=
 ⟨cL hm,zM (vs:=[]) hm (fun i x hx=>by cases hx) (fun i _ h2=>by rw [Nat.sub_zero]) (fun i v _ e=>by cases e)⟩
theorem aGT {r:Rw} {vs:List Value} (hr:RL nx ρ r vs):r.n=vs.length:=hr.1
theorem aGU {r:Rw} {vs:List Value} (hr:RL nx ρ r vs) {k:Nat} {c:CV} (h:aJB r k=some c):∃ v,vs[k]?=some v∧Kn nx ρ c v:=hr.2 k c h
theorem kT {r:Rw} {vs:List Value} (hr:RL nx ρ r vs):∀ {k o:Nat},cC (cU r o k)=k→KL nx ρ (cU r o k) ((vs.drop o).take k):=by
 intro k
 induction k with
 | zero=>intro o h;exact KL.nil
 | succ k ih =>
   intro o h
   have hs:cU r o (k+1)=(match r.t.get o with | some a=>.cons a (cU r (o+1) k) | none=>.nil):=rfl
   rw [hs] at h ⊢
   split at h
   · rename_i a ha
     obtain ⟨v,e1,e2⟩:=hr.2 o a ha
     have h':cC (cU r (o+1) k)=k:=Nat.succ.inj h
     obtain ⟨hl,hg⟩:=List.getElem?_eq_some_iff.1 e1
     rw [List.drop_eq_getElem_cons hl,hg,List.take_succ_cons]
     exact KL.cons e2 (ih h')
   cases h
end
def ofB (l:List UInt8):CV:=List.rec .nil (fun b _ ih=>.cons (.int .u8 b.toNat) ih) l
def aNL:Value→Option CV
 | .int k n=>some (.int k n)
 | .bool b=>some (.bool b)
 | .pointer none=>some .nilp
 | .slice none n c=>bif Nat.beq n 0 && Nat.beq c 0 then some .nils else none
 | .map none=>some .nilm
 | .nilFunc=>some .nilf
 | .string ⟨⟨l⟩⟩=>some (.str (ofB l))
 | _=>none
def ofL (l:List Value):Option CV:=List.rec (some .nil) (fun v _ ih=>match aNL v with | some a=>(match ih with | some b=>some (.cons a b) | none=>none) | none=>none) l
def ofV:Value→Option CV
 | .agg ⟨l⟩=>match ofL l with | some x=>some (.agg x) | none=>none
 | .tuple ⟨l⟩=>match ofL l with | some x=>some (.tup x) | none=>none
 | v=>aNL v
section
variable {nx:Nat} {ρ:Pl}
theorem aSI:∀ l:List UInt8,KL nx ρ (ofB l) (l.map fun b=>Value.int .u8 b.toNat):=by
 intro l
 induction l with
 | nil=>exact KL.nil
 | cons b l ih=>exact KL.cons ⟨trivial,rfl⟩ ih
theorem aGV {v:Value} {x:CV} (h:aNL v=some x):Kn nx ρ x v:=by
 unfold aNL at h
 split at h
 · cases h;exact ⟨trivial,rfl⟩
 · cases h;exact ⟨trivial,rfl⟩
 · cases h;exact ⟨trivial,rfl⟩
 · rename_i n c
   cases hb:Nat.beq n 0 && Nat.beq c 0 with
   | true =>
     rw [hb] at h
     cases h
     simp only [Bool.and_eq_true] at hb
     have e1:=Nat.eq_of_beq_eq_true hb.1
     have e2:=Nat.eq_of_beq_eq_true hb.2
     subst e1 e2
     exact ⟨trivial,rfl⟩
   | false=>rw [hb] at h;cases h
 · cases h;exact ⟨trivial,rfl⟩
 · cases h;exact ⟨trivial,rfl⟩
 · rename_i l
   cases h
   have:=aSI (nx:=nx) (ρ:=ρ) l
   exact ⟨this.1,⟨_,l,this.2,rfl,rfl⟩⟩
 cases h
theorem aNM:∀ {l:List Value} {x:CV},ofL l=some x→KL nx ρ x l:=by
 intro l
 induction l with
 | nil=>intro x h;cases h;exact KL.nil
 | cons v l ih =>
   intro x h
   have h':(match aNL v with | some a=>(match ofL l with | some b=>some (.cons a b) | none=>none) | none=>none)=some x:=h
   split at h'
   · rename_i a ha
     split at h'
     · rename_i b hb
       cases h'
       exact KL.cons (aGV ha) (ih hb)
     cases h'
   cases h'
theorem aNN {v:Value} {x:CV} (h:ofV v=some x):Kn nx ρ x v:=by
 unfold ofV at h
 split at h
 · split at h
   · rename_i l y hy
     cases h
     have:=aNM (nx:=nx) (ρ:=ρ) hy
     exact ⟨this.1,DV.agg.2 ⟨_,this.2,rfl⟩⟩
   cases h
 · split at h
   · rename_i l y hy
     cases h
     have:=aNM (nx:=nx) (ρ:=ρ) hy
     exact ⟨this.1,DV.tup.2 ⟨_,this.2,rfl⟩⟩
   cases h
 exact aGV h
end
def evo (E:Tr CV):Operand→Option CV
 | .tmp t=>E.get t
 | .const v=>ofV v
 | .func f=>some (.fn f .nil .nil)
 | .global _=>none
def aJD (E:Tr CV) (l:List Operand):Option CV:=List.rec (some .nil) (fun x _ ih=>match evo E x with | some a=>(match ih with | some b=>some (.cons a b) | none=>none) | none=>none) l
theorem nA:∀ (vs:List Value) (i j:Nat),(eF i vs).get (i+j)=vs[j]?
 | [],i,j=>rfl
 | v :: vs,i,j=>by
   show Env.get ((i,v) :: eF (i+1) vs) (i+j)=_
   rw [cN]
   cases j with
   | zero=>simp
   | succ j =>
     rw [if_neg (by omega),show i+(j+1)=(i+1)+j by omega,nA vs (i+1) j]
     rfl
def eA (a:Act):Env:=eF 0 a.tmps.toList
theorem aEN (a:Act) (i:Nat):(eA a).get i=a.tmps[i]?:=by
 have:=nA a.tmps.toList 0 i
 rw [Nat.zero_add] at this
 unfold eA
 rw [this,Array.getElem?_toList]
section
variable {nx n:Nat} {ρ:Pl} {E:Tr CV} {a:Act}
theorem aJ (h:Slots ρ E nx n a) {x:Operand} {c:CV} (hc:evo E x=some c):∃ v,(eA a).ev x=some v∧Kn nx ρ c v:=by
 cases x with
 | tmp t =>
   obtain ⟨v,h1,h2⟩:=h.2 t c hc
   exact ⟨v,by show (eA a).get t=_;rw [aEN];exact h1,h2⟩
 | const v=>exact ⟨v,rfl,aNN hc⟩
 | func f =>
   cases hc
   exact ⟨_,rfl,⟨⟨trivial,trivial⟩,DV.fn.2 ⟨[],[],rfl,rfl,rfl⟩⟩⟩
 | global g=>cases hc
theorem tG (h:Slots ρ E nx n a):∀ {l:List Operand} {c:CV},aJD E l=some c→∃ vs,(eA a).evs l=some vs∧KL nx ρ c vs:=by
 intro l
 induction l with
 | nil=>intro c hc;cases hc;exact ⟨[],rfl,KL.nil⟩
 | cons x l ih =>
   intro c hc
   have hc':(match evo E x with | some a=>(match aJD E l with | some b=>some (.cons a b) | none=>none) | none=>none)=some c:=hc
   split at hc'
   · rename_i c1 h1
     split at hc'
     · rename_i c2 h2
       cases hc'
       obtain ⟨v,e1,k1⟩:=aJ h h1
       obtain ⟨vs,e2,k2⟩:=ih h2
       exact ⟨v :: vs,by unfold Env.evs;rw [e1,e2],KL.cons k1 k2⟩
     cases hc'
   cases hc'
theorem lookN (a:Act) (w:World):Look (eA a) [] (fun _=>none) a w:=
 ⟨fun i v h=>by rw [aEN] at h;exact h,⟨fun t b o h=>(by cases h),fun t t' b o o' h=>(by cases h),fun b o h=>(by cases h),fun t b o h=>(by cases h)⟩⟩
theorem lookB (a:Act) {w:World} {b:Nat} {o:Obj} (hb:w.heap[b]?=some o):Look (eA a) [(0,some b,o)] (fun _=>none) a w:=
 ⟨fun i v h=>by rw [aEN] at h;exact h,⟨fun t b' o' h=>(by
  rw [aK] at h
  split at h
  · cases h;exact hb
  · cases h),fun t t' b1 o1 o2 h h'=>(by
  rw [aK] at h h'
  split at h <;> split at h'
  · omega
  · cases h'
  · cases h
  cases h),fun b o h=>(by cases h),fun t b o h=>rfl⟩⟩
end
def szQ (P:Program) (T:Nat):Option Nat:=match P.info? T with | some i=>some i.size | none=>none
def agQ (P:Program) (T:Nat):Option Nat:=match szQ P T with | some k=>bif fD P T k then some k else none | none=>none
def foQ (P:Program) (s f:Nat):Option Nat:=match P.underlying s with
 | some (.struct ⟨fs⟩)=>match nth fs f with
   | some fd=>match szQ P fd.type with
     | some k=>bif Nat.beq k 0 then none else some fd.offset
     | none=>none
   | none=>none
 | _=>none
def slQ (P:Program) (T:Nat):Option (Nat×Nat):=match P.underlying T with
 | some (.slice E)=>match szQ P E with | some k=>some (E,k) | none=>none
 | _=>none
theorem rT {P:Program} {T k:Nat} (h:szQ P T=some k):(P.info? T).map (·.size)=some k:=by
 unfold szQ at h
 split at h
 · rename_i i hi;rw [hi];exact h
 cases h
theorem aNO {P:Program} {T k:Nat} (h:agQ P T=some k):fD P T k=true:=by
 unfold agQ at h
 split at h
 · rename_i m hm
   cases hb:fD P T m with
   | true=>rw [hb] at h;cases h;exact hb
   | false=>rw [hb] at h;cases h
 cases h
theorem eW {P:Program} {T E k:Nat} (h:slQ P T=some (E,k)):aS P T E k:=by
 unfold slQ at h
 split at h
 · rename_i E' hu
   split at h
   · rename_i m hm
     cases h
     exact ⟨hu,rT hm⟩
   cases h
 cases h
theorem aSJ {P:Program} {s f k:Nat} (h:foQ P s f=some k):sW P s f k:=by
 unfold foQ at h
 split at h
 · rename_i fs hu
   split at h
   · rename_i fd hf
     split at h
     · rename_i m hm
       cases hb:Nat.beq m 0 with
       | true=>rw [hb] at h;cases h
       | false =>
         rw [hb] at h
         cases h
         intro b o w
         rw [gV] at hf
         have h1:fs.toArray[f]?=some fd:=by simpa using hf
         have h2:=run_sizeOf (P:=P) w (rT hm)
         have h3:m≠0:=fun e=>by subst e;simp at hb
         simp only [Instr.fieldAt,Sem.run_bind,run_underlying hu,Result.andThen_ok,h1,Instr.sureAddr,Sem.run_pure,fieldPlace,h2,h3,if_false,add_lit]
     cases h
   cases h
 cases h
def ieq (m n:Int):Bool:=Int.rec (fun a=>Int.rec (fun b=>Nat.beq a b) (fun _=>false) n) (fun a=>Int.rec (fun _=>false) (fun b=>Nat.beq a b) n) m
def ile (m n:Int):Bool:=Int.rec (fun a=>Int.rec (fun b=>Nat.ble a b) (fun _=>false) n) (fun a=>Int.rec (fun _=>true) (fun b=>Nat.ble b a) n) m
theorem vI (a b:Nat):Nat.beq a b=decide (a=b):=by
 cases h:Nat.beq a b with
 | true=>rw [Nat.eq_of_beq_eq_true h];simp
 | false => have:a≠b:=fun e=>by subst e;simp at h
            simp [this]
theorem vJ (a b:Nat):Nat.ble a b=decide (a≤b):=by
 cases h:Nat.ble a b with
 | true=>simp [Nat.le_of_ble_eq_true h]
 | false => have:¬a≤b:=fun e=>by rw [Nat.ble_eq_true_of_le e] at h;cases h
            simp [this]
theorem fS (m n:Int):ieq m n=decide (m=n):=by
 cases m <;> cases n
 · rename_i a b;show Nat.beq a b=_;rw [vI];exact decide_eq_decide.2 ⟨fun h=>by rw [h],fun h=>Int.ofNat.inj h⟩
 · rename_i a b;show false=_;symm;rw [decide_eq_false_iff_not];intro h;cases h
 · rename_i a b;show false=_;symm;rw [decide_eq_false_iff_not];intro h;cases h
 rename_i a b;show Nat.beq a b=_;rw [vI];exact decide_eq_decide.2 ⟨fun h=>by rw [h],fun h=>Int.negSucc.inj h⟩
theorem dN (m n:Int):ile m n=decide (m≤n):=by
 cases m <;> cases n
 · rename_i a b;show Nat.ble a b=_;rw [vJ];exact decide_eq_decide.2 ⟨fun h=>Int.ofNat_le.2 h,fun h=>Int.ofNat_le.1 h⟩
 · rename_i a b;show false=_;symm;rw [decide_eq_false_iff_not];intro h;have:=Int.negSucc_lt_zero b;have:=Int.natCast_nonneg a;simp only [Int.ofNat_eq_natCast] at h;omega
 · rename_i a b;show true=_;symm;rw [decide_eq_true_eq];have:=Int.negSucc_lt_zero a;have:=Int.natCast_nonneg b;simp only [Int.ofNat_eq_natCast];omega
 rename_i a b;show Nat.ble b a=_;rw [vJ];exact decide_eq_decide.2 ⟨fun h=>by omega,fun h=>by omega⟩
def wrN (lim a:Nat) (z w:Int):Int:=bif Nat.ble a lim then z else w
theorem aEO {lim a:Nat} {z w:Int} (h:a≤lim→w=z):wrN lim a z w=w:=by
 unfold wrN
 cases hb:Nat.ble a lim with
 | true=>exact (h (Nat.le_of_ble_eq_true hb)).symm
 | false=>rfl
def wr64 (z:Int):Int:=Int.rec (fun a=>wrN 9223372036854775807 a (.ofNat a) (IntKind.wrap .i64 (.ofNat a))) (fun a=>wrN 9223372036854775807 a (.negSucc a) (IntKind.wrap .i64 (.negSucc a))) z
def wrU (lim:Nat) (k:IntKind) (z:Int):Int:=Int.rec (fun a=>wrN lim a (.ofNat a) (k.wrap (.ofNat a))) (fun a=>k.wrap (.negSucc a)) z
def wr (k:IntKind) (z:Int):Int:=match k with
 | .i64=>wr64 z
 | .u64=>wrU 18446744073709551615 .u64 z
 | .u32=>wrU 4294967295 .u32 z
 | .u8=>wrU 255 .u8 z
 | k=>k.wrap z
theorem aQO (z:Int):wr64 z=IntKind.wrap .i64 z:=by
 cases z with
 | ofNat a=>exact aEO fun h=>IntWalk.i64_in _ (by simp only [Int.ofNat_eq_natCast];omega)
 | negSucc a=>exact aEO fun h=>IntWalk.i64_in _ (by omega)
theorem aEP {lim:Nat} {k:IntKind} (h:∀ a:Nat,a≤lim→k.wrap (.ofNat a)=.ofNat a) (z:Int):wrU lim k z=k.wrap z:=by
 cases z with
 | ofNat a=>exact aEO (h a)
 | negSucc a=>exact Eq.refl (k.wrap (.negSucc a))
theorem wr_eq (k:IntKind) (z:Int):wr k z=k.wrap z:=by
 cases k
 case i64=>exact aQO z
 case u64=>exact aEP (fun a h=>IntWalk.u64_in _ (by simp only [Int.ofNat_eq_natCast];omega)) z
 case u32=>exact aEP (fun a h=>by rw [IntKind.wrap_u32];simp only [Int.ofNat_eq_natCast];omega) z
 case u8=>exact aEP (fun a h=>by rw [IntKind.wrap_u8];simp only [Int.ofNat_eq_natCast];omega) z
 all_goals exact Eq.refl _
def bo (o:BinOp) (k:IntKind) (m n:Int):Option CV:=match o with
 | .eql=>some (.bool (ieq m n))
 | .neq=>some (.bool (not (ieq m n)))
 | .lss=>some (.bool (not (ile n m)))
 | .leq=>some (.bool (ile m n))
 | .gtr=>some (.bool (not (ile m n)))
 | .geq=>some (.bool (ile n m))
 | .add=>some (.int k (wr k (Int.add m n)))
 | .sub=>some (.int k (wr k (Int.sub m n)))
 | .mul=>some (.int k (wr k (Int.mul m n)))
 | .quo=>bif ieq n 0 then none else some (.int k (wr k (Int.tdiv m n)))
 | .rem=>bif ieq n 0 then none else some (.int k (Int.tmod m n))
 | .and=>some (.int k (bits .and k m n))
 | .or=>some (.int k (bits .or k m n))
 | _=>none
def sh (o:BinOp) (k:IntKind) (m n:Int):Option CV:=match o with
 | .shl=>bif ile 0 n then some (.int k (wr k (Int.mul m (2 ^ (min n.toNat k.bits))))) else none
 | .shr=>bif ile 0 n then some (.int k (Int.fdiv m (2 ^ (min n.toNat k.bits)))) else none
 | _=>none
section
variable {P:Program} {e:Env} {H:Hp} {G:Imm} {ty t t':TypeId} {x y:Operand} {k k':IntKind} {m n:Int} {nx:Nat} {ρ:Pl} {c:CV}
theorem qI (p:Prop) [Decidable p]:(not (decide p))=decide (¬p):=by by_cases h:p <;> simp [h]
theorem bo_ok {o:BinOp} (hx:e.ev x=some (.int k m)) (hy:e.ev y=some (.int k n)) (h:bo o k m n=some c):∃ v,Kn nx ρ c v∧∀ ty,Qy P (.binOp o t x y t') ty e H G v:=by
 cases o <;> first | (cases h;done) | skip
 case eql=>cases h;exact ⟨_,⟨trivial,rfl⟩,fun ty=>by rw [fS];exact Qy.eql hx hy⟩
 case neq=>cases h;exact ⟨_,⟨trivial,rfl⟩,fun ty=>by rw [fS,qI];exact Qy.neq hx hy⟩
 case lss=>cases h;exact ⟨_,⟨trivial,rfl⟩,fun ty=>by rw [dN,qI,show decide (¬n≤m)=decide (m<n) from decide_eq_decide.2 Int.not_le];exact Qy.lss hx hy⟩
 case leq=>cases h;exact ⟨_,⟨trivial,rfl⟩,fun ty=>by rw [dN];exact Qy.leq hx hy⟩
 case gtr=>cases h;exact ⟨_,⟨trivial,rfl⟩,fun ty=>by rw [dN,qI,show decide (¬m≤n)=decide (n<m) from decide_eq_decide.2 Int.not_le];exact Qy.gtr hx hy⟩
 case geq=>cases h;exact ⟨_,⟨trivial,rfl⟩,fun ty=>by rw [dN];exact Qy.geq hx hy⟩
 case add=>cases h;exact ⟨_,⟨trivial,rfl⟩,fun ty=>by rw [wr_eq];exact oZ hx hy⟩
 case sub=>cases h;exact ⟨_,⟨trivial,rfl⟩,fun ty=>by rw [wr_eq];exact pA hx hy⟩
 case mul=>cases h;exact ⟨_,⟨trivial,rfl⟩,fun ty=>by rw [wr_eq];exact eX hx hy⟩
 case quo =>
  have h':(bif ieq n 0 then none else some (CV.int k (wr k (Int.tdiv m n))))=some c:=h
  have e:=fS n 0
  by_cases h0:n=0
  · rw [e,decide_eq_true h0] at h';cases h'
  rw [e,decide_eq_false h0] at h'
  cases h'
  exact ⟨_,⟨trivial,rfl⟩,fun ty=>by rw [wr_eq];exact sV hx hy h0⟩
 case rem =>
  have h':(bif ieq n 0 then none else some (CV.int k (Int.tmod m n)))=some c:=h
  have e:=fS n 0
  by_cases h0:n=0
  · rw [e,decide_eq_true h0] at h';cases h'
  rw [e,decide_eq_false h0] at h'
  cases h'
  exact ⟨_,⟨trivial,rfl⟩,fun ty=>Qy.rem hx hy h0⟩
 case and=>cases h;exact ⟨_,⟨trivial,rfl⟩,fun ty=>eD hx hy⟩
 case or=>cases h;exact ⟨_,⟨trivial,rfl⟩,fun ty=>lG hx hy⟩
theorem sh_ok {o:BinOp} (hx:e.ev x=some (.int k m)) (hy:e.ev y=some (.int k' n)) (h:sh o k m n=some c):∃ v,Kn nx ρ c v∧∀ ty,Qy P (.binOp o t x y t') ty e H G v:=by
 cases o <;> first | (cases h;done) | skip
 case shl =>
  have h':(bif ile 0 n then some (CV.int k (wr k (Int.mul m (2 ^ (min n.toNat k.bits))))) else none)=some c:=h
  have e:=dN 0 n
  by_cases h0:0≤n
  · rw [e,decide_eq_true h0] at h'
    cases h'
    exact ⟨_,⟨trivial,rfl⟩,fun ty=>by rw [wr_eq];exact Qy.shl hx hy h0⟩
  rw [e,decide_eq_false h0] at h';cases h'
 case shr =>
  have h':(bif ile 0 n then some (CV.int k (Int.fdiv m (2 ^ (min n.toNat k.bits)))) else none)=some c:=h
  have e:=dN 0 n
  by_cases h0:0≤n
  · rw [e,decide_eq_true h0] at h'
    cases h'
    exact ⟨_,⟨trivial,rfl⟩,fun ty=>Qy.shr hx hy h0⟩
  rw [e,decide_eq_false h0] at h';cases h'
end
end Go.Sl.Ev
end
