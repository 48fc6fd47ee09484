/- uJ of the proof (part 7): what the rows' text needs of the texts that lead to it. -/
import Derived.Test.YtfdcckcadfhpeaaGreatDoorMMf
set_option linter.unusedVariables false
set_option linter.unusedSimpArgs false
set_option linter.unusedSectionVars false
set_option maxHeartbeats 4000000
set_option maxRecDepth 100000
namespace Go.Proofs.YtfdcckcadfhpeaaGreatDoor
open Go Go.Sl
theorem Sf (n:Int) (wh:List R2):∀ (o:List Int) (t:Nat),(vQ n wh (o.drop t)).length≤(vQ n wh o).length
 | [],t=>by rw [List.drop_nil];exact aH _
 | k :: o,0=>aH _
 | [k],t+1=>by rw [nW,List.drop_nil];exact aP _
 | k :: i :: left,t+1=>by
   rw [nW];refine bP (Sf n wh (i :: left) t) ?_;show _≤(vQ n wh (i :: left)++_).length;rw [aD];omega
theorem Zy (n:Int) (wh:List R2) (k:Int) {rest:List Int} (h:1≤rest.length):vQ n wh (k :: rest)=vQ n wh rest++yC n wh k rest.length:=by
 cases rest with
 | nil=>simp at h
 | cons i left=>rfl
theorem TP {α:Type} [A0 α] {G:A2} {a:J0 Addr} {c:Nat} {l:List α} (h:Arr G a l) (n:Nat) (hn:n≤l.length) (hc:l.length≤c):Arr G (B7 a c n (A0.sz α)) (l.drop n):=by
 have h1:=H9.sub h hn hc;unfold Arr;have e:uD l=uD (l.take n)++uD (l.drop n):=by rw [←xM,eZ]
 have e2:(uD l).drop (n*A0.sz α)=uD (l.drop n):=by
  rw [e,List.drop_left' (by rw [uA,bM,fW hn])]
 rw [←e2,eK];exact h1
def Ge (n t:Nat):List Int:=(List.range t).map fun j:Nat=>(n:Int)+j
theorem OA (n t:Nat):(Ge n t).length=t:=by unfold Ge;rw [aT,cM]
theorem Iv (n t:Nat):Ge n (t+1)=Ge n t++[(n:Int)+t]:=by unfold Ge;rw [List.range_succ,jV];rfl
theorem kp (G:A2) (n b:Nat) (ac:J0 Addr) (cc:Nat) (code:List I5) (j:List Value) (wa:J0 Addr) (wc:Nat) (wh:List R2) (k:Int) (la:J0 Addr) (lc m:Nat) (left:List Int) (e:Nat) (hn:wh.length=n) (hm:left.length=m) (ho:A3 ac cc code j) (hw:Arr G wa wh) (hla:Arr G la left)
 (hwl:n≤15) (hk:0≤k∧k<n) (hll:m≤15) (hleft:∀ i∈left,0≤i∧i<n) (he:e≤14) (hok:∀ i,i<n→Oz (wh[i]?.getD default)) (hl:(code++zS n wh k e left).length≤1048576) :
 Does Tryz.prog 194 [.pointer (some ⟨b,0,none⟩),.int .i64 k,.slice la m lc,.int .i64 e] G [(0,some b,.cells #[.int .i64 n,.slice ac code.length cc,.slice wa n wc] 267),(1,ac.map (·.block),Row 91 code j)]
  (fun v G' Ho=>v=.tuple #[]∧G'=G∧∃ (a':J0 Addr) (c':Nat) (j':List Value),A3 a' c' (code++zS n wh k e left) j'∧Ho=[(0,some b,.cells #[.int .i64 n,.slice a' (code++zS n wh k e left).length c',.slice wa n wc] 267),(1,a'.map (·.block),Row 91 (code++zS n wh k e left) j')]):=by
 subst hn hm;exact tu G b ac cc code j wa wc wh k la lc left e ho hw hla hwl hk hll (fun i hi=>hleft _ (by rw [aA hi];exact bY _)) he hok hl
theorem kq (G:A2) (n b:Nat) (ac:J0 Addr) (cc:Nat) (code:List I5) (j:List Value) (wa:J0 Addr) (wc:Nat) (wh:List R2) (k:Int) (e:Nat) (hn:wh.length=n) (ho:A3 ac cc code j) (hw:Arr G wa wh)
 (hwl:n≤15) (hk:0≤k∧k<n) (he1:1≤e) (he:e<n) (hok:Oz (wh[k.toNat]?.getD default)) (hl:(code++yC n wh k e).length≤1048576) :
 Does Tryz.prog 197 [.pointer (some ⟨b,0,none⟩),.int .i64 k,.int .i64 e] G [(0,some b,.cells #[.int .i64 n,.slice ac code.length cc,.slice wa n wc] 267),(1,ac.map (·.block),Row 91 code j)]
  (fun v G' Ho=>v=.tuple #[]∧G'=G∧∃ (a':J0 Addr) (c':Nat) (j':List Value),A3 a' c' (code++yC n wh k e) j'∧Ho=[(0,some b,.cells #[.int .i64 n,.slice a' (code++yC n wh k e).length c',.slice wa n wc] 267),(1,a'.map (·.block),Row 91 (code++yC n wh k e) j')]):=by
 subst hn;exact tz G b ac cc code j wa wc wh k e ho hw hwl hk he1 he hok hl
theorem ua (G:A2) (a:J0 Addr) (c:Nat) (l:List R2) (oa:J0 Addr) (oc:Nat) (o:List Int) (ha:Arr G a l) (hoa:Arr G oa o) (hac:l.length≤c) (hocc:o.length≤oc) (hR:uO l) (hO:Ey o l.length) :
 Does Tryz.prog 147 [.slice a l.length c,.slice oa o.length oc] G [] (fun v G' Ho=>∃ (bc bo:J0 Addr) (dc do_:Nat) (j1 j2:List Value),v=.agg #[.int .i64 (tK l o).ins,.int .i64 (tK l o).regs,.slice bc (tK l o).code.length dc,.slice bo (tK l o).outs.length do_]∧A3 bc dc (tK l o).code j1∧A3 bo do_ (tK l o).outs j2∧
  Ho=[(0,bc.map (·.block),Row 91 (tK l o).code j1),(1,bo.map (·.block),Row 3 (tK l o).outs j2)]):=by
 have hgood:=Mu hR hO;have hok:∀ i,i<l.length→Oz (l[i]?.getD default):=hR.2.2.1;have hl1:=hR.1;have hl15:=hR.2.1;obtain ⟨o1,o2,o3⟩:=hO;refine jN Tryz.func147 U Tryz.ntmps147 U fun w=>?_;refine aK 2 [] ?_;refine aV 0 U T.zero26 fun b1=>?_;refine aS 12 [] ?_;refine fS U (cQ (cs:=[_,_,_]) T.st267 U U U) ?_;refine Wl.box 1 U U U fun b2=>?_;refine bG 12 [] ?_;refine dK 2 (Row 91 ([]:List I5) []) (dK 3 (Row 52 ([]:List R2) []) ?_);generalize hN:Bn (l.length - 1) l 0=N at *;have hNl:N.length≤16384:=by
  have:=hgood.len;unfold Oi at this;rw [hN,aD] at this;omega
 refine fY (ι:=Nat×List I5×(J0 Addr×Nat×List Value)×List R2×(J0 Addr×Nat×List Value)) (fun (k,cd,(u,d,q),wh,(wa,wd,wq))=>([(25,.int .i64 (k:Int)),(5,.int .i64 l.length),(6,.pointer (some ⟨b2,0,none⟩)),(1,.slice oa o.length oc),(24,Go.Value.int Go.IntKind.i64 (↑(List.length l):Int)),(23,Go.Value.slice a (List.length l) c),(4,Go.Value.pointer (Option.some (Go.Addr.mk b1 0 Option.none)))],[(1,some b2,.cells #[.int .i64 l.length,.slice u cd.length d,.slice wa wh.length wd] 267),(2,u.map (·.block),Row 91 cd q),(3,wa.map (·.block),Row 52 wh wq),(0,Option.some b1,Go.Obj.cells #[Go.Value.int Go.IntKind.i64 0,Go.Value.int Go.IntKind.i64 0,Go.Value.slice Option.none 0 0,Go.Value.slice Option.none 0 0] 26)])) (fun (k,cd,(u,d,q),wh,(wa,wd,wq))=>k≤l.length∧cd++Bn (l.length - 1) (l.drop k) k=N∧A3 u d cd q∧wh=(l.take k).map tX∧A3 wa wd wh wq) (fun (k,cd,(u,d,q),wh,(wa,wd,wq))=>l.length - k) ((0,[],(none,0,[]),[],(none,0,[]))) (⟨aP _,hN,dN,U,dN⟩) ⟨U,U,U,U,U,U,U,I3⟩ ⟨U,U,U,U,I3⟩ fun ⟨k,cd,(u,d,q),wh,(wa,wd,wq)⟩=>fun hk=>?_;obtain ⟨hk1,hk2,hk3,hk4,hk5⟩:=hk;have hcl:cd.length≤16384:=by rw [←hk2,aD] at hNl;omega
 rcases aN k l.length with hkl | hkl
 · obtain ⟨hnk,hzk⟩:=hok k hkl;have hgn:=Gb ⟨hnk,hzk⟩;have hdr:l.drop k=l[(k:Int).toNat]?.getD default :: l.drop (k+1):=by
    rw [dC hkl,aG,aA hkl];rfl
   rw [hdr] at hk2;have hk2:cd++((List.replicate (l.length - 1) (yB (k:Int) (Int.gcd (l[(k:Int).toNat]?.getD default).a (l[(k:Int).toNat]?.getD default).b))).flatten++Bn (l.length - 1) (l.drop (k+1)) (k+1))=N:=hk2;refine aK 14 [1] ?_;refine fS U (lY (α:=R2) T.sl22 U U sV sU) ?_;refine fS U (jK T.agg52 U (nS sV sU) U) ?_;refine aV 4 U T.zero52 fun b3=>?_;refine aS 7 [4,4] ?_;refine oH U T.fn192 U (ed _ _ _ sV sV) ?_;refine bG 20 [] ?_;generalize hpp:l[((k:Nat):Int).toNat]?.getD default=p at *;have hnk:near p.a p.b:=by rw [←hpp];exact hnk
   have hzk:¬(p.a=0∧p.b=0):=by rw [←hpp];exact hzk
   have hgn:1≤Int.gcd p.a p.b∧Int.gcd p.a p.b≤16:=by rw [←hpp];exact hgn
   refine fY (ι:=Nat×List I5×(J0 Addr×Nat×List Value)) (fun (i,ce,(u,d,q))=>([(39,.int .i64 (i:Int)),(25,.int .i64 (k:Int)),(5,.int .i64 l.length),(6,.pointer (some ⟨b2,0,none⟩)),(1,.slice oa o.length oc),(24,.int .i64 l.length),(23,.slice a l.length c),(4,.pointer (some ⟨b1,0,none⟩)),(7,.int .i64 (k:Int)),(8,.pointer (some ⟨b3,0,none⟩)),(9,.int .i64 (Int.gcd p.a p.b)),(38,Go.Value.int Go.IntKind.i64 ((↑(List.length l):Int) - 1))],[(1,some b2,.cells #[.int .i64 l.length,.slice u ce.length d,.slice wa wh.length wd] 267),(2,u.map (·.block),Row 91 ce q),(4,Option.some b3,Go.Obj.cells (List.toArray (Go.Sl.A0.enc p)) 52),(3,Option.map (fun x=>Go.Addr.block x) wa,Go.Sl.Row (α:=Go.Sl.R2) 52 (wh) (wq)),(0,Option.some b1,Go.Obj.cells #[Go.Value.int Go.IntKind.i64 0,Go.Value.int Go.IntKind.i64 0,Go.Value.slice Option.none 0 0,Go.Value.slice Option.none 0 0] 26)])) (fun (i,ce,(u,d,q))=>i≤l.length - 1∧ce++((List.replicate (l.length - 1 - i) (yB (k:Int) (Int.gcd p.a p.b))).flatten++Bn (l.length - 1) (l.drop (k+1)) (k+1))=N∧A3 u d ce q) (fun (i,ce,(u,d,q))=>l.length - 1 - i) ((0,cd,(u,d,q))) (⟨aP _,hk2,hk3⟩) ⟨U,U,U,U,U,U,U,U,U,U,U,U,I3⟩ ⟨U,U,U,U,U,I3⟩ fun ⟨i,ce,(u,d,q)⟩=>fun hk=>?_;obtain ⟨hi1,hi2,hi3⟩:=hk;have hel:ce.length≤16384:=by rw [←hi2,aD] at hNl;omega
   rcases aN i (l.length - 1) with hil | hil
   · have er:l.length - 1 - i=(l.length - 1 - (i+1))+1:=sU;rw [er,kB,mU] at hi2;refine aK 15 [1] ?_;refine fF 1 U T.fn193 U (dt _ b2 _ u d ce q wa _ wd _ _ hi3 sU) (tB ⟨U,U,I3⟩) fun v1 G1 Ho1 hle1 hp=>?_;obtain ⟨rfl,rfl,a1,d1,j1,ho1,rfl⟩:=hp;refine aY 7 [] ?_;refine dW 39 U (show _=Value.int .i64 ((i+1:Nat):Int) from U) ?_;refine gW ((i+1,_,(a1,d1,j1))) ?_ ?_ U ⟨U,U,U,U,U,U,U,U,U,U,U,U,I3⟩ ⟨U,U,U,U,U,I3⟩
     · refine ⟨hil,?_,ho1⟩;rw [←hi2];simp only [bA]
     show l.length - 1 - (i+1)<l.length - 1 - i;omega
   have hil:i=l.length - 1:=sU;have hi2:ce++Bn (l.length - 1) (l.drop (k+1)) (k+1)=N:=by rw [←hi2,hil,iX];rfl
   have hwl:wh.length=k:=by rw [hk4,aT,bM];omega
   have q1:=xO p.a (Int.gcd p.a p.b);have q2:=xO p.b (Int.gcd p.a p.b);have hnk2:=hnk;unfold near at hnk2;refine bJ 12 [0] ?_;refine lO [0,3,4,2,1] [(1,18),(2,15),(3,15)] T.mixed U ?_;refine eT 0 [] sX U U (dF U) ?_;refine eT 1 [] sX U U (dF U) ?_;refine eT 2 [] sX U U (qK U) ?_;refine eT 3 [] sX U U (fT T.fa267_2 U) ?_;refine eT 4 [1] sX U U (jP 1 T.one22 U U U) ?_;refine eT 5 [] sX U U (fT T.fa52_0 U) ?_;refine eT 6 [4] sX U U (jP 4 T.one3 U U U) ?_;refine eT 7 [] sX U U (dF U) ?_;refine eT 8 [] sX U U (nV U U sU sU) ?_;refine eT 9 [] sX U U (fT T.fa52_1 U) ?_;refine eT 10 [4] sX U U (jP 4 T.one3 U U U) ?_;refine eT 11 [] sX U U (dF U) ?_;refine eT 12 [] sX U U (nV U U sU sU) ?_;refine eT 13 [] sX U U (cQ (cs:=[_,_]) T.st52 U U U) ?_;refine jZ 14 ⟨U,U,U,U,U,I3⟩ yF sX U ?_;refine eH (α:=R2) 5 [⟨Int.tdiv (Go.Sl.R2.a p) (↑(Int.gcd (Go.Sl.R2.a p) (Go.Sl.R2.b p)):Int),Int.tdiv (Go.Sl.R2.b p) (↑(Int.gcd (Go.Sl.R2.a p) (Go.Sl.R2.b p)):Int)⟩] U T.sl22 T.el52 U U U U U fun b4=>?_;refine bW ?_;refine jZ 15 ⟨U,U,U,U,U,I3⟩ yF sX U ?_;refine lN (α:=R2) 3 U T.sl22 T.el52 U U U PR (eP 5 U) Vq Vq fun a1 c1 junk1 ho1=>?_;refine bW ?_;refine eT 16 [] sX U U (qK U) ?_;refine eT 17 [] sX U U (fT T.fa267_2 U) ?_;refine jZ 18 ⟨U,U,U,I3⟩ yF sX U ?_;refine Wl.store 1 T.one22 U U U U U ?_;refine bW ?_;refine kO sX ⟨U,U,I3⟩ yF ?_;refine fI 6 [] ?_;refine dW 25 U (show _=Value.int .i64 ((k+1:Nat):Int) from U) ?_;refine gW ((k+1,ce,(u,d,q),wh++[⟨p.a.tdiv (Int.gcd p.a p.b),p.b.tdiv (Int.gcd p.a p.b)⟩],(a1,c1,junk1))) ?_ ?_ U ⟨U,U,U,U,U,U,U,I3⟩ ⟨U,U,U,U,I3⟩
   · refine ⟨hkl,hi2,hi3,?_,ho1⟩;rw [hk4,dA,jV,aA hkl];rw [aG,aA hkl] at hpp;have hpp:l[k]=p:=hpp;rw [hpp];rfl
   show l.length - (k+1)<l.length - k;omega
 have hkl:k=l.length:=sU;subst hkl;rw [nB] at hk2;have hk2:cd=N:=by rw [←hk2];exact (cK _).symm
 rw [bI] at hk4;subst hk4;have hwl:(l.map tX).length=l.length:=aT _;have hwok:∀ i,i<(l.map tX).length→Oz ((l.map tX)[i]?.getD default):=fun i hi=>by
  rw [hwl] at hi;rw [bQ];have:=hok i hi;rw [aA hi] at this ⊢;exact (xR this).2.2.2
 refine nZ 3 U hk5 fun G2 hle2 hw2=>?_;replace ha:=ha.up hle2;replace hoa:=hoa.up hle2;generalize hWh:l.map tX=wh at *;refine rJ 1 (.cells #[.int .i64 l.length,.slice u cd.length d,.slice wa l.length wd] 267) U (by rw [hwl]) ?_;rw [hwl] at hwok;have hgl:(N++(zT l.length wh o++vQ l.length wh o)).length≤16384:=by
  have:=hgood.len;unfold Oi at this;rw [hN,hWh] at this;exact this
 generalize hA:zT l.length wh o=A at *;have hgA:(N++A).length≤16384:=by rw [←bA,aD] at hgl;omega
 refine bJ 21 [0] ?_;refine fY (ι:=Nat×List I5×(J0 Addr×Nat×List Value)) (fun (t,ce,(u,d,q))=>([(67,.int .i64 (t:Int)),(66,Go.Value.int Go.IntKind.i64 (↑(List.length o):Int)),(65,Go.Value.slice oa (List.length o) oc),(5,Go.Value.int Go.IntKind.i64 (↑(List.length l):Int)),(6,Go.Value.pointer (Option.some (Go.Addr.mk b2 0 Option.none))),(1,Go.Value.slice oa (List.length o) oc),(4,Go.Value.pointer (Option.some (Go.Addr.mk b1 0 Option.none)))],[(1,some b2,.cells #[.int .i64 l.length,.slice u ce.length d,.slice wa l.length wd] 267),(2,u.map (·.block),Row 91 ce q),(0,Option.some b1,Go.Obj.cells #[Go.Value.int Go.IntKind.i64 0,Go.Value.int Go.IntKind.i64 0,Go.Value.slice Option.none 0 0,Go.Value.slice Option.none 0 0] 26)])) (fun (t,ce,(u,d,q))=>t≤o.length∧ce++zT l.length wh (o.drop t)=N++A∧A3 u d ce q) (fun (t,ce,(u,d,q))=>o.length - t) ((0,cd,(u,d,q))) (⟨aP _,by rw [hk2,←hA];rfl,hk3⟩) ⟨U,U,U,U,U,U,U,I3⟩ ⟨U,U,U,I3⟩ fun ⟨t,ce,(u,d,q)⟩=>fun hk=>?_;obtain ⟨ht1,ht2,ht3⟩:=hk;have hel:ce.length≤16384:=by rw [←ht2,aD] at hgA;omega
 rcases aN t o.length with hte | hte
 · have hdr:o.drop t=o[(t:Int).toNat]?.getD default :: o.drop (t+1):=by
    rw [dC hte,aG,aA hte];rfl
   rw [hdr] at ht2;have hok2:=o2 (o[(t:Int).toNat]?.getD default) (by rw [aG,aA hte];exact bY _);have hdl:(o.drop (t+1)).length=o.length - ((t:Int)+1).toNat:=BM;have hdA:=TP hoa (t+1) sU hocc;have ht2:ce++(zS l.length wh (o[(t:Int).toNat]?.getD default) (o.drop (t+1)).length (o.drop (t+1))++zT l.length wh (o.drop (t+1)))=N++A:=ht2;have hb:(ce++zS l.length wh (o[(t:Int).toNat]?.getD default) (o.drop (t+1)).length (o.drop (t+1))).length≤1048576:=by
    rw [←ht2,←bA,aD] at hgA;omega
   refine aK 14 [1] ?_;refine fS U (lY (α:=Int) T.sl24 U U sV sU) ?_;refine fS U (eE T.one3 U (jO sV sU 0 U U)) ?_;refine aS 10 [] ?_;refine fS U (WV T.sl24 U U sU sU) ?_;refine aB 4 [] ?_;have et:((t:Int)+1).toNat=t+1:=sU;refine iK 77 U (show _=Value.slice (B7 oa oc (t+1) (A0.sz Int)) (o.drop (t+1)).length (oc - (t+1)) by rw [hdl,et];rfl) ?_;refine iK 81 U (show _=Value.int .i64 ((o.drop (t+1)).length:Nat) by congr 1;rw [hdl,et];omega) ?_;refine fF 1 U T.fn194 U (kp _ l.length b2 u d ce q wa wd wh _ (B7 oa oc (t+1) (A0.sz Int)) _ (o.drop (t+1)).length (o.drop (t+1)) (o.drop (t+1)).length hwl U ht3 hw2 hdA hl15 hok2 (by rw [hdl];omega) (fun i hi=>o2 i (List.mem_of_mem_drop hi)) (by rw [hdl];omega) hwok hb) (tB ⟨U,U,I3⟩) fun v1 G1 Ho1 hle1 hp=>?_;obtain ⟨rfl,rfl,a1,d1,j1,ho1,rfl⟩:=hp;refine aY 7 [] ?_;refine dW 67 U (show _=Value.int .i64 ((t+1:Nat):Int) from U) ?_;refine gW ((t+1,_,(a1,d1,j1))) ?_ ?_ U ⟨U,U,U,U,U,U,U,I3⟩ ⟨U,U,U,I3⟩
   · refine ⟨hte,?_,ho1⟩;rw [←ht2];simp only [bA]
   show o.length - (t+1)<o.length - t;omega
 have hte:t=o.length:=sU;subst hte;rw [nB] at ht2;have ht2:ce=N++A:=by rw [←ht2];exact (cK _).symm
 refine bJ 13 [0] ?_;refine lO [0,2,1] [(2,8),(1,8)] T.mixed U ?_;refine eT 0 [] sX U U (dF U) ?_;refine eT 1 [] sX U U (dF U) ?_;refine eT 3 [] sX U U (dF U) ?_;refine eT 4 [] sX U U (dF U) ?_;refine eT 5 [] sX U U (Qy.sub U U sU) ?_;refine eT 6 [] sX U U (lY (α:=Int) T.sl24 U U sV sU) ?_;refine eT 7 [0] sX U U (eE T.one3 U (jO sV sU 0 U U)) ?_;refine jZ 2 ⟨U,U,U,I3⟩ yF sX U ?_;refine dS 1 U T.fn196 U (My _ b2 _ _ _ _ sU sU) (tB ⟨U,I3⟩) ?_;refine bW ?_;refine jZ 8 ⟨U,U,U,I3⟩ yF sX U ?_;refine fF 1 U T.fn195 U (Hk _ b2 _ u d ce q wa _ wd _ _ _ ht3 sU) (tB ⟨U,U,I3⟩) fun v1 G1 Ho1 hle1 hp=>?_;obtain ⟨rfl,rfl,a1,d1,j1,ho1,rfl⟩:=hp;refine bW ?_;refine kO sX ⟨U,I3⟩ yF ?_;refine oS 10 [] ?_;have hbl:∀ m,(N++A++vQ l.length wh (o.drop m)).length≤16384:=fun m=>by
  have:=Sf l.length wh o m;rw [aD,aD] at hgl;rw [aD,aD];omega
 have hi0:ce++tE ((l.length:Int)+0) (o[((l.length:Int) - 1).toNat]?.getD default) 1=N++A++vQ l.length wh (o.drop (l.length - 1)):=by
  have e1:o.drop (l.length - 1)=[o[l.length - 1]?.getD default]:=by
   rw [dC sU,aA sU,gT sU];rfl
  rw [e1,ht2,dV,show ((l.length:Int) - 1).toNat=l.length - 1 by omega];rfl
 refine kY 15 U (show _=Value.int .i64 (((l.length - 1:Nat):Int) - 1) by congr 1;omega) ?_;refine fY (ι:=Nat×List I5×(J0 Addr×Nat×List Value)) (fun (m,cf,(u,d,q))=>([(15,.int .i64 ((m:Int) - 1)),(5,Go.Value.int Go.IntKind.i64 (↑(List.length l):Int)),(6,Go.Value.pointer (Option.some (Go.Addr.mk b2 0 Option.none))),(1,Go.Value.slice oa (List.length o) oc),(4,Go.Value.pointer (Option.some (Go.Addr.mk b1 0 Option.none)))],[(1,some b2,.cells #[.int .i64 l.length,.slice u cf.length d,.slice wa l.length wd] 267),(2,u.map (·.block),Row 91 cf q),(0,Option.some b1,Go.Obj.cells #[Go.Value.int Go.IntKind.i64 0,Go.Value.int Go.IntKind.i64 0,Go.Value.slice Option.none 0 0,Go.Value.slice Option.none 0 0] 26)])) (fun (m,cf,(u,d,q))=>m≤l.length - 1∧cf=N++A++vQ l.length wh (o.drop m)∧A3 u d cf q) (fun (m,cf,(u,d,q))=>m) ((l.length - 1,_,(a1,d1,j1))) (⟨aH _,hi0,ho1⟩) ⟨U,U,U,U,U,I3⟩ ⟨U,U,U,I3⟩ fun ⟨m,cf,(u,d,q)⟩=>fun hk=>?_;obtain ⟨hm1,hm2,hm3⟩:=hk;rcases fQ m with hm0 | hm0
 · subst hm0;refine aK 17 [0] ?_;refine fS U (kH U U sU) ?_;refine aB 5 [1] ?_;refine fS U (cQ (cs:=[_,_,_,_]) T.st26 U U U) ?_;refine aV 3 U T.zero26 fun b3=>?_;refine bG 11 [3] ?_;refine dK 4 (Row 3 ([]:List Int) []) ?_;have hcf:cf=Oi l o:=by
    rw [hm2,oI];unfold Oi;rw [hN,hWh,hA,bA]
   refine fY (ι:=Nat×(J0 Addr×Nat×List Value)) (fun (t,(x,y,z))=>([(119,.int .i64 (t:Int)),(118,Go.Value.int Go.IntKind.i64 (↑(List.length l):Int)),(16,Go.Value.pointer (Option.some (Go.Addr.mk b3 0 Option.none))),(6,Go.Value.pointer (Option.some (Go.Addr.mk b2 0 Option.none))),(4,Go.Value.pointer (Option.some (Go.Addr.mk b1 0 Option.none)))],[(3,some b3,.cells #[.int .i64 l.length,.int .i64 (3*(l.length:Int)+1),.slice u cf.length d,.slice x (Ge l.length t).length y] 26),(4,x.map (·.block),Row 3 (Ge l.length t) z),(1,Option.some b2,Go.Obj.cells #[Go.Value.int Go.IntKind.i64 (↑(List.length l):Int),Go.Value.slice u (List.length cf) d,Go.Value.slice wa (List.length l) wd] 267),(2,Option.map (fun x=>Go.Addr.block x) u,Go.Sl.Row (α:=Go.Sl.Instr) 91 (cf) (q)),(0,Option.some b1,Go.Obj.cells #[Go.Value.int Go.IntKind.i64 0,Go.Value.int Go.IntKind.i64 0,Go.Value.slice Option.none 0 0,Go.Value.slice Option.none 0 0] 26)])) (fun (t,(x,y,z))=>t≤l.length∧A3 x y (Ge l.length t) z) (fun (t,(x,y,z))=>l.length - t) ((0,(none,0,[]))) (⟨aP _,dN⟩) ⟨U,U,U,U,U,I3⟩ ⟨U,U,U,U,U,I3⟩ fun ⟨t,(x,y,z)⟩=>fun hk=>?_;obtain ⟨hx1,hx2⟩:=hk;have hol:(Ge l.length t).length=t:=OA _ _;rcases aN t l.length with htl | htl
   · refine bJ 17 [1] ?_;refine lO [0,2,1,4,3] [(3,8),(4,6),(2,6)] T.mixed U ?_;refine eT 0 [] sX U U (fT T.fa26_3 U) ?_;refine eT 1 [3] sX U U (jP 3 T.one24 U U U) ?_;refine eT 2 [] sX U U (dF U) ?_;refine eT 3 [] sX U U (dF U) ?_;refine jZ 4 ⟨U,U,U,U,U,I3⟩ yF sX U ?_;refine dS 1 U T.fn196 U (My _ b2 _ _ _ _ sU sU) (tB ⟨U,I3⟩) ?_;refine bW ?_;refine jZ 5 ⟨U,U,U,U,U,I3⟩ yF sX U ?_;refine eH (α:=Int) 5 [((↑(List.length l):Int)+(↑t:Int))] U T.sl24 T.el3 U U U U U fun b4=>?_;refine bW ?_;refine jZ 6 ⟨U,U,U,U,U,I3⟩ yF sX U ?_;refine lN (α:=Int) 4 U T.sl24 T.el3 U U U PR (eP 5 U) Vq Vq fun a2 c2 junk2 ho2=>?_;refine bW ?_;refine eT 7 [] sX U U (fT T.fa26_3 U) ?_;refine jZ 8 ⟨U,U,U,I3⟩ yF sX U ?_;refine Wl.store 3 T.one24 U U U U U ?_;refine bW ?_;refine kO sX ⟨U,U,I3⟩ yF ?_;refine fI 6 [] ?_;refine dW 119 U (show _=Value.int .i64 ((t+1:Nat):Int) from U) ?_;refine iV 3 (.cells #[.int .i64 l.length,.int .i64 (3*(l.length:Int)+1),.slice u cf.length d,.slice a2 (Ge l.length (t+1)).length c2] 26) U (by rw [Iv];rfl) ?_;refine iV 4 (Row 3 (Ge l.length (t+1)) junk2) U (by rw [Iv]) ?_;refine gW ((t+1,(a2,c2,junk2))) ?_ ?_ U ⟨U,U,U,U,U,I3⟩ ⟨U,U,U,U,U,I3⟩
     · exact ⟨htl,by rw [Iv];exact ho2⟩
     show l.length - (t+1)<l.length - t;omega
   have htl:t=l.length:=sU;subst htl;subst hcf;refine bE 19 [0,3,0] ?_;refine lW [2,4,0] tI (cW (.inr U) (Ho:=Hp.only _ [0,1]) U (.agg 2 U U T.agg26) (bH _ _) ?_);exact ⟨u,x,d,y,q,z,U,hm3,hx2,U⟩
 obtain ⟨i,rfl⟩:∃ i,m=i+1:=⟨m - 1,by omega⟩
 refine kY 15 U (show _=Value.int .i64 (i:Int) by congr 1;omega) ?_;have hin:i<o.length:=sU;have hdr:o.drop i=o[(i:Int).toNat]?.getD default :: o.drop (i+1):=by
  rw [dC hin,aG,aA hin];rfl
 have hok2:=o2 (o[(i:Int).toNat]?.getD default) (by rw [aG,aA hin];exact bY _);have hdl:(o.drop (i+1)).length=o.length - (i+1):=eK;have hbk:cf++yC l.length wh (o[(i:Int).toNat]?.getD default) (o.drop (i+1)).length=N++A++vQ l.length wh (o.drop i):=by
  rw [hm2,hdr,Zy _ _ _ sU];simp only [bA]
 have hb:(cf++yC l.length wh (o[(i:Int).toNat]?.getD default) (o.drop (i+1)).length).length≤1048576:=by
  rw [hbk];have:=hbl i;omega
 refine aK 16 [1] ?_;refine fS U (lY (α:=Int) T.sl24 U U sV sU) ?_;refine fS U (eE T.one3 U (jO sV sU 0 U U)) ?_;refine aB 4 [] ?_;refine iK 107 U (show _=Value.int .i64 ((o.drop (i+1)).length:Nat) by congr 1;rw [hdl];omega) ?_;refine fF 1 U T.fn197 U (kq _ l.length b2 u d cf q wa wd wh _ (o.drop (i+1)).length hwl hm3 hw2 hl15 hok2 (by rw [hdl];omega) (by rw [hdl];omega) (hwok _ sU) hb) (tB ⟨U,U,I3⟩) fun v3 G3 Ho3 hle3 hp=>?_;obtain ⟨rfl,rfl,a3,d3,j3,ho3,rfl⟩:=hp;refine aY 8 [] ?_;refine dW 15 U (show _=Value.int .i64 ((i:Int) - 1) from U) ?_;refine gW ((i,_,(a3,d3,j3))) ?_ ?_ U ⟨U,U,U,U,U,I3⟩ ⟨U,U,U,I3⟩
 · exact ⟨by omega,hbk,ho3⟩
 show i<i+1;omega
theorem OB {G:A2} {b:Nat} {cs:List Value} {T:I9} {fz:Nat×Nat} (h:G b=some (.cells cs.toArray T fz)) (k:Nat) {v:Value} (hv:cs[k]?=some v):G.cell b k=some v:=by
 simp only [A2.cell,h];simpa using hv
theorem uc (G:A2) (a:J0 Addr) (n c:Nat):Does Tryz.prog 146 [.slice a n c] G [] (fun v G' Ho=>∃ b,v=.func (.func 191) #[] #[.pointer (some ⟨b,0,none⟩)]∧Ho=[]∧G' b=some (.cells [.slice a n c].toArray 24)):=by
 refine jN Tryz.func146 U Tryz.ntmps146 U fun w=>?_;refine aK 2 [] ?_;refine Wl.box 0 U U U fun b1=>?_;refine aS 5 [] ?_;refine fS U (mO U U) ?_;refine aY 4 [] ?_;refine sT 0 U fun G' hle hb=>?_;refine cW (.inr U) (Ho:=[]) U (.tmp U) I3 ?_;exact ⟨_,U,U,hb⟩
def encI (x:Int):List Value:=[.int .i64 x]
theorem ud (G:A2) (a:J0 Addr) (c:Nat) (xs:List Int) (b:Nat) (hx:Arr G a xs) (hl:xs.length≤1099511627776) (hb:G b=some (.cells [.slice a xs.length c].toArray 24)) :
 Jr Tryz.prog 191 [.pointer (some ⟨b,0,none⟩)] G encI xs:=by
 intro ι J inv stop ly i0 hi0 hY;have hcell:G.cell b 0=some (.slice a xs.length c):=OB hb 0 U;refine jN Tryz.func191 U Tryz.ntmps191 U fun w=>?_;refine Ph 1000 ?_;refine aK 2 [] ?_;refine fS U (eE T.one24 U sV) ?_;refine bG 5 [] ?_;refine BX (ι:=Nat×ι) 1000 (fun (m,s)=>([(7,.int .i64 (m:Int)),(6,.int .i64 (xs.length:Int)),(5,.slice a (List.length xs) c),(0,.func (Go.Fn.yield ly) #[] #[])],[])) (fun (m,s)=>J s) (fun (m,s)=>m≤xs.length∧inv m s) (fun (m,s)=>xs.length - m) ((0,i0)) (⟨aP _,hi0⟩) ⟨U,U,U,U,I3⟩ I3 Al fun ⟨m,s⟩=>fun hk=>?_;obtain ⟨hm1,hinv⟩:=hk;refine bJ 6 [] ?_;refine oA U (fun hc1=>?_) fun hc1=>?_;refine aK 6 [] ?_;refine fS U (lY (α:=Int) T.sl24 U U sV sU) ?_;refine fS U (eE T.one3 U (jO sV sU 0 U U)) ?_;refine aS 7 [] ?_;rotate_left;refine bE 4 [] ?_;rotate_left
 · have hml:m<xs.length:=sU;have hbx:xs[m]?=some (xs[(m:Int).toNat]?.getD default):=by
    rw [aG,aA hml];rfl
   refine Lx (A:=[]) 1000 U U U I3 Al U (hY m _ s hbx hinv) fun vy Gy Hy hly hp=>?_;obtain ⟨rfl,s',rfl,hp⟩:=hp;rcases hp with ⟨rfl,hinv'⟩ | ⟨rfl,hst⟩
   · refine aY 11 [0] ?_;refine dW 7 U (show _=Value.int .i64 ((m+1:Nat):Int) from U) ?_;refine Iu ((m+1,s')) ?_ ?_ U ⟨U,U,U,U,I3⟩ I3 Al
     · exact ⟨hml,hinv'⟩
     show xs.length - (m+1)<xs.length - m;omega
   refine aY 9 [1] ?_;refine pB (k:=1000) (.inr U) U Al ⟨U,s',U,.inr hst⟩
 have hm:m=xs.length:=sU;subst hm;refine pB (k:=1000) (.inl U) U Al ⟨U,s,U,.inl hinv⟩
theorem ue (G:A2) (a:J0 Addr) (c:Nat) (xs:List Int) (b:Nat) (hx:Arr G a xs) (hl:xs.length≤1048576) (hb:G b=some (.cells [.slice a xs.length c].toArray 24)) :
 Does Tryz.prog 224 [.slice none 0 0,.func (.func 191) #[] #[.pointer (some ⟨b,0,none⟩)]] G [] (fun v G' Ho=>∃ (o:J0 Addr) (d:Nat) (j:List Value),v=.slice o xs.length d∧A3 o d xs j∧Ho=[(0,o.map (·.block),Row 3 xs j)]∧G'=G):=by
 refine nQ Tryz.func224 U Tryz.ntmps224 U fun w=>?_;refine aK 2 [] ?_;refine Wl.box 0 U U U fun b1=>?_;refine bG 10 [] ?_;refine dK 1 (Row 3 ([]:List Int) []) ?_;refine pR (ι:=List Int×(J0 Addr×Nat×List Value)) 900 901 (fun (ys,(o,d,j))=>[(0,some b1,.cells #[.slice o ys.length d] 24),(1,o.map (·.block),Row 3 ys j)]) (fun k (ys,(o,d,j))=>ys=xs.take k∧A3 o d ys j) (fun c (ys,(o,d,j))=>False) (([],(none,0,[]))) U T.fn191 (fun _=>rfl) U (ud _ a c xs b hx sU hb) (⟨U,dN⟩) (oM ⟨U,U,I3⟩) ⟨U,fun _=>rfl⟩ (fun k x ⟨ys,(o,d,j)⟩ l dd q w0 hx hi=>?_) (fun ⟨ys,(o,d,j)⟩ dd hi=>?_) fun ⟨ys,(o,d,j)⟩ dd c hi=>?_
 · obtain ⟨hy,ho⟩:=hi;have hkl:k<xs.length:=(aW.1 hx).1;have hyl:ys.length=k:=by rw [hy,bM];omega
   refine bE 3 [] ?_;refine qX 900 U ?_;refine aK 4 [0] ?_;refine eH (α:=Int) 902 [(x)] U T.sl24 T.el3 U U U U U fun b2=>?_;refine lN (α:=Int) 1 U T.sl24 T.el3 U U U PR (eP 902 U) Vq Vq fun a1 c1 junk1 ho1=>?_;refine aY 3 [0] ?_;refine kF none (.inl ⟨U,U⟩) 900 U ⟨U,((ys++[x],(a1,c1,junk1)),none),U,.inl ⟨U,U,?_⟩⟩ (oM ⟨U,U,U,U,I3⟩);refine ⟨?_,ho1⟩;rw [dA,hx,hy];rfl
 · obtain ⟨hy,ho⟩:=hi;rw [bI] at hy;subst hy;refine fI 9 [0] ?_;refine nH (.inr U) 901 U ?_;refine nT (.inr U) ?_;refine qE (lW [1] tI (cW (.inr U) U (.tmp U) (lI 0 _) ?_));exact ⟨_,_,_,U,ho,U,U⟩
 exact hi.elim
theorem uf (G:A2) (a:J0 Addr) (c:Nat) (xs:List Int) (b:Nat) (hx:Arr G a xs) (hl:xs.length≤1048576) (hb:G b=some (.cells [.slice a xs.length c].toArray 24)) :
 Does Tryz.prog 189 [.func (.func 191) #[] #[.pointer (some ⟨b,0,none⟩)]] G [] (fun v G' Ho=>∃ (o:J0 Addr) (d:Nat) (j:List Value),v=.slice o xs.length d∧A3 o d xs j∧Ho=[(0,o.map (·.block),Row 3 xs j)]∧G'=G):=by
 refine jN Tryz.func189 U Tryz.ntmps189 U fun w=>?_;refine aK 8 [] ?_;refine cU 0 U (ue _ a c xs b hx hl hb) fun v1 G1 Ho1 hle1 hp=>?_;obtain ⟨o1,d1,j1,rfl,ho1,rfl,rfl⟩:=hp;refine aY 4 [] ?_;refine cW (.inr U) (Ho:=Hp.only _ [0]) U (.tmp U) (bH _ _) ?_;exact ⟨_,_,_,U,ho1,U,U⟩
def Ib (xs:List Int):List Int:=xs.mergeSort fun x y=>decide (x≤y)
theorem zD (xs:List Int):(Ib xs).length=xs.length:=List.length_mergeSort xs
theorem ug (G:A2) (a:J0 Addr) (c:Nat) (xs:List Int) (b:Nat) (hx:Arr G a xs) (hl:xs.length≤1048576) (hb:G b=some (.cells [.slice a xs.length c].toArray 24)) :
 Does Tryz.prog 145 [.func (.func 191) #[] #[.pointer (some ⟨b,0,none⟩)]] G [] (fun v G' Ho=>∃ (o:J0 Addr) (d:Nat),v=.slice o (Ib xs).length d∧Arr G' o (Ib xs)∧(Ib xs).length≤d∧Ho=[]):=by
 refine jN Tryz.func145 U Tryz.ntmps145 U fun w=>?_;refine aK 8 [] ?_;refine cU 0 U (uf _ a c xs b hx hl hb) fun v1 G1 Ho1 hle1 hp=>?_;obtain ⟨o1,d1,j1,rfl,ho1,rfl,rfl⟩:=hp;refine aS 6 [] ?_;rcases ho1 with ⟨rfl,rfl,rfl,rfl⟩ | ⟨bb,rfl,h2,h3,h4⟩
 · refine cZ U (kj _ _) ?_;refine aY 9 [] ?_;refine cW (.inr U) (Ho:=[]) U (.tmp U) I3 ?_;exact ⟨none,0,by rw [zD],by rw [dT (zD [])];exact fG _,mT (zD []),U⟩
 refine cU 0 U (tr _ bb d1 xs j1 sU) fun v2 G2 Ho2 hle2 hp=>?_;obtain ⟨rfl,rfl,rfl⟩:=hp;refine aY 9 [] ?_;have hoS:A3 (some ⟨bb,0,none⟩) d1 (Ib xs) j1:=.inr ⟨bb,U,by rw [zD];exact h2,by rw [zD];exact h3,h4⟩;refine fO 0 U hoS fun G8 hle8 hA8=>?_;refine cW (.inr U) (Ho:=[]) U (.tmp U) I3 ?_;exact ⟨_,_,by rw [zD],hA8,by rw [zD];exact h3,U⟩
theorem Nb (n:Nat):(xF n).Pairwise (·<·):=by
 unfold xF;rw [List.pairwise_map];exact List.Pairwise.imp (fun h=>by omega) List.pairwise_lt_range
theorem Pu (n:Nat) (x:Int):x∈xF n↔0≤x∧x<n:=by
 unfold xF;rw [cT];constructor
 · rintro ⟨k,hk,rfl⟩;have:=jD.1 hk;omega
 intro h;exact ⟨x.toNat,jD.2 sU,by omega⟩
theorem HV (o:List Int) (n:Nat):Ib o=xF n↔Ey o n:=by
 have hnd:(xF n).Nodup:=(Nb n).imp (fun h=>by omega);have hp:(Ib o).Perm o:=List.mergeSort_perm o _;constructor
 · intro h;rw [h] at hp;refine ⟨by rw [←hp.length_eq,Pp],fun x hx=>(Pu n x).1 (hp.mem_iff.2 hx),hp.nodup_iff.1 hnd⟩
 rintro ⟨h1,h2,h3⟩;have hm:∀ x,x∈o↔x∈xF n:=fun x=>by
  refine ⟨fun hx=>(Pu n x).2 (h2 x hx),fun hx=>cV fun hno=>?_⟩;have:=List.Nodup.length_le_of_subset (iC.2 ⟨hno,h3⟩) (l₂:=xF n) (fun y hy=>by
   rcases dD.1 hy with rfl | hy
   · exact hx
   exact (Pu n y).2 (h2 y hy))
  rw [aU,Pp] at this;omega
 have hperm:(Ib o).Perm (xF n):=hp.trans ((List.perm_ext_iff_of_nodup h3 hnd).2 hm);exact List.Perm.eq_of_pairwise (le:=fun a b:Int=>a≤b) (fun a b _ _ h1 h2=>by omega) (NZ o) ((Nb n).imp (fun h=>by omega)) hperm
theorem uh (G:A2) (a b:J0 Addr) (c d:Nat) (xs ys:List Int) (hx:Arr G a xs) (hy:Arr G b ys) (hl:xs.length≤1048576) :
 Does Tryz.prog 86 [.slice a xs.length c,.slice b ys.length d] G [] (fun v G' Ho=>v=.bool (decide (xs=ys))∧G'=G∧Ho=[]):=by
 refine jN Tryz.func86 U Tryz.ntmps86 U fun w=>?_;refine bJ 15 [] ?_;refine oA U (fun hc1=>?_) fun hc1=>?_;refine bE 7 [] ?_;refine cG ?_;rotate_left;refine bJ 11 [] ?_;rotate_left
 · refine ⟨?_,U,U⟩;congr 1;refine (bN fun h=>hc1 ?_).symm;rw [h]
 have hle:xs.length=ys.length:=cV fun h=>hc1 sU;refine fY (ι:=Nat) (fun k=>([(13,.int .i64 (k:Int)),(12,.int .i64 (xs.length:Int)),(0,.slice a (List.length xs) c),(1,.slice b (List.length ys) d)],[])) (fun k=>k≤xs.length∧(∀ i,i<k→xs[i]?.getD default=ys[i]?.getD default)) (fun k=>xs.length - k) (0) (⟨aP _,fun i h=>absurd h sU⟩) ⟨U,U,U,U,I3⟩ I3 fun k=>fun hk=>?_;obtain ⟨hk1,hk2⟩:=hk;rcases aN k xs.length with hkl | hkl
 · refine bJ 18 [1] ?_;refine lO [] [] T.mixed U ?_;refine Gm.c 0 [] [] ?_;refine Gm.c 1 [] [] ?_;refine fH 2 [] U (lY (α:=Int) T.sl24 U U sV sU) ?_;refine fH 3 [] U (eE T.one3 U (jO sV sU 0 U U)) ?_;refine Gm.c 4 [] [] ?_;refine Gm.c 5 [] [] ?_;refine fH 6 [] U (lY (α:=Int) T.sl24 U U sV sU) ?_;refine fH 7 [] U (eE T.one3 U (jO sV sU 0 U U)) ?_;refine Gm.c 8 [] [] ?_;refine eU ?_;refine cH ?_;refine oA U (fun hc2=>?_) fun hc2=>?_;refine bE 11 [] ?_;refine cG ?_;rotate_left;refine bE 7 [] ?_;rotate_left
   · refine ⟨?_,U,U⟩;congr 1;refine (bN fun h=>hc2 ?_).symm;rw [h]
   refine dW 13 U (show _=Value.int .i64 ((k+1:Nat):Int) from U) ?_;refine gW (k+1) ?_ ?_ U ⟨U,U,U,U,I3⟩ I3
   · refine ⟨hkl,fun i hi=>?_⟩;rcases aN i k with h | h
     · exact hk2 i h
     have e:i=k:=sU;subst e;exact cV fun h=>hc2 h
   show xs.length - (k+1)<xs.length - k;omega
 refine bE 18 [0] ?_;refine cG ?_;refine ⟨?_,U,U⟩;congr 1;refine (cL ?_).symm;apply gS hle;intro i h1 h2;have:=hk2 i sU;rw [aA h1,aA h2] at this;exact this
theorem uj (G:A2) (a:J0 Addr) (c:Nat) (l:List R2) (oa:J0 Addr) (oc:Nat) (o:List Int) (ha:Arr G a l) (hoa:Arr G oa o) (hac:l.length≤c) (hocc:o.length≤oc) (hR:uO l) (hO:Ey o l.length) :
 Does Tryz.prog 91 [.slice a l.length c,.slice oa o.length oc] G [] (fun v G' Ho=>∃ (bc bo:J0 Addr) (dc do_:Nat) (j1 j2:List Value),v=.tuple #[.agg #[.int .i64 (tK l o).ins,.int .i64 (tK l o).regs,.slice bc (tK l o).code.length dc,.slice bo (tK l o).outs.length do_],.int .i64 0]∧A3 bc dc (tK l o).code j1∧A3 bo do_ (tK l o).outs j2∧
  Ho=[(0,bc.map (·.block),Row 91 (tK l o).code j1),(1,bo.map (·.block),Row 3 (tK l o).outs j2)]):=by
 have hl15:=hR.2.1;have hol:o.length≤1048576:=by rw [hO.1];omega
 refine jN Tryz.func91 U Tryz.ntmps91 U fun w=>?_;refine aK 2 [] ?_;refine aV 0 U T.zero26 fun b1=>?_;refine aS 7 [] ?_;refine cZ U (jz _ _ _ l sV sU hac hR) ?_;refine aB 5 [] ?_;refine cU 1 U (uc _ _ _ _) fun v1 G1 Ho1 hle1 hp=>?_;obtain ⟨vb1,rfl,rfl,hvb1⟩:=hp;replace ha:=ha.up hle1;replace hoa:=hoa.up hle1;refine pP U U ?_;refine cU 1 U (ug _ oa oc o vb1 hoa hol hvb1) fun v2 G2 Ho2 hle2 hp=>?_;obtain ⟨so2,sd2,rfl,hs2,hsd2,rfl⟩:=hp;replace ha:=ha.up hle2;replace hoa:=hoa.up hle2;refine aB 5 [] ?_;refine cU 1 U (c92 _ l.length sU) fun v3 G3 Ho3 hle3 hp=>?_;obtain ⟨na3,nc3,rfl,hna3,hnc3,rfl⟩:=hp;replace hs2:=hs2.up hle3;replace ha:=ha.up hle3;replace hoa:=hoa.up hle3;refine pP U U ?_;refine cZ U (uh _ so2 na3 _ _ (Ib o) (xF l.length) hs2 hna3 (by rw [zD];exact hol)) ?_;refine pP U U ?_;refine fS U (eJ U) ?_;refine bG 3 [] ?_;refine oA U (fun hc1=>?_) fun hc1=>?_;refine aK 2 [] ?_;refine fS U (cQ (cs:=[_,_,_,_]) T.st26 U U U) ?_;refine aY 6 [0] ?_;rotate_left;refine aK 6 [] ?_;rotate_left;skip;have hso:=HV o l.length;have hne:Ib o=xF l.length:=hso.2 hO;skip
 · exact absurd hne hc1
 refine cU 1 U (ua _ a c l oa oc o ha hoa hac hocc hR hO) fun v4 G4 Ho4 hle4 hp=>?_;obtain ⟨bc4,bo4,dc4,dd4,j4,z4,rfl,ho4,hp4,rfl⟩:=hp;refine aY 5 [0] ?_;refine lW [1,2,0] tI (gD (.inr U) (Ho:=Hp.only _ [0,1]) U (.agg 2 U U T.agg26) (.tmp U) (bH _ _) ?_);exact ⟨_,_,_,_,_,_,U,ho4,hp4,U⟩
theorem Ha (n:Nat):Ey (xF n) n:=⟨Pp n,fun x hx=>(Pu n x).1 hx,(Nb n).imp (fun h=>by omega)⟩
theorem uk (G:A2) (a:J0 Addr) (c:Nat) (l:List R2) (ha:Arr G a l) (hac:l.length≤c) (hR:uO l) :
 Does Tryz.prog 44 [.slice a l.length c] G [] (fun v G' Ho=>∃ (bc bo:J0 Addr) (dc do_:Nat) (j1 j2:List Value),v=.tuple #[.agg #[.int .i64 (tK l (xF l.length)).ins,.int .i64 (tK l (xF l.length)).regs,.slice bc (tK l (xF l.length)).code.length dc,.slice bo (tK l (xF l.length)).outs.length do_],.int .i64 0]∧A3 bc dc (tK l (xF l.length)).code j1∧A3 bo do_ (tK l (xF l.length)).outs j2∧
  Ho=[(0,bc.map (·.block),Row 91 (tK l (xF l.length)).code j1),(1,bo.map (·.block),Row 3 (tK l (xF l.length)).outs j2)]):=by
 have hl15:=hR.2.1;refine jN Tryz.func44 U Tryz.ntmps44 U fun w=>?_;refine aK 2 [] ?_;refine aV 0 U T.zero26 fun b1=>?_;refine aS 8 [] ?_;refine cU 1 U (c92 _ l.length sU) fun v1 G1 Ho1 hle1 hp=>?_;obtain ⟨na1,nc1,rfl,hna1,hnc1,rfl⟩:=hp;replace ha:=ha.up hle1;refine cU 1 U (uj _ a c l na1 nc1 (xF l.length) ha hna1 hac hnc1 hR (Ha l.length)) fun v2 G2 Ho2 hle2 hp=>?_;obtain ⟨bc2,bo2,dc2,dd2,j2,z2,rfl,ho2,hp2,rfl⟩:=hp;replace hna1:=hna1.up hle2;replace ha:=ha.up hle2;refine aY 7 [0] ?_;refine lW [1,2,0] tI (gD (.inr U) (Ho:=Hp.only _ [0,1]) U (.agg 2 U U T.agg26) (.tmp U) (bH _ _) ?_);exact ⟨_,_,_,_,_,_,U,ho2,hp2,U⟩
theorem YV {t:Tab} {regs:Int} {i:I5} (n:Int) (o:List I5) (hs:D4 t regs) (hm:tH i regs=true) :
 D4 (tP (t,o) n i).1 regs∧((tP (t,o) n i).2=o∨∃ j,(tP (t,o) n i).2=o++[j]∧tH j regs=true):=by
 obtain ⟨m1,m2,m3,m4,m5⟩:=tZ hm;obtain ⟨s1,s2⟩:=Kb hs n i m3;have hh:=Dc t n i;have hset:∀ k:Nat,D4 { (reckonP t n i).2 with held:=(reckonP t n i).2.held.set k (reckonP t n i).1.1 } regs:=fun k =>
  ⟨JO s1.len,fun x hx=>by
   rcases eM hx with h | h
   · exact s1.held x h
   rw [h];exact s2,s1.known⟩
 by_cases hsame:(reckonP t n i).2.held[(askedP (reckonP t n i).2.held i).to.toNat]?.getD default=(reckonP t n i).1.1
 · rw [Hu hsame];exact ⟨s1,.inl U⟩
 by_cases hmv:0≤holder (reckonP t n i).2.held (reckonP t n i).1.1
 · rw [Hw hsame hmv];exact ⟨hset _,.inr ⟨_,U,Gu (.inl U) m2 ⟨hmv,by have:=(Dd hmv).1;rw [s1.len] at this;exact this⟩⟩⟩
 rw [Hx hsame hmv];refine ⟨hset _,.inr ⟨_,U,?_⟩⟩;rw [hh];have:=(NB (l:=t.held) (i:=i) (by rw [hs.len];exact hm)).2.2;rw [hs.len] at this;exact this
theorem Zz {p:PV} (h:sW p=true):∀ k:Nat,k≤p.code.length→D4 (uC p k).1 p.regs∧(uC p k).2.length≤k∧∀ i∈(uC p k).2,tH i p.regs=true
 | 0,_=>⟨Oc ⟨(sZ h).1,(sZ h).2.1⟩,aH _,fun i hi=>by cases hi⟩
 | k+1,hk=>by
   obtain ⟨h1,h2,h3⟩:=Zz h k sU;have hm:tH (p.code[(k:Int).toNat]?.getD default) p.regs=true:=by
    rw [aG,aA sU];exact (sZ h).2.2.2.2.2.2.2 _ (bY _)
   obtain ⟨s1,s2⟩:=YV (k:Int) (uC p k).2 h1 hm;show D4 (tP (uC p k) k _).1 p.regs∧(tP (uC p k) k _).2.length≤k+1∧∀ i∈(tP (uC p k) k _).2,tH i p.regs=true;rcases s2 with e | ⟨j,e,hj⟩
   · refine ⟨s1,?_,fun i hi=>?_⟩
     · rw [show tP (uC p k) k _=tP ((uC p k).1,(uC p k).2) k _ from rfl,e];omega
     rw [show tP (uC p k) k _=tP ((uC p k).1,(uC p k).2) k _ from rfl,e] at hi;exact h3 i hi
   refine ⟨s1,?_,fun i hi=>?_⟩
   · rw [show tP (uC p k) k _=tP ((uC p k).1,(uC p k).2) k _ from rfl,e,aD];simp only [aU,cD];omega
   rw [show tP (uC p k) k _=tP ((uC p k).1,(uC p k).2) k _ from rfl,e] at hi;rcases dR.1 hi with hi | hi
   · exact h3 i hi
   rw [eD.1 hi];exact hj
theorem EK {p:PV} (h:sW p=true):sW (yJ p)=true:=by
 obtain ⟨r1,r2,r3,r4,r5,r6,r7,r8⟩:=sZ h;obtain ⟨h1,h2,h3⟩:=Zz h _ (aH _);have hl:(yJ p).outs.length=p.outs.length:=by show (wL _ _).length=_;unfold wL;rw [aT]
 refine Mr ⟨r1,r2,r3,bP h2 r4,by rw [hl];exact r5,by rw [hl];exact r6⟩ (fun r hr=>?_) h3;obtain ⟨x,hx,rfl⟩:=cT.1 (show r∈wL p (uC p p.code.length).1.held from hr);have:=Ac (l:=(uC p p.code.length).1.held) (r:=x) (by rw [h1.len];exact r7 x hx);rw [h1.len] at this;exact ⟨this.1,this.2.1⟩
theorem EL {G:A2} {b:Nat} {cs:List Value} {T:I9} {fz:Nat×Nat} (h:G b=some (.cells cs.toArray T fz)) (k:Nat) {v:Value} (hv:cs[k]?=some v):G.cell b k=some v:=by
 simp only [A2.cell,h];simpa using hv
theorem KO {G:A2} {b:Nat} {cs:List Value} {T:I9} {fz:Nat×Nat} (h:G b=some (.cells cs.toArray T fz)):G.row b 0 cs:=by
 intro i v hi;simp only [A2.cell,h,cP];simpa using hi
def Sg (xs:List I5):List (Int×I5):=(List.range xs.length).map fun j=>(((xs.length - 1 - j:Nat):Int),xs[xs.length - 1 - j]?.getD default)
def kv (x:Int×I5):List Value:=[.int .i64 x.1,.agg (A0.enc x.2).toArray]
theorem Ec (xs:List I5):(Sg xs).length=xs.length:=by simp [Sg]
theorem Nc (xs:List I5) {j:Nat} (h:j<xs.length):(Sg xs)[j]?=some (((xs.length - 1 - j:Nat):Int),xs[xs.length - 1 - j]?.getD default):=by simp [Sg,h]
def vL (l:List Bool) (rs:List Int):List Bool:=rs.foldl (fun l r=>l.set r.toNat true) l
theorem xS (l:List Bool) (rs:List Int):(vL l rs).length=l.length:=by
 unfold vL;induction rs generalizing l with
 | nil=>rfl
 | cons r rs ih=>simp only [List.foldl_cons];rw [ih,aI]
theorem Dg (l:List Bool) (rs:List Int) {k:Nat} (h:k<rs.length):vL l (rs.take (k+1))=(vL l (rs.take k)).set (rs[((k:Nat):Int).toNat]?.getD default).toNat true:=by
 unfold vL;rw [dA,List.foldl_append,aG,aA h];rfl
def yL (s:List Bool×List Bool) (k:Int) (i:I5):List Bool×List Bool:=
 if s.1[i.to.toNat]?.getD default=true then (vL (s.1.set i.to.toNat false) (tM i),s.2.set k.toNat true) else s
def Ae (p:PV):Nat→List Bool×List Bool
 | 0=>(vL (List.replicate p.regs.toNat false) p.outs,List.replicate p.code.length false)
 | j+1=>yL (Ae p j) ((p.code.length - 1 - j:Nat):Int) (p.code[p.code.length - 1 - j]?.getD default)
def tC (p:PV):List Bool:=(Ae p p.code.length).2
theorem wX (p:PV) (j:Nat):(Ae p j).1.length=p.regs.toNat∧(Ae p j).2.length=p.code.length:=by
 induction j with
 | zero=>simp [Ae,xS]
 | succ j ih =>
   simp only [Ae,yL];split
   · simp [xS,ih]
   exact ih
theorem Pv {i:I5} {regs:Int} (h:tH i regs=true):∀ r∈tM i,0≤r∧r<regs:=by
 unfold tH at h;simp only [aF,dQ,aO] at h;exact h.2
def wE (p:PV):Nat→List I5
 | 0=>[]
 | k+1=>if (tC p)[((k:Nat):Int).toNat]?.getD default=true∧¬((p.code[((k:Nat):Int).toNat]?.getD default).op=1∧(p.code[((k:Nat):Int).toNat]?.getD default).to=(p.code[((k:Nat):Int).toNat]?.getD default).a)
  then wE p k++[p.code[((k:Nat):Int).toNat]?.getD default] else wE p k
theorem Iw (p:PV) (k:Nat):(wE p k).length≤k:=by
 induction k with
 | zero=>simp [wE]
 | succ k ih =>
   simp only [wE];split
   · rw [aD];simp only [aU,cD];omega
   omega
def Bi (p:PV):PV:=⟨p.ins,p.regs,wE p p.code.length,p.outs⟩
def wR (i:I5):Prop:=i.op=1∧i.to=i.a
instance (i:I5):Decidable (wR i):=inferInstanceAs (Decidable (_∧_))
theorem Ix (p:PV):∀ k,k≤p.code.length→∀ i∈wE p k,i∈p.code
 | 0,_,i,h=>by simp [wE] at h
 | k+1,hk,i,h=>by
   have hlt:k<p.code.length:=sU;have hel:p.code[(k:Int).toNat]?.getD default∈p.code:=by rw [aG,aA hlt,dI];exact bY _
   simp only [wE] at h;split at h
   · rw [dR,eD] at h;rcases h with h | h
     · exact Ix p k sU i h
     rw [h];exact hel
   exact Ix p k sU i h
theorem EM {q:PV} (h:1≤q.ins∧q.ins≤q.regs∧q.regs≤128∧q.code.length≤16384∧1≤q.outs.length∧q.outs.length≤128) (ho:∀ r∈q.outs,0≤r∧r<q.regs) (hc:∀ i∈q.code,tH i q.regs=true):sW q=true:=by
 have h1:vJ q=true:=by
  unfold vJ;rw [aF,aO,dQ];exact ⟨by omega,fun r hr=>by rw [aO];exact ho r hr⟩
 have h2:Cb q=none:=by
  unfold Cb;rw [gB];intro i hi;rw [hc i hi];rfl
 unfold sW uH;rw [aC (by rw [h1];decide),h2];rfl
theorem Sh {p:PV} (h:sW p=true):sW (Bi p)=true:=by
 obtain ⟨r1,r2,r3,r4,r5,r6,r7,r8⟩:=sZ h;have hl:=Iw p p.code.length;exact EM ⟨r1,r2,r3,by show (wE p p.code.length).length≤16384;omega,r5,r6⟩ r7 (fun i hi=>r8 i (Ix p _ (aH _) i hi))
def nf (p:PV):List I5→List Bool×List Bool
 | []=>(vL (List.replicate p.regs.toNat false) p.outs,[])
 | i :: l=>if (nf p l).1[i.to.toNat]?.getD default=true then (vL ((nf p l).1.set i.to.toNat false) (tM i),true :: (nf p l).2) else ((nf p l).1,false :: (nf p l).2)
theorem TQ (p:PV) (l:List I5):(nf p l).1.length=p.regs.toNat∧(nf p l).2.length=l.length:=by
 induction l with
 | nil=>simp [nf,xS]
 | cons i l ih =>
   simp only [nf];split
   · simp [xS,ih]
   simp [ih]
theorem Xi (p:PV):∀ j,j≤p.code.length→Ae p j=((nf p (p.code.drop (p.code.length - j))).1,List.replicate (p.code.length - j) false++(nf p (p.code.drop (p.code.length - j))).2)
 | 0,_=>by simp [Ae,nf]
 | j+1,hj=>by
   have ih:=Xi p j sU;obtain ⟨k,hk⟩:∃ k,k=p.code.length - (j+1):=⟨_,U⟩
   have hk1:p.code.length - j=k+1:=sU;have hk2:p.code.length - 1 - j=k:=sU;have hlt:k<p.code.length:=sU;rw [hk1] at ih;rw [←hk];have hd:p.code.drop k=p.code[k]?.getD default :: p.code.drop (k+1):=by
    rw [aA hlt,dI];exact dC hlt
   show yL (Ae p j) ((p.code.length - 1 - j:Nat):Int) (p.code[p.code.length - 1 - j]?.getD default)=_;rw [hk2,ih,hd];generalize p.code[k]?.getD default=i;generalize p.code.drop (k+1)=l;unfold yL;simp only [nf];rw [List.replicate_succ'];split
   · simp only [aG];rw [bA,List.set_append_right _ _ tW];simp
   simp
theorem Xj (p:PV):tC p=(nf p p.code).2:=by
 unfold tC;rw [Xi p p.code.length (aH _)];simp
def AA (x:I5×Bool):J0 Sl.Instr:=if x.2=true∧¬wR x.1 then some x.1 else none
theorem Si {i:I5} {b:Bool} (h:b=true∧¬wR i):AA (i,b)=some i:=aE h
theorem Iy {i:I5} {b:Bool} (h:¬(b=true∧¬wR i)):AA (i,b)=none:=aC h
def Ks (p:PV) (l:List I5):List Sl.Instr:=(l.zip (nf p l).2).filterMap AA
theorem Sj (p:PV):∀ k,k≤p.code.length→wE p k=((p.code.take k).zip ((tC p).take k)).filterMap AA
 | 0,_=>by simp [wE]
 | k+1,hk=>by
   have hlt:k<p.code.length:=sU;have hnl:(tC p).length=p.code.length:=(wX p _).2;have hlt2:k<(tC p).length:=sU;have e1:p.code.take (k+1)=p.code.take k++[p.code[(k:Int).toNat]?.getD default]:=by
    rw [dA,aG,aA hlt];rfl
   have e2:(tC p).take (k+1)=(tC p).take k++[(tC p)[(k:Int).toNat]?.getD default]:=by
    rw [dA,aG,aA hlt2];rfl
   rw [e1,e2,List.zip_append (by simp;omega),List.filterMap_append,←Sj p k sU];simp only [mF,List.zip_nil_right,List.filterMap_cons,List.filterMap_nil];by_cases h:(tC p)[((k:Nat):Int).toNat]?.getD default=true∧¬wR (p.code[((k:Nat):Int).toNat]?.getD default)
   · rw [Si h];exact aE h
   rw [Iy h];show wE p (k+1)=wE p k++[];rw [cK];exact aC h
theorem OC (p:PV):(Bi p).code=Ks p p.code:=by
 show wE p p.code.length=_;have hnl:(tC p).length=p.code.length:=(wX p _).2;rw [Sj p _ (aH _),bI,←hnl,bI,Xj];rfl
def At (outs:List Int) (r:Int):List (I5×Bool)→Bool
 | []=>decide (r∈outs)
 | (i,b) :: l=>(b && decide (r∈tM i)) || (!decide (i.to=r) && At outs r l)
theorem Iz:∀ (rs:List Int) (l:List Bool) (k:Nat),k<l.length→(∀ r∈rs,0≤r)→(vL l rs)[k]?.getD default=(l[k]?.getD default || decide ((k:Int)∈rs))
 | [],l,k,hk,_=>by simp [vL]
 | r :: rs,l,k,hk,hr=>by
   have ih:=Iz rs (l.set r.toNat true) k (by simpa using hk) (fun x hx=>hr x (by simp [hx]));have e:vL l (r :: rs)=vL (l.set r.toNat true) rs:=rfl;rw [e,ih,cE];have h0:=hr r tW;by_cases h:r.toNat=k
   · have h1:(k:Int)=r:=sU;have h2:(k:Int)∈r :: rs:=by rw [h1];simp
     rw [aE h,aE (by omega),cL h2];simp
   have h1:(k:Int)≠r:=sU;rw [aC h];simp [h1]
theorem TR {i:I5} {regs:Int} (h:tH i regs=true):∀ r∈tM i,0≤r:=fun r hr=>(Pv h r hr).1
theorem Sk {A:List Bool} {i:I5} {regs:Int} (hA:(A.length:Int)=regs) (hm:tH i regs=true) {r:Int} (hr:0≤r∧r<regs) :
 (vL (A.set i.to.toNat false) (tM i))[r.toNat]?.getD default=(decide (r∈tM i) || (!decide (i.to=r) && A[r.toNat]?.getD default)):=by
 have hto:0≤i.to∧i.to<regs:=by rw [tS] at hm;exact ⟨hm.1.2.2.1,hm.1.2.2.2.1⟩
 rw [Iz _ _ _ (by rw [aI];omega) (TR hm),cE];have e1:((r.toNat:Nat):Int)=r:=sU;rw [e1];by_cases h:i.to=r
 · subst h;rw [aE rfl,aE (by omega)];simp
 rw [aC (by omega)];simp [h,Bool.or_comm]
theorem Xk {regs:Int} (h0:0≤regs) {outs:List Int} (ho:∀ r∈outs,0≤r∧r<regs) {r:Int} (hr:0≤r∧r<regs):(vL (List.replicate regs.toNat false) outs)[r.toNat]?.getD default=decide (r∈outs):=by
 rw [Iz _ _ _ (by simp;omega) (fun x hx=>(ho x hx).1)];have e1:((r.toNat:Nat):Int)=r:=sU;rw [e1];have:(List.replicate regs.toNat false)[r.toNat]?.getD default=false:=by
  rw [dZ];split <;> rfl
 rw [this,Bool.false_or]
theorem TS {p:PV} (h0:0≤p.regs) (ho:∀ r∈p.outs,0≤r∧r<p.regs):∀ (l:List I5),(∀ i∈l,tH i p.regs=true)→∀ r,0≤r∧r<p.regs→(nf p l).1[r.toNat]?.getD default=At p.outs r (l.zip (nf p l).2)
 | [],_,r,hr=>by simpa [nf,At] using Xk h0 ho hr
 | i :: l,hl,r,hr=>by
   have ih:=TS h0 ho l (fun j hj=>hl j (by simp [hj]));have hm:=hl i tW;have hto:0≤i.to∧i.to<p.regs:=by rw [tS] at hm;exact ⟨hm.1.2.2.1,hm.1.2.2.2.1⟩
   have hlen:((nf p l).1.length:Int)=p.regs:=by rw [(TQ p l).1];omega
   by_cases h:(nf p l).1[i.to.toNat]?.getD default=true
   · have e:nf p (i :: l)=(vL ((nf p l).1.set i.to.toNat false) (tM i),true :: (nf p l).2):=by simp only [nf];rw [aE h]
     rw [e,Sk hlen hm hr,ih r hr];simp [At]
   have e:nf p (i :: l)=((nf p l).1,false :: (nf p l).2):=by simp only [nf];rw [aC h]
   rw [e];show (nf p l).1[r.toNat]?.getD default=At p.outs r ((i,false) :: l.zip (nf p l).2);simp only [At,Bool.false_and,Bool.false_or];by_cases ht:i.to=r
   · subst ht;simpa using h
   rw [ih r hr];simp [ht]
def rf (p:PV):List I5→List Bool
 | []=>[]
 | i :: l=>At p.outs i.to (l.zip (rf p l)) :: rf p l
theorem ay {p:PV} (h0:0≤p.regs) (ho:∀ r∈p.outs,0≤r∧r<p.regs):∀ (l:List I5),(∀ i∈l,tH i p.regs=true)→rf p l=(nf p l).2
 | [],_=>by simp [rf,nf]
 | i :: l,hl=>by
   have ih:=ay h0 ho l (fun j hj=>hl j (by simp [hj]));have hm:=hl i tW;have hto:0≤i.to∧i.to<p.regs:=by rw [tS] at hm;exact ⟨hm.1.2.2.1,hm.1.2.2.2.1⟩
   have hg:=TS h0 ho l (fun j hj=>hl j (by simp [hj])) i.to hto;simp only [rf];rw [ih,←hg];by_cases h:(nf p l).1[i.to.toNat]?.getD default=true
   · have e:nf p (i :: l)=(vL ((nf p l).1.set i.to.toNat false) (tM i),true :: (nf p l).2):=by simp only [nf];rw [aE h]
     rw [e,h]
   have e:nf p (i :: l)=((nf p l).1,false :: (nf p l).2):=by simp only [nf];rw [aC h]
   have h':(nf p l).1[i.to.toNat]?.getD default=false:=by simpa using h
   rw [e,h']
theorem OD {p:PV} (h:sW p=true):tC p=rf p p.code:=by
 obtain ⟨r1,r2,r3,r4,r5,r6,r7,r8⟩:=sZ h;rw [Xj,ay sU r7 p.code r8]
theorem KP (p:PV):∀ (l:List I5) (m:Nat),(rf p l).drop m=rf p (l.drop m)
 | [],m=>by simp [rf]
 | i :: l,0=>tW
 | i :: l,m+1=>by
   show (_ :: rf p l).drop (m+1)=rf p ((i :: l).drop (m+1));rw [nW,nW];exact KP p l m
def Bc (p:PV) (r:Int) (j:Nat):Bool:=At p.outs r ((p.code.drop j).zip (rf p (p.code.drop j)))
theorem Sm (p:PV) (r:Int) {j:Nat} (h:p.code.length≤j):Bc p r j=decide (r∈p.outs):=by
 unfold Bc;rw [gT h];rfl
theorem az (p:PV) {j:Nat} (h:j<p.code.length):rf p (p.code.drop j)=Bc p (p.code[j]?.getD default).to (j+1) :: rf p (p.code.drop (j+1)):=by
 rw [dC h,aA h,dI];rfl
theorem Om (p:PV) (r:Int) {j:Nat} (h:j<p.code.length):Bc p r j=((Bc p (p.code[j]?.getD default).to (j+1) && decide (r∈tM (p.code[j]?.getD default))) || (!decide ((p.code[j]?.getD default).to=r) && Bc p r (j+1))):=by
 have h1:=az p h;unfold Bc;rw [h1,dC h,mF,aA h,dI];rfl
theorem Ic {α:Type} [Inhabited α] {l m:List α} {k:Nat} (hl:k<l.length) (hm:k<m.length) (h:l.take k=m.take k) (he:l[((k:Nat):Int).toNat]?.getD default=m[((k:Nat):Int).toNat]?.getD default):l.take (k+1)=m.take (k+1):=by
 rw [aG,aA hl,aA hm] at he;rw [dA,dA,h,aA hl,aA hm];simp only [dI] at he;rw [he]
theorem ul (G:A2) (p q:PV) (ac ao bc bo:J0 Addr) (cc co dc do_:Nat) (hc:Arr G ac p.code) (ho:Arr G ao p.outs) (hc':Arr G bc q.code) (ho':Arr G bo q.outs) (h1:p.code.length≤1099511627776) (h2:p.outs.length≤1099511627776) :
 Does Tryz.prog 60 [.agg (J1 p ac cc ao co),.agg #[.int .i64 q.ins,.int .i64 q.regs,.slice bc q.code.length dc,.slice bo q.outs.length do_]] G []
  (fun v G' Ho=>v=.bool (decide (p=q))∧G'=G∧Ho=[]):=by
 refine D0 Tryz.func60 Tryz.ntmps60 fun w=>?_;refine aK 2 [] ?_;refine eG 0 fun b1=>?_;refine eG 1 fun b2=>?_;refine aS 12 [0,1] ?_;apply cJ 6 12 18 U;intro hg1;refine aB 11 [0,1] ?_;exact cC 6 0;intro hg1;refine aB 6 [] ?_;exact cC 6 0;refine aB 1 [] ?_;apply cJ 8 19 27 U;intro hg1;refine aB 15 [0,1] ?_;exact cC 8 0;intro hg1;refine aB 8 [] ?_;exact cC 8 0;refine aB 1 [] ?_;apply cJ 8 28 36 U;intro hg1;refine aB 15 [0,1] ?_;exact cC 8 0;intro hg1;refine aB 8 [] ?_;exact cC 8 0;refine bG 2 [] ?_;refine cF (fun hc1=>?_) fun hc1=>?_;refine bE 7 [] ?_;refine cG ?_;rotate_left;refine bJ 9 [] ?_;rotate_left
 · refine ⟨?_,U,U⟩;have:p≠q:=by rintro rfl;omega
   simp [this]
 simp only [not_or,ne_eq,bR] at hc1;obtain ⟨⟨⟨e1,e2⟩,e3⟩,e4⟩:=hc1;refine gZ (ι:=Nat) (fun k=>([(5,.int .i64 (k:Int)),(3,.pointer (some ⟨b2,0,none⟩)),(2,.pointer (some ⟨b1,0,none⟩))],[(1,some b2,.cells #[.int .i64 q.ins,.int .i64 q.regs,.slice bc q.code.length dc,.slice bo q.outs.length do_] 26),(0,some b1,.cells (J1 p ac cc ao co) 26)])) (fun k=>k≤p.code.length∧p.code.take k=q.code.take k) (fun k=>p.code.length - k) (0) (⟨aP _,U⟩) fun k=>fun hk=>?_;obtain ⟨hk1,hk2⟩:=hk;refine bJ 10 [0] ?_;refine cF (fun hc1=>?_) fun hc1=>?_;refine bJ 5 [] ?_;refine dL [0,1] [] T.mixed [[0],[1,0],[2]] ?_;refine kE (α:=I5) 3 T.sl23 ?_;refine oP 4 T.agg91 ?_;refine eO [[5],[6,1],[7]] ?_;refine kE (α:=I5) 8 T.sl23 ?_;refine oP 9 T.agg91 ?_;refine fH 10 [] U (Ny T.ai91 U U) ?_;refine eU ?_;refine cH ?_;refine cF (fun hc2=>?_) fun hc2=>?_;refine bE 11 [] ?_;refine cG ?_;rotate_left;refine bE 8 [] ?_;rotate_left;refine bJ 12 [] ?_;rotate_left
 · refine ⟨?_,U,U⟩;have:p≠q:=by rintro rfl;exact hc2 U
   simp [this]
 · refine cO (k+1) ?_ ?_
   · exact ⟨by omega,Ic sU sU hk2 (bR.1 hc2)⟩
   omega
 have hcode:p.code=q.code:=by
  have:k=p.code.length:=sU;subst this;rw [bI,dU sU] at hk2;exact hk2
 clear hk1 hk2 hc1;refine gZ (ι:=Nat) (fun k=>([(6,.int .i64 (k:Int)),(3,.pointer (some ⟨b2,0,none⟩)),(2,.pointer (some ⟨b1,0,none⟩))],[(1,some b2,.cells #[.int .i64 q.ins,.int .i64 q.regs,.slice bc q.code.length dc,.slice bo q.outs.length do_] 26),(0,some b1,.cells (J1 p ac cc ao co) 26)])) (fun k=>k≤p.outs.length∧p.outs.take k=q.outs.take k) (fun k=>p.outs.length - k) (0) (⟨aP _,U⟩) fun k=>fun hk=>?_;obtain ⟨hk1,hk2⟩:=hk;refine bJ 10 [0] ?_;refine cF (fun hc1=>?_) fun hc1=>?_;refine bJ 5 [] ?_;refine dL [0,1] [] T.mixed [[0],[1,0],[2]] ?_;refine kE (α:=Int) 3 T.sl24 ?_;refine rG 4 [0] 0 T.one3 ?_;refine eO [[5],[6,1],[7]] ?_;refine kE (α:=Int) 8 T.sl24 ?_;refine rG 9 [0] 0 T.one3 ?_;refine eO [[10]] ?_;refine eU ?_;refine cH ?_;refine cF (fun hc2=>?_) fun hc2=>?_;refine bE 11 [] ?_;refine cG ?_;rotate_left;refine bE 8 [] ?_;rotate_left;refine bE 11 [] ?_;refine cG ?_;rotate_left
 · refine ⟨?_,U,U⟩;have:p≠q:=by rintro rfl;exact hc2 U
   simp [this]
 · refine cO (k+1) ?_ ?_
   · exact ⟨by omega,Ic sU sU hk2 (bR.1 hc2)⟩
   omega
 refine ⟨?_,U,U⟩;have houts:p.outs=q.outs:=by
  have:k=p.outs.length:=sU;subst this;rw [bI,dU sU] at hk2;exact hk2
 have:p=q:=by cases p;cases q;simp_all
 simp [this]
theorem c15 (G:A2) (k1 k2:Int) (pl:List R2) (pa qa:J0 Addr) (pc qc:Nat) (xp yp zp:PV) (xac xao yac yao zac zao uac uao vac vao wac wao:J0 Addr) (xcc xoc ycc yoc zcc zoc ucc uoc vcc voc wcc woc:Nat) (hpa:Arr G pa pl) (hqa:Arr G qa pl) (hpl:pl.length≤1048576) (hxc:Arr G xac xp.code) (hxo:Arr G xao xp.outs) (hyc:Arr G yac yp.code) (hyo:Arr G yao yp.outs) (hzc:Arr G zac zp.code) (hzo:Arr G zao zp.outs) (huc:Arr G uac xp.code) (huo:Arr G uao xp.outs) (hvc:Arr G vac yp.code) (hvo:Arr G vao yp.outs) (hwc:Arr G wac zp.code) (hwo:Arr G wao zp.outs) (hx1:xp.code.length≤1048576) (hx2:xp.outs.length≤1048576) (hy1:yp.code.length≤1048576) (hy2:yp.outs.length≤1048576) (hz1:zp.code.length≤1048576) (hz2:zp.outs.length≤1048576) :
 Does Tryz.prog 15 [.agg #[.int .i64 k1,.int .i64 k2,.slice pa pl.length pc,.int .i64 xp.ins,.int .i64 xp.regs,.slice xac xp.code.length xcc,.slice xao xp.outs.length xoc,.int .i64 yp.ins,.int .i64 yp.regs,.slice yac yp.code.length ycc,.slice yao yp.outs.length yoc,.int .i64 zp.ins,.int .i64 zp.regs,.slice zac zp.code.length zcc,.slice zao zp.outs.length zoc],.agg #[.int .i64 k1,.int .i64 k2,.slice qa pl.length qc,.int .i64 xp.ins,.int .i64 xp.regs,.slice uac xp.code.length ucc,.slice uao xp.outs.length uoc,.int .i64 yp.ins,.int .i64 yp.regs,.slice vac yp.code.length vcc,.slice vao yp.outs.length voc,.int .i64 zp.ins,.int .i64 zp.regs,.slice wac zp.code.length wcc,.slice wao zp.outs.length woc]] G []
  (fun v G' Ho=>v=.bool (decide (1=1))∧G'=G∧Ho=[]):=by
 refine D0 Tryz.func15 Tryz.ntmps15 fun w=>?_;refine aK 2 [] ?_;refine eG 0 fun b1=>?_;refine eG 1 fun b2=>?_;refine aS 12 [0,1] ?_;refine iW 11 ?_;refine aB 12 [0,1] ?_;refine iW 18 ?_;refine bG 27 [0,1,0] ?_;refine gZ (ι:=Nat) (fun k=>([(5,.int .i64 (k:Int)),(3,.pointer (some ⟨b2,0,none⟩)),(2,.pointer (some ⟨b1,0,none⟩))],[(1,some b2,.cells #[.int .i64 k1,.int .i64 k2,.slice qa (List.length pl) qc,.int .i64 xp.ins,.int .i64 xp.regs,.slice uac xp.code.length ucc,.slice uao xp.outs.length uoc,.int .i64 yp.ins,.int .i64 yp.regs,.slice vac yp.code.length vcc,.slice vao yp.outs.length voc,.int .i64 zp.ins,.int .i64 zp.regs,.slice wac zp.code.length wcc,.slice wao zp.outs.length woc] 28),(0,some b1,.cells #[.int .i64 k1,.int .i64 k2,.slice pa (List.length pl) pc,.int .i64 xp.ins,.int .i64 xp.regs,.slice xac xp.code.length xcc,.slice xao xp.outs.length xoc,.int .i64 yp.ins,.int .i64 yp.regs,.slice yac yp.code.length ycc,.slice yao yp.outs.length yoc,.int .i64 zp.ins,.int .i64 zp.regs,.slice zac zp.code.length zcc,.slice zao zp.outs.length zoc] 28)])) (fun k=>k≤pl.length) (fun k=>pl.length - k) (0) (aP _) fun k=>fun (hk:k≤pl.length)=>?_;refine bJ 10 [0] ?_;refine cF (fun hc1=>?_) fun hc1=>?_;refine bJ 5 [] ?_;refine dL [0,1] [] T.mixed [[0],[1,0],[2]] ?_;refine kE (α:=R2) 3 T.sl22 ?_;refine oP 4 T.agg52 ?_;refine eO [[5],[6,1],[7]] ?_;refine kE (α:=R2) 8 T.sl22 ?_;refine oP 9 T.agg52 ?_;refine fH 10 [] U (Pf [_,_] [_,_] T.ai52 U U U U) ?_;refine eU ?_;refine cH ?_;refine cF (fun hc2=>?_) fun hc2=>?_;refine bE 11 [] ?_;refine cG ?_;rotate_left;refine bE 8 [] ?_;rotate_left;refine aK 8 [] ?_;refine aZ (iG 0 T.agg26 U U U U) ?_;refine aB 1 [] ?_;refine aZ (iG 1 T.agg26 U U U U) ?_;refine cZ U (ul _ _ _ _ _ _ _ _ _ _ _ sV sV sV sV sU sU) ?_;refine aB 1 [] ?_;apply bS 6 50 56 U;intro hg1;refine aB 3 [] ?_;refine aZ (iG 0 T.agg26 U U U U) ?_;refine aB 3 [] ?_;refine aZ (iG 1 T.agg26 U U U U) ?_;refine aB 1 [] ?_;refine cZ U (ul _ _ _ _ _ _ _ _ _ _ _ sV sV sV sV sU sU) ?_;refine aB 1 [] ?_;exact cC 6 0;intro hg1;refine aB 6 [] ?_;exact cC 6 0;refine aB 1 [] ?_;apply bS 6 57 63 U;intro hg1;refine aB 3 [] ?_;refine aZ (iG 0 T.agg26 U U U U) ?_;refine aB 3 [] ?_;refine aZ (iG 1 T.agg26 U U U U) ?_;refine aB 1 [] ?_;refine cZ U (ul _ _ _ _ _ _ _ _ _ _ _ sV sV sV sV sU sU) ?_;refine aB 1 [] ?_;exact cC 6 0;intro hg1;refine aB 6 [] ?_;exact cC 6 0;refine aY 4 [] ?_;refine cG ?_;rotate_left
 · exact absurd U sV
 · refine cO (k+1) ?_ ?_
   · omega
   omega
 exact ⟨by simp,rfl,rfl⟩
theorem kw (G:A2) (p:PV) (ac ao:J0 Addr) (cc co:Nat) (hc:Arr G ac p.code) (ho:Arr G ao p.outs) (h1:p.code.length≤1099511627776) (h2:p.outs.length≤1099511627776) :
 Does Tryz.prog 186 [.agg (J1 p ac cc ao co)] G [] (fun v G' Ho=>v=.bool (decide (sW p=true))∧G'=G∧Ho=[]):=by
 refine D0 Tryz.func186 Tryz.ntmps186 fun w=>?_;refine aK 2 [] ?_;refine eG 0 fun b1=>?_;refine aS 6 [0] ?_;refine cZ U (jm _ _ _ _ _ _ sV sV sU sU) ?_;refine aY 15 [] ?_;refine cG ?_;refine ⟨?_,U,U⟩;cases h:(uH p).2 <;> simp [sW,h]
def AB (t:Tab) (bt bk bf:Nat) (a:J0 Addr) (c:Nat) (junk:List Value):Hp:=
 [(0,some bt,.cells #[.slice a t.held.length c,.map (some bk),.map (some bf),.int .i64 t.next] 168),(1,a.map (·.block),Row 3 t.held junk),(2,some bk,A4 t.known),(3,some bf,A4 t.first)]
theorem c97 (G:A2) (p:PV) (ac ao:J0 Addr) (cc co:Nat) (hr:0≤p.ins∧p.ins≤p.regs∧p.regs≤128) :
 Does Tryz.prog 97 [.agg (J1 p ac cc ao co)] G [] (fun v G' Ho=>∃ bt bk bf a c junk,v=.pointer (some ⟨bt,0,none⟩)∧
  A3 a c (start p) junk∧Ho=AB ⟨start p,[],[],p.ins+1⟩ bt bk bf a c junk∧G'=G):=by
 refine D0 Tryz.func97 Tryz.ntmps97 fun w=>?_;refine dK 1 (Row 3 ([]:List Int) []) ?_;refine aK 2 [] ?_;refine eG 2 fun b1=>?_;refine aS 5 [] ?_;refine Wl.makeMap (κ:=K4) 3 U fun b2=>?_;refine Wl.makeMap (κ:=K4) 4 U fun b3=>?_;refine aB 3 [2] ?_;refine aZ (cQ (cs:=[_,_,_,_]) T.st168 U U U) ?_;refine eG 5 fun b4=>?_;refine bG 12 [2] ?_;have hsl:(start p).length=p.regs.toNat:=by simp [start]
 refine gZ (ι:=Nat×List Int×J0 Addr×Nat×List Value) (fun (k,xs,a,c,junk)=>([(14,.int .i64 (k:Int)),(13,.int .i64 p.regs),(3,.pointer (some (Addr.mk b4 0 none))),(2,.pointer none),(1,.pointer (some ⟨b1,0,none⟩))],[(1,a.map (·.block),Row 3 xs junk),(5,some b4,.cells #[.slice a xs.length c,.map (some b2),.map (some b3),.int .i64 (p.ins+1)] 168),(4,some b3,Go.Sl.A4 (κ:=Go.Sl.K4) ([])),(3,some b2,Go.Sl.A4 (κ:=Go.Sl.K4) ([])),(2,some b1,.cells (J1 p ac cc ao co) 26)])) (fun (k,xs,a,c,junk)=>k≤p.regs.toNat∧xs=(start p).take k∧A3 a c xs junk) (fun (k,xs,a,c,junk)=>p.regs.toNat - k) ((0,[],none,0,[])) (⟨aP _,U,dN⟩) fun ⟨k,xs,a,c,junk⟩=>fun hk=>?_;obtain ⟨hk1,hxs,ho⟩:=hk;have hlen:xs.length=k:=by rw [hxs,bM];omega
 refine bJ 6 [] ?_;refine cF (fun hc1=>?_) fun hc1=>?_;refine bJ 10 [] ?_;refine dL [2,3,4,5,1] [(5,13),(1,10)] T.mixed [[0],[1],[2],[3],[4,5],[5],[6],[7,2]] ?_;refine fH 8 [] U (Qy.min U U) ?_;refine dB 9 ?_;refine eH (α:=Int) 6 [(if Go.Proofs.YtfdcckcadfhpeaaGreatDoor.PV.ins p<(↑k:Int) then Go.Proofs.YtfdcckcadfhpeaaGreatDoor.PV.ins p else (↑k:Int))] U T.sl24 T.el3 U U U U U fun b5=>?_;refine cY 10 ?_;refine iP (α:=Int) 1 T.sl24 T.el3 (eP 6 U) fun a1 c1 junk1 ho1=>?_;refine bW ?_;refine eO [[11],[12]] ?_;refine dB 13 ?_;refine aB 1 [5] ?_;refine fB ?_;refine fI 6 [] ?_;rotate_left;refine bE 12 [] ?_;refine lW [5,1,3,4] tI (cW (.inr U) U (.tmp U) (lI 0 _) ?_);rotate_left
 · refine cO ((k+1,_,a1,c1,junk1)) ?_ ?_
   · have hst:(start p).take (k+1)=(start p).take k++[if p.ins<(k:Int) then p.ins else (k:Int)]:=by
      rw [dA];have hkl:k<p.regs.toNat:=sU;simp [start,hkl]
     refine ⟨by omega,?_,ho1⟩;rw [hst,hxs]
   show p.regs.toNat - (k+1)<p.regs.toNat - k;omega
 have hk:k=p.regs.toNat:=sU;have htk:xs=start p:=by rw [hxs];exact dU sU
 rw [htk] at ho ⊢;exact ⟨b4,b2,b3,a,c,junk,U,ho,U,U⟩
theorem YW (G:A2) (t:Tab) (bt bk bf:Nat) (a:J0 Addr) (c:Nat) (junk:List Value) (v:Int) (ho:A3 a c t.held junk) (hl:t.held.length≤128) :
 Does Tryz.prog 100 [.pointer (some ⟨bt,0,none⟩),.int .i64 v] G (AB t bt bk bf a c junk) (fun r G' Ho=>r=.int .i64 (holder t.held v)∧G'=G∧Ho=AB t bt bk bf a c junk):=by
 refine D0 Tryz.func100 Tryz.ntmps100 fun w=>?_;refine bJ 5 [] ?_;refine pH ?_;refine bJ 15 [0] ?_;refine gZ (ι:=Nat) (fun k=>([(12,.int .i64 (k:Int)),(11,.int .i64 (↑(List.length (Tab.held t)):Int)),(10,.slice a (List.length (Tab.held t)) c),(1,.int .i64 v)],[(0,some bt,.cells #[.slice a (List.length (Tab.held t)) c,Go.Value.map (some bk),Go.Value.map (some bf),.int .i64 (Tab.next t)] 168),(1,Option.map (fun x=>Go.Addr.block x) a,Row (α:=Int) 3 (Tab.held t) (junk)),(2,some bk,Go.Sl.A4 (κ:=Go.Sl.K4) (Tab.known t)),(3,some bf,Go.Sl.A4 (κ:=Go.Sl.K4) (Tab.first t))])) (fun k=>k≤t.held.length∧(t.held.take k).all (fun x=>!decide (x=v))=true) (fun k=>t.held.length - k) (0) (⟨aP _,U⟩) fun k=>fun hk=>?_;obtain ⟨hk1,hk2⟩:=hk;refine bJ 6 [] ?_;refine cF (fun hc1=>?_) fun hc1=>?_;refine aK 7 [] ?_;refine gY (α:=Int) T.sl24 ?_;refine jS 1 0 T.one3 ?_;refine bG 12 [] ?_;refine cF (fun hc2=>?_) fun hc2=>?_;refine bE 8 [] ?_;rotate_left;refine bE 14 [] ?_;refine nG ?_;refine Ar.p1 [0,1,2,3] ?_;rotate_left;refine bE 11 [] ?_;refine nG ?_;refine Ar.p1 [0,1,2,3] ?_;rotate_left
 · refine cO (k+1) ?_ ?_
   · refine ⟨by omega,?_⟩;rw [Dv _ sU,hk2];simpa using hc2
   omega
 · refine ⟨?_,U,U⟩;have:=Ri (p:=fun x=>!decide (x=v)) (l:=t.held) (k:=k) sU hk2 (by simpa using hc2);simp only [Bool.not_not] at this;simp [holder,this]
 refine ⟨?_,U,U⟩;have hk:k=t.held.length:=sU;subst hk;rw [bI] at hk2;have:=Me hk2;simp only [Bool.not_not] at this;simp [holder,this]
theorem ld (G:A2) (t:Tab) (bt bk bf:Nat) (a:J0 Addr) (c:Nat) (junk:List Value) (i:I5) (ho:A3 a c t.held junk) (hl:t.held.length≤128) (hm:tH i t.held.length=true) :
 Does Tryz.prog 151 [.pointer (some ⟨bt,0,none⟩),.agg (A0.enc i).toArray] G (AB t bt bk bf a c junk) (fun r G' Ho=>r=A7.val (keyOf t.held i)∧G'=G∧Ho=AB t bt bk bf a c junk):=by
 rw [tS] at hm;obtain ⟨⟨hop1,hop2,hto1,hto2,ha1,ha2⟩,hb⟩:=hm;have hb:i.op=3∨i.op=4→0≤i.b∧i.b<t.held.length:=fun h=>by rw [aE h] at hb;omega
 have two:=CK i;refine D0 Tryz.func151 Tryz.ntmps151 fun w=>?_;refine aK 2 [] ?_;refine eG 4 fun b1=>?_;refine aV 5 U T.zero230 fun b2=>?_;refine bG 3 [] ?_;refine dL [3,2,1,0,4,5] [] T.mixed [[0],[1,4],[2],[3],[4],[5,0],[6],[7,4]] ?_;refine iA (α:=Int) 8 T.sl24 ?_;refine fH 9 [1,0] U (eX 1 0 T.one3 U U sV sU U U) ?_;refine eO [[10],[11,4]] ?_;refine fH 12 [] U (cQ (cs:=[_,_,_,_]) T.st230 U U U) ?_;refine dB 13 ?_;refine aV 6 U T.zero230 fun b3=>?_;refine cY 14 ?_;refine aB 1 [6] ?_;refine fB ?_;refine oR 5 [4] ?_;refine cU 7 U (MZ _ _) fun v1 G1 Ho1 hle1 hp=>?_;obtain ⟨ad1,cd1,junk1,rfl,hoa1,rfl,rfl⟩:=hp;refine bG 4 [] ?_;refine cF (fun hc1=>?_) fun hc1=>?_;refine dL [3,2,1,0,4,5,6,8] [(6,9)] T.mixed [[0],[1],[2],[3,0],[4],[5,4]] ?_;refine iA (α:=Int) 6 T.sl24 ?_;refine fH 7 [1,0] U (eX 1 0 T.one3 U U sV sU U U) ?_;refine eO [[8]] ?_;refine dB 9 ?_;refine aB 1 [6] ?_;refine fB ?_;refine oR 8 [4] ?_;apply bS 6 35 41 U;intro hg1;refine aB 11 [6,6] ?_;exact cC 6 0;intro hg1;refine aB 6 [] ?_;exact cC 6 0;refine bG 2 [] ?_;refine cF (fun hc2=>?_) fun hc2=>?_;refine bE 18 [6,6,6,6,6,5] ?_;refine cW (.inr U) (Ho:=Hp.only _ [0,1,2,3]) U (.agg 5 U U T.agg230) (bH _ _) ?_;rotate_left;refine bE 9 [6,5] ?_;refine cW (.inr U) (Ho:=Hp.only _ [0,1,2,3]) U (.agg 5 U U T.agg230) (bH _ _) ?_;rotate_left;refine aK 9 [4] ?_;refine iW 35 ?_;refine aY 18 [0,6,5] ?_;refine cW (.inr U) (Ho:=Hp.only _ [0,1,2,3]) U (.agg 5 U U T.agg230) (bH _ _) ?_;rotate_left
 · refine ⟨?_,U,U⟩;have h:keyOf t.held i=⟨i.op,t.held[i.b.toNat]?.getD default,t.held[i.a.toNat]?.getD default,i.c⟩:=by
    unfold keyOf;rw [aE (by omega)];exact aE hc2
   rw [h];rfl
 · refine ⟨?_,U,U⟩;have h:keyOf t.held i=⟨i.op,t.held[i.a.toNat]?.getD default,t.held[i.b.toNat]?.getD default,i.c⟩:=by
    unfold keyOf;rw [aE (by omega)];exact aC hc2
   rw [h];rfl
 refine ⟨?_,U,U⟩;have h:keyOf t.held i=⟨i.op,t.held[i.a.toNat]?.getD default,-1,i.c⟩:=by
  unfold keyOf;rw [aC (by omega)]
 rw [h];rfl
theorem ee (G:A2) (a:J0 Addr) (c:Nat) (xs:List Int) (hx:Arr G a xs) (hl:xs.length≤1099511627776) :
 Does Tryz.prog 53 [.slice a xs.length c] G [] (fun v G' Ho=>∃ b d j,v=.slice b xs.length d∧A3 b d xs j∧Ho=[(0,b.map (·.block),Row 3 xs j)]∧G'=G):=by
 refine D0 Tryz.func53 Tryz.ntmps53 fun w=>?_;refine aK 9 [] ?_;refine aZ (gN T.sl24 U U) ?_;refine bG 2 [] ?_;refine cF (fun hc1=>?_) fun hc1=>?_;refine bE 7 [] ?_;rotate_left;refine aK 4 [] ?_;refine nY 0 U T.sl24 fun b1=>?_;refine aB 1 [] ?_;rotate_left
 · subst hc1;have hn:xs=[]:=by
    rcases hx.2 with h | ⟨b,o,h,_⟩
    · exact dT h
    cases h
   subst hn;refine Lw 0 (Row 3 ([]:List Int) []) ?_;refine Ar.p1 [0] ?_;exact ⟨none,0,[],U,dN,U,U⟩
 refine Wl.reH 0 (Row 3 ([]:List Int) []) U U ?_;refine lN (α:=Int) 0 U T.sl24 T.el3 U U U (iJ tW) (rT sV) (by simp only [cD];omega) (by simp only [cD,maxLen];omega) fun a1 c1 junk1 ho1=>?_;refine aY 4 [] ?_;refine Ar.p1 [0] ?_;exact ⟨_,_,_,U,ho1,U,U⟩
theorem um (G:A2) (xs ys:List Int) (a b:J0 Addr) (c d:Nat) (hx:Arr G a xs) (hy:Arr G b ys) (h1:xs.length≤1099511627776) (h2:ys.length≤1099511627776) :
 Does Tryz.prog 86 [.slice a xs.length c,.slice b ys.length d] G [] (fun v G' Ho=>v=.bool (decide (xs=ys))∧G'=G∧Ho=[]):=by
 refine D0 Tryz.func86 Tryz.ntmps86 fun w=>?_;refine bJ 15 [] ?_;refine cF (fun hc1=>?_) fun hc1=>?_;refine bE 7 [] ?_;refine cG ?_;rotate_left;refine bJ 11 [] ?_;rotate_left
 · have:xs≠ys:=by rintro rfl;exact hc1 U
   exact ⟨by simp [this],U,U⟩
 have hl:xs.length=ys.length:=sU;clear hc1;refine gZ (ι:=Nat) (fun k=>([(13,.int .i64 (k:Int)),(12,.int .i64 (xs.length:Int)),(0,.slice a (List.length xs) c),(1,.slice b (List.length ys) d)],[])) (fun k=>k≤xs.length∧xs.take k=ys.take k) (fun k=>xs.length - k) (0) (⟨aP _,U⟩) fun k=>fun hk=>?_;obtain ⟨hk1,hk2⟩:=hk;refine bJ 6 [] ?_;refine cF (fun hc1=>?_) fun hc1=>?_;refine bJ 11 [] ?_;refine dL [] [] T.mixed [[0],[1]] ?_;refine kE (α:=Int) 2 T.sl24 ?_;refine rG 3 [] 0 T.one3 ?_;refine eO [[4],[5]] ?_;refine kE (α:=Int) 6 T.sl24 ?_;refine rG 7 [] 0 T.one3 ?_;refine eO [[8]] ?_;refine eU ?_;refine cH ?_;refine cF (fun hc2=>?_) fun hc2=>?_;refine bE 11 [] ?_;refine cG ?_;rotate_left;refine bE 7 [] ?_;rotate_left;refine bE 11 [] ?_;refine cG ?_;rotate_left
 · have:xs≠ys:=by rintro rfl;exact hc2 U
   exact ⟨by simp [this],U,U⟩
 · refine cO (k+1) ?_ ?_
   · exact ⟨by omega,Ka sU sU hk2 (bR.1 hc2)⟩
   omega
 have hk:k=xs.length:=sU;subst hk;rw [bI,hl,bI] at hk2;exact ⟨by simp [hk2],U,U⟩
theorem c85 (G:A2) (xs ys:List I5) (a b:J0 Addr) (c d:Nat) (hx:Arr G a xs) (hy:Arr G b ys) (h1:xs.length≤1099511627776) (h2:ys.length≤1099511627776) :
 Does Tryz.prog 85 [.slice a xs.length c,.slice b ys.length d] G [] (fun v G' Ho=>v=.bool (decide (xs=ys))∧G'=G∧Ho=[]):=by
 refine D0 Tryz.func85 Tryz.ntmps85 fun w=>?_;refine bJ 15 [] ?_;refine cF (fun hc1=>?_) fun hc1=>?_;refine bE 7 [] ?_;refine cG ?_;rotate_left;refine bJ 11 [] ?_;rotate_left
 · have:xs≠ys:=by rintro rfl;exact hc1 U
   exact ⟨by simp [this],U,U⟩
 have hl:xs.length=ys.length:=sU;clear hc1;refine gZ (ι:=Nat) (fun k=>([(13,.int .i64 (k:Int)),(12,.int .i64 (xs.length:Int)),(0,.slice a (List.length xs) c),(1,.slice b (List.length ys) d)],[])) (fun k=>k≤xs.length∧xs.take k=ys.take k) (fun k=>xs.length - k) (0) (⟨aP _,U⟩) fun k=>fun hk=>?_;obtain ⟨hk1,hk2⟩:=hk;refine bJ 6 [] ?_;refine cF (fun hc1=>?_) fun hc1=>?_;refine bJ 11 [] ?_;refine dL [] [] T.mixed [[0],[1]] ?_;refine kE (α:=Instr) 2 T.sl23 ?_;refine oP 3 T.agg91 ?_;refine eO [[4],[5]] ?_;refine kE (α:=Instr) 6 T.sl23 ?_;refine oP 7 T.agg91 ?_;refine fH 8 [] U (Ny T.ai91 U U) ?_;refine eU ?_;refine cH ?_;refine cF (fun hc2=>?_) fun hc2=>?_;refine bE 11 [] ?_;refine cG ?_;rotate_left;refine bE 7 [] ?_;rotate_left;refine bE 11 [] ?_;refine cG ?_;rotate_left
 · have:xs≠ys:=by rintro rfl;exact hc2 U
   exact ⟨by simp [this],U,U⟩
 · refine cO (k+1) ?_ ?_
   · exact ⟨by omega,Ka sU sU hk2 (bR.1 hc2)⟩
   omega
 have hk:k=xs.length:=sU;subst hk;rw [bI,hl,bI] at hk2;exact ⟨by simp [hk2],U,U⟩
theorem c42 (G:A2) (p q:PV) (ac ao bc bo:J0 Addr) (cc co dc do_:Nat) (hc:Arr G ac p.code) (ho:Arr G ao p.outs) (hc':Arr G bc q.code) (ho':Arr G bo q.outs) (h1:p.code.length≤1099511627776) (h2:p.outs.length≤1099511627776)
 (h3:q.code.length≤1099511627776) (h4:q.outs.length≤1099511627776) :
 Does Tryz.prog 42 [.agg (J1 p ac cc ao co),.agg #[.int .i64 q.ins,.int .i64 q.regs,.slice bc q.code.length dc,.slice bo q.outs.length do_]] G []
  (fun v G' Ho=>v=.bool (decide (p=q))∧G'=G∧Ho=[]):=by
 refine D0 Tryz.func42 Tryz.ntmps42 fun w=>?_;refine aK 2 [] ?_;refine eG 0 fun b1=>?_;refine eG 1 fun b2=>?_;refine aS 11 [0,1] ?_;apply bS 6 10 16 U;intro hg1;refine aB 11 [0,1] ?_;exact cC 6 0;intro hg1;refine aB 6 [] ?_;exact cC 6 0;refine aB 1 [] ?_;apply bS 6 17 23 U;intro hg1;refine aB 9 [0,1] ?_;refine cZ U (c85 _ _ _ _ _ _ _ sV sV sU sU) ?_;refine aB 1 [] ?_;exact cC 6 0;intro hg1;refine aB 6 [] ?_;exact cC 6 0;refine aB 1 [] ?_;apply bS 6 24 30 U;intro hg1;refine aB 9 [0,1] ?_;refine cZ U (um _ _ _ _ _ _ _ sV sV sU sU) ?_;refine aB 1 [] ?_;exact cC 6 0;intro hg1;refine aB 6 [] ?_;exact cC 6 0;refine aY 4 [] ?_;refine cG ?_;refine ⟨?_,U,U⟩;cases p;cases q;simp [and_assoc]
end Go.Proofs.YtfdcckcadfhpeaaGreatDoor
namespace Go.Proofs.YtfdcckcadfhpeaaGreatDoor.T
open Go Go.Sl
end Go.Proofs.YtfdcckcadfhpeaaGreatDoor.T
namespace Go.Proofs.YtfdcckcadfhpeaaGreatDoor
open Go Go.Sl
theorem uq (G:A2) (hT:TabOk G) (c:Int) (hb:-512≤c∧c≤512):Does Tryz.prog 148 [.int .i64 c] G [] (fun v G' Ho=>v=.tuple #[.int .i64 (wH c),.bool (decide (wH c≠0))]∧G'=G∧Ho=[]):=by
 refine D0 Tryz.func148 Tryz.ntmps148 fun w=>?_;refine aK 12 [] ?_;apply cJ 6 6 12 U;intro hg1;refine aB 7 [] ?_;refine aZ (mA U U) ?_;refine aB 3 [] ?_;exact cC 6 0;intro hg1;refine aB 6 [] ?_;exact cC 6 0;refine bG 2 [] ?_;refine cF (fun hc1=>?_) fun hc1=>?_;refine bE 8 [] ?_;refine jJ ?_;rotate_left;refine aK 5 [] ?_;refine aZ (lS U T.u199 U) ?_;rotate_left
 · have hp:wH c=0:=by
    rcases hc1 with h | h
    · exact Mb h
    rcases Int.lt_or_le c 2 with h2 | h2
    · exact Mb h2
    exact cV fun hn=>h ((Gq ⟨h2,hb.2⟩).2 hn)
   rw [hp];exact ⟨U,U,U⟩
 simp only [not_or,ne_eq,bR] at hc1;have hp:wH c≠0:=(Gq ⟨by omega,hb.2⟩).1 hc1.2;have hw:IntKind.u64.wrap c=c:=by rcases Ds hp with rfl | rfl | rfl | rfl | rfl | rfl | rfl | rfl | rfl <;> rfl
 refine iK 14 U (show _=Value.int .u64 c by rw [hw]) ?_;refine cZ U (jc _ sV _ sV) ?_;refine aY 5 [] ?_;refine jJ ?_;exact ⟨by simp [hp],U,U⟩
theorem EN (G:A2) (op to a c:Int):Does Tryz.prog 149 [.int .i64 op,.int .i64 to,.int .i64 a,.int .i64 c] G [] (fun v G' Ho=>v=.agg (A0.enc (⟨op,to,a,0,c⟩:I5)).toArray∧G'=G∧Ho=[]):=by
 refine D0 Tryz.func149 Tryz.ntmps149 fun w=>?_;refine aK 2 [] ?_;refine aV 0 U T.zero91 fun b1=>?_;refine aS 8 [] ?_;refine aZ (cQ (cs:=[_,_,_,_,_]) T.st91 U U U) ?_;refine aY 4 [0] ?_;refine cW (.inr U) (Ho:=Hp.only _ []) U (.agg 0 U U T.agg91) (bH _ _) ?_;exact ⟨U,U,U⟩
theorem lf (G:A2) (c:Int):Does Tryz.prog 198 [.int .i64 c] G [] (fun v G' Ho=>v=.bool (decide (-512≤c∧c≤512))∧G'=G∧Ho=[]):=by
 refine D0 Tryz.func198 Tryz.ntmps198 fun w=>?_;refine aK 10 [] ?_;apply bS 3 5 8 U;intro hg1;refine aB 5 [] ?_;exact cC 3 0;intro hg1;refine aB 3 [] ?_;exact cC 3 0;refine aY 4 [] ?_;refine cG ?_;exact ⟨U,U,U⟩
def uE (i:I5):Sl.Instr:=
 if i.op=3 then (if i.a=i.b then ⟨7,i.to,i.a,0,1⟩ else i)
 else if i.op=5∨i.op=6 then
  (if i.c=1 then ⟨1,i.to,i.a,0,0⟩ else if i.c=-1 then ⟨2,i.to,i.a,0,0⟩ else if wH i.c≠0 then (if i.op=5 then ⟨7,i.to,i.a,0,wH i.c⟩ else ⟨8,i.to,i.a,0,wH i.c⟩) else i)
 else i
theorem c95 (G:A2) (hT:TabOk G) (i:I5) (hb:-512≤i.c∧i.c≤512):Does Tryz.prog 95 [.agg (A0.enc i).toArray] G [] (fun v G' Ho=>v=.agg (A0.enc (uE i)).toArray∧G'=G∧Ho=[]):=by
 refine D0 Tryz.func95 Tryz.ntmps95 fun w=>?_;refine aK 2 [] ?_;refine eG 0 fun b1=>?_;refine aV 1 U T.zero91 fun b2=>?_;refine aS 6 [0] ?_;refine cZ U (uq _ sV _ sU) ?_;refine bG 21 [0] ?_;refine cF (fun hc1=>?_) fun hc1=>?_;refine bJ 9 [0,0] ?_;refine cF (fun hc2=>?_) fun hc2=>?_;refine aK 6 [0,0] ?_;refine cZ U (EN _ _ _ _ _) ?_;refine aY 6 [1] ?_;refine cW (.inr U) (Ho:=Hp.only _ []) U (.agg 1 U U T.agg91) (bH _ _) ?_;rotate_left;refine bE 10 [0,1] ?_;refine cW (.inr U) (Ho:=Hp.only _ []) U (.agg 1 U U T.agg91) (bH _ _) ?_;rotate_left;refine bJ 7 [] ?_;refine cF (fun hc2=>?_) fun hc2=>?_;refine bJ 12 [1,0] ?_;refine cF (fun hc3=>?_) fun hc3=>?_;refine aK 6 [0,0] ?_;refine cZ U (EN _ _ _ _ _) ?_;refine aY 7 [1] ?_;refine cW (.inr U) (Ho:=Hp.only _ []) U (.agg 1 U U T.agg91) (bH _ _) ?_;rotate_left;refine bJ 8 [0] ?_;refine cF (fun hc4=>?_) fun hc4=>?_;refine aK 6 [0,0] ?_;refine cZ U (EN _ _ _ _ _) ?_;refine aY 7 [1] ?_;refine cW (.inr U) (Ho:=Hp.only _ []) U (.agg 1 U U T.agg91) (bH _ _) ?_;rotate_left;refine aK 4 [] ?_;apply bS 4 48 52 U;intro hg1;refine aB 7 [0] ?_;exact cC 4 0;intro hg1;refine aB 4 [] ?_;exact cC 4 0;refine bG 3 [] ?_;refine cF (fun hc5=>?_) fun hc5=>?_;refine aK 7 [0,0] ?_;refine cZ U (EN _ _ _ _ _) ?_;refine aY 7 [1] ?_;refine cW (.inr U) (Ho:=Hp.only _ []) U (.agg 1 U U T.agg91) (bH _ _) ?_;rotate_left;refine bE 18 [0,0,1] ?_;refine cW (.inr U) (Ho:=Hp.only _ []) U (.agg 1 U U T.agg91) (bH _ _) ?_;rotate_left;refine bJ 5 [] ?_;refine cF (fun hc3=>?_) fun hc3=>?_;refine bJ 9 [0] ?_;refine cF (fun hc4=>?_) fun hc4=>?_;refine aK 6 [0,0] ?_;refine cZ U (EN _ _ _ _ _) ?_;refine aY 7 [1] ?_;refine cW (.inr U) (Ho:=Hp.only _ []) U (.agg 1 U U T.agg91) (bH _ _) ?_;rotate_left;refine bJ 8 [0] ?_;refine cF (fun hc5=>?_) fun hc5=>?_;refine aK 6 [0,0] ?_;refine cZ U (EN _ _ _ _ _) ?_;refine aY 7 [1] ?_;refine cW (.inr U) (Ho:=Hp.only _ []) U (.agg 1 U U T.agg91) (bH _ _) ?_;rotate_left;refine aK 4 [] ?_;apply bS 4 48 52 U;intro hg1;refine aB 7 [0] ?_;exact cC 4 0;intro hg1;refine aB 4 [] ?_;exact cC 4 0;refine bG 10 [0] ?_;refine cF (fun hc6=>?_) fun hc6=>?_;refine aK 7 [0,0] ?_;refine cZ U (EN _ _ _ _ _) ?_;refine aY 7 [1] ?_;refine cW (.inr U) (Ho:=Hp.only _ []) U (.agg 1 U U T.agg91) (bH _ _) ?_;rotate_left;refine bE 11 [0,1] ?_;refine cW (.inr U) (Ho:=Hp.only _ []) U (.agg 1 U U T.agg91) (bH _ _) ?_;rotate_left;refine bE 10 [0,1] ?_;refine cW (.inr U) (Ho:=Hp.only _ []) U (.agg 1 U U T.agg91) (bH _ _) ?_;rotate_left;all_goals refine ⟨?_,U,U⟩
 all_goals simp_all [uE]
def lh (c:Int):Prop:=-512≤c∧c≤512
instance (c:Int):Decidable (lh c):=inferInstanceAs (Decidable (_∧_))
def vM (f c s d:Int):Int×Int×Bool:=
 if f=1 then (s,d,true)
 else if f=2 then (if s=1 then (2,0,true) else if s=2 then (1,0,true) else if s=5∨s=6 then (s,-d,true) else (0,0,false))
 else if f=5 then (if s=2 then (5,-c,true) else if s=5∧-512≤c*d∧c*d≤512 then (5,c*d,true) else if s=6∧c.tmod d=0 then (5,c.tdiv d,true) else if s=6∧d.tmod c=0 then (6,d.tdiv c,true) else (0,0,false))
 else if f=6 then (if s=2 then (6,-c,true) else if s=6∧-512≤c*d∧c*d≤512 then (6,c*d,true) else (0,0,false))
 else if f=7 then (if s=7∧c+d≤64 then (7,c+d,true) else if s≠8 then (0,0,false) else if c=d then (1,0,true) else if d<c then (7,c - d,true) else (8,d - c,true))
 else if f=8 then (if s=8∧c+d≤64 then (8,c+d,true) else (0,0,false))
 else (0,0,false)
theorem Af {op c:Int} (h:tL op c=true):-512≤c∧c≤512:=by
 unfold tL at h
 repeat' split at h
 all_goals simp only [aO] at h
 all_goals omega
theorem yW {op c:Int} (h:tL op c=true) (ho:op=5∨op=6):c≠0:=by
 unfold tL at h;rw [aE ho,aO] at h;exact h.1
theorem OE {c d:Int} (hc:-512≤c∧c≤512) (hd:-512≤d∧d≤512):-9223372036854775808≤c*d∧c*d≤9223372036854775807:=by
 have h1:c.natAbs≤512:=sU;have h2:d.natAbs≤512:=sU;have h3:(c*d).natAbs≤512*512:=by rw [fM];exact gO h1 h2
 omega
theorem Hb {c d:Int} (hc:-512≤c∧c≤512):-512≤c.tdiv d∧c.tdiv d≤512:=by
 have h3:(c.tdiv d).natAbs≤c.natAbs:=by rw [mC];exact Nat.div_le_self _ _
 omega
theorem ut (G:A2) (f c s d:Int) (hc:tL f c=true) (hd:tL s d=true):Does Tryz.prog 150 [.int .i64 f,.int .i64 c,.int .i64 s,.int .i64 d] G [] (fun v G' Ho=>v=.tuple #[.int .i64 (vM f c s d).1,.int .i64 (vM f c s d).2.1,.bool (vM f c s d).2.2]∧G'=G∧Ho=[]):=by
 have hc2:=Af hc;have hd2:=Af hd;have hm:=OE hc2 hd2;have hq1:=Hb (d:=d) hc2;have hq2:=Hb (d:=c) hd2;have hcz:=yW hc;have hdz:=yW hd;refine D0 Tryz.func150 Tryz.ntmps150 fun w=>?_;refine bJ 20 [] ?_;refine cF (fun hc1=>?_) fun hc1=>?_;refine bE 12 [] ?_;refine lL ?_;rotate_left;refine bJ 6 [] ?_;refine cF (fun hc3=>?_) fun hc3=>?_;refine bJ 12 [] ?_;refine cF (fun hc4=>?_) fun hc4=>?_;refine bE 11 [] ?_;refine lL ?_;rotate_left;refine bJ 6 [] ?_;refine cF (fun hc5=>?_) fun hc5=>?_;refine bE 11 [] ?_;refine lL ?_;rotate_left;refine bJ 7 [] ?_;refine cF (fun hc6=>?_) fun hc6=>?_;refine aK 7 [1] ?_;refine aZ (qL U sU) ?_;refine aY 9 [] ?_;refine lL ?_;rotate_left;refine bJ 5 [] ?_;refine cF (fun hc7=>?_) fun hc7=>?_;refine aK 4 [] ?_;refine aZ (qL U sU) ?_;refine aY 9 [] ?_;refine lL ?_;rotate_left;refine bE 12 [] ?_;refine lL ?_;rotate_left;refine bJ 6 [] ?_;refine cF (fun hc4=>?_) fun hc4=>?_;refine bJ 8 [] ?_;refine cF (fun hc5=>?_) fun hc5=>?_;refine aK 3 [] ?_;refine aZ (qL U sU) ?_;refine aY 9 [] ?_;refine lL ?_;rotate_left;refine aK 5 [] ?_;apply bS 5 39 44 U;intro hg1;refine aB 5 [] ?_;refine aZ (kH U U sU) ?_;refine aB 1 [] ?_;refine cZ U (lf _ _) ?_;refine aB 1 [] ?_;exact cC 5 0;intro hg1;refine aB 5 [] ?_;exact cC 5 0;refine bG 3 [] ?_;refine cF (fun hc6=>?_) fun hc6=>?_;refine aK 4 [] ?_;refine aZ (kH U U sU) ?_;refine aY 9 [] ?_;refine lL ?_;rotate_left;refine aK 5 [] ?_;apply bS 5 51 56 U;intro hg1;refine aB 5 [] ?_;refine aZ (sJ U U sU) ?_;refine aB 3 [] ?_;exact cC 5 0;intro hg1;refine aB 5 [] ?_;exact cC 5 0;refine bG 3 [] ?_;refine cF (fun hc7=>?_) fun hc7=>?_;refine dG ?_;refine dL [] [] T.mixed [[0],[1]] ?_;refine fH 2 [] U (nV U U sU sU) ?_;refine eO [[3],[4],[5]] ?_;refine eU ?_;refine fI 5 [] ?_;refine lL ?_;rotate_left;refine aK 5 [] ?_;apply bS 5 63 68 U;intro hg1;refine aB 5 [] ?_;refine aZ (sJ U U sU) ?_;refine aB 3 [] ?_;exact cC 5 0;intro hg1;refine aB 5 [] ?_;exact cC 5 0;refine bG 3 [] ?_;refine cF (fun hc8=>?_) fun hc8=>?_;refine dG ?_;refine dL [] [] T.mixed [[0],[1]] ?_;refine fH 2 [] U (nV U U sU sU) ?_;refine eO [[3],[4],[5]] ?_;refine eU ?_;refine fI 5 [] ?_;refine lL ?_;rotate_left;refine bE 12 [] ?_;refine lL ?_;rotate_left;refine bJ 6 [] ?_;refine cF (fun hc5=>?_) fun hc5=>?_;refine bJ 8 [] ?_;refine cF (fun hc6=>?_) fun hc6=>?_;refine aK 3 [] ?_;refine aZ (qL U sU) ?_;refine aY 9 [] ?_;refine lL ?_;rotate_left;refine aK 5 [] ?_;apply bS 5 82 87 U;intro hg1;refine aB 5 [] ?_;refine aZ (kH U U sU) ?_;refine aB 1 [] ?_;refine cZ U (lf _ _) ?_;refine aB 1 [] ?_;exact cC 5 0;intro hg1;refine aB 5 [] ?_;exact cC 5 0;refine bG 3 [] ?_;refine cF (fun hc7=>?_) fun hc7=>?_;refine aK 4 [] ?_;refine aZ (kH U U sU) ?_;refine aY 9 [] ?_;refine lL ?_;rotate_left;refine bE 12 [] ?_;refine lL ?_;rotate_left;refine bJ 6 [] ?_;refine cF (fun hc6=>?_) fun hc6=>?_;refine aK 6 [] ?_;apply bS 5 99 104 U;intro hg1;refine aB 9 [] ?_;exact cC 5 0;intro hg1;refine aB 5 [] ?_;exact cC 5 0;refine bG 3 [] ?_;refine cF (fun hc7=>?_) fun hc7=>?_;refine bE 14 [] ?_;refine lL ?_;rotate_left;refine bJ 7 [] ?_;refine cF (fun hc8=>?_) fun hc8=>?_;refine bE 12 [] ?_;refine lL ?_;rotate_left;refine bJ 8 [] ?_;refine cF (fun hc9=>?_) fun hc9=>?_;refine bE 11 [] ?_;refine lL ?_;rotate_left;refine bJ 8 [] ?_;refine cF (fun hc10=>?_) fun hc10=>?_;refine bE 14 [] ?_;refine lL ?_;rotate_left;refine bE 14 [] ?_;refine lL ?_;rotate_left;refine bJ 6 [] ?_;refine cF (fun hc7=>?_) fun hc7=>?_;refine aK 5 [] ?_;apply bS 5 126 131 U;intro hg1;refine aB 9 [] ?_;exact cC 5 0;intro hg1;refine aB 5 [] ?_;exact cC 5 0;refine bG 2 [] ?_;refine cF (fun hc8=>?_) fun hc8=>?_;refine bE 13 [] ?_;refine lL ?_;rotate_left;refine bE 11 [] ?_;refine lL ?_;rotate_left;refine bE 11 [] ?_;refine lL ?_;rotate_left;all_goals refine ⟨?_,U,U⟩
 all_goals clear hc hd hm hq1 hq2 hcz hdz hc2 hd2
 all_goals simp_all [vM]
 all_goals repeat' split
 all_goals first
  | exact ⟨U,U,U⟩
  | (rename_i h;exfalso;omega)
  | (rename_i h;exfalso;first | exact hc7 h.1 h.2 | exact hc8 h.1 h.2)
theorem Xl (c:Int):0≤wH c∧wH c≤9:=by
 unfold wH
 repeat' split
 all_goals omega
theorem Au {i:I5} (h:tL i.op i.c=true):tL (uE i).op (uE i).c=true:=by
 have hp:=Xl i.c;unfold uE
 repeat' split
 all_goals first | exact h | (simp [tL];try omega)
theorem xT {op c:Int} (h:tL op c=true) (ho:op=7∨op=8):1≤c∧c≤64:=by
 unfold tL at h;rw [aC (by omega),aE ho,aO] at h;exact h
theorem TT {c d:Int} (hc:c≠0) (h:c.tmod d=0):c.tdiv d≠0:=by
 intro h0;have e:=Int.mul_tdiv_add_tmod c d;rw [h0,h,cA] at e;omega
theorem Cg {op c:Int} (ho:op=5∨op=6) (h0:c≠0) (h:-512≤c∧c≤512):tL op c=true:=by
 unfold tL;rw [aE ho,aO];exact ⟨h0,h⟩
theorem Kt {op c:Int} (ho:op=7∨op=8) (h:1≤c∧c≤64):tL op c=true:=by
 unfold tL;rw [aC (by omega),aE ho,aO];exact h
theorem Hc {f c s d:Int} (hc:tL f c=true) (hd:tL s d=true):tL (vM f c s d).1 (vM f c s d).2.1=true∨(vM f c s d).2.2=false:=by
 have hc2:=Af hc;have hd2:=Af hd;have hq1:=Hb (d:=d) hc2;have hq2:=Hb (d:=c) hd2;have hcz:=yW hc;have hdz:=yW hd;have hcs:=xT hc;have hds:=xT hd;unfold vM;by_cases h1:f=1
 · rw [aE h1];exact .inl hd
 rw [aC h1];by_cases h2:f=2
 · rw [aE h2];split
   · exact .inl U
   split
   · exact .inl U
   split
   · rename_i h;exact .inl (Cg h (by have:=hdz h;show -d≠0;omega) (by show -512≤-d∧-d≤512;omega))
   exact .inr U
 rw [aC h2];by_cases h5:f=5
 · have hc0:=hcz (.inl h5);rw [aE h5];split
   · exact .inl (Cg (.inl U) (by show -c≠0;omega) (by show -512≤-c∧-c≤512;omega))
   split
   · rename_i h;exact .inl (Cg (.inl U) (Int.mul_ne_zero hc0 (hdz (.inl h.1))) h.2)
   split
   · rename_i h;exact .inl (Cg (.inl U) (TT hc0 h.2) hq1)
   split
   · rename_i h;exact .inl (Cg (.inr U) (TT (hdz (.inr h.1)) h.2) hq2)
   exact .inr U
 rw [aC h5];by_cases h6:f=6
 · have hc0:=hcz (.inr h6);rw [aE h6];split
   · exact .inl (Cg (.inr U) (by show -c≠0;omega) (by show -512≤-c∧-c≤512;omega))
   split
   · rename_i h;exact .inl (Cg (.inr U) (Int.mul_ne_zero hc0 (hdz (.inr h.1))) h.2)
   exact .inr U
 rw [aC h6];by_cases h7:f=7
 · have h3:=hcs (.inl h7);rw [aE h7];split
   · rename_i h;have h4:=hds (.inl h.1);exact .inl (Kt (.inl U) (by show 1≤c+d∧c+d≤64;omega))
   split
   · exact .inr U
   rename_i h8;have h4:=hds (.inr sU);split
   · exact .inl U
   split
   · exact .inl (Kt (.inl U) (by show 1≤c - d∧c - d≤64;omega))
   exact .inl (Kt (.inr U) (by show 1≤d - c∧d - c≤64;omega))
 rw [aC h7];by_cases h8:f=8
 · have h3:=hcs (.inr h8);rw [aE h8];split
   · rename_i h;have h4:=hds (.inr h.1);exact .inl (Kt (.inr U) (by show 1≤c+d∧c+d≤64;omega))
   exact .inr U
 rw [aC h8];exact .inr U
section
attribute [local irreducible] uE vM wH tL
def uP (a b:I5):I5×Bool:=
 if b.op=3∨b.op=4∨b.a≠a.to∨b.to≠a.to then (⟨0,0,0,0,0⟩,false)
 else if (vM a.op a.c b.op b.c).2.2=true then (uE ⟨(vM a.op a.c b.op b.c).1,b.to,a.a,0,(vM a.op a.c b.op b.c).2.1⟩,true) else (⟨0,0,0,0,0⟩,false)
theorem c96 (G:A2) (hT:TabOk G) (a b:I5) (ha:tL a.op a.c=true) (hb:tL b.op b.c=true) :
 Does Tryz.prog 96 [.agg (A0.enc a).toArray,.agg (A0.enc b).toArray] G [] (fun v G' Ho=>v=.tuple #[.agg (A0.enc (uP a b).1).toArray,.bool (uP a b).2]∧G'=G∧Ho=[]):=by
 have ht:=Hc ha hb;refine D0 Tryz.func96 Tryz.ntmps96 fun w=>?_;refine aK 2 [] ?_;refine eG 0 fun b1=>?_;refine eG 1 fun b2=>?_;refine aV 2 U T.zero91 fun b3=>?_;refine aS 10 [1] ?_;apply cJ 4 12 16 U;intro hg1;refine aB 7 [1] ?_;exact cC 4 0;intro hg1;refine aB 4 [] ?_;exact cC 4 0;refine aB 1 [] ?_;apply cJ 6 17 23 U;intro hg1;refine aB 11 [1,0] ?_;exact cC 6 0;intro hg1;refine aB 6 [] ?_;exact cC 6 0;refine aB 1 [] ?_;apply cJ 6 24 30 U;intro hg1;refine aB 11 [1,0] ?_;exact cC 6 0;intro hg1;refine aB 6 [] ?_;exact cC 6 0;refine bG 2 [] ?_;refine cF (fun hc1=>?_) fun hc1=>?_;refine aK 2 [] ?_;refine aZ (cQ (cs:=[_,_,_,_,_]) T.st91 U U U) ?_;refine aY 6 [2] ?_;refine gD (.inr U) (Ho:=Hp.only _ []) U (.agg 2 U U T.agg91) (.tmp U) (bH _ _) ?_;rotate_left;refine aK 12 [0,0,1,1] ?_;refine cZ U (ut _ _ _ _ _ sV sV) ?_;refine bG 16 [] ?_;refine mE U (fun hc2=>?_) fun hc2=>?_;refine aK 2 [] ?_;refine aZ (cQ (cs:=[_,_,_,_,_]) T.st91 U U U) ?_;refine aY 6 [2] ?_;refine gD (.inr U) (Ho:=Hp.only _ []) U (.agg 2 U U T.agg91) (.tmp U) (bH _ _) ?_;rotate_left;refine aK 10 [1,0] ?_;refine cZ U (EN _ _ _ _ _) ?_;rotate_left
 · refine ⟨?_,U,U⟩;rw [uP,aE (by omega)];rfl
 · refine ⟨?_,U,U⟩;rw [uP,aC (by omega),aC (by simpa using hc2)];rfl
 have hok:(vM a.op a.c b.op b.c).2.2=true:=by simpa using hc2
 have hcf:tL (vM a.op a.c b.op b.c).1 (vM a.op a.c b.op b.c).2.1=true:=by
  rcases ht with h | h
  · exact h
  rw [h] at hok;cases hok
 refine cZ U (c95 _ hT ⟨(vM a.op a.c b.op b.c).1,b.to,a.a,0,(vM a.op a.c b.op b.c).2.1⟩ (Af hcf)) ?_;refine aY 5 [2] ?_;refine gD (.inr U) (Ho:=Hp.only _ []) U (.agg 2 U U T.agg91) (.tmp U) (bH _ _) ?_;refine ⟨?_,U,U⟩;rw [uP,aC (by omega),aE hok]
theorem Ch {i:I5} {r:Int} (h:tH i r=true):tL i.op i.c=true:=by
 unfold tH at h;rw [aF,aF] at h;exact h.1.2
end
section
attribute [local irreducible] vM tL
def tw (m:Nat):Int:=((2 ^ m:Nat):Int)
theorem ef {c:Int} (h:wH c≠0):∃ m:Nat,1≤m∧m≤9∧c=tw m∧wH c=m:=by
 rcases Ds h with rfl | rfl | rfl | rfl | rfl | rfl | rfl | rfl | rfl
 · exact ⟨1,by decide⟩
 · exact ⟨2,by decide⟩
 · exact ⟨3,by decide⟩
 · exact ⟨4,by decide⟩
 · exact ⟨5,by decide⟩
 · exact ⟨6,by decide⟩
 · exact ⟨7,by decide⟩
 · exact ⟨8,by decide⟩
 exact ⟨9,by decide⟩
attribute [local irreducible] wH
attribute [local irreducible] uE
end
def Ie (i:I5):Bool:=decide (i.op=1∧i.to=i.a)
def yD:List Sl.Instr→Sl.Instr→List Sl.Instr
 | [],b=>if Ie b=true then [] else [b]
 | a :: s,b=>if Ie b=true then a :: s else if (uP a b).2=true then yD s (uP a b).1 else b :: a :: s
def Dh (L:List I5) (b:I5):List Sl.Instr:=(yD L.reverse b).reverse
def Sn (l:List I5):List Sl.Instr:=l.foldl (fun s i=>yD s (uE i)) []
def zW (p:PV) (k:Nat):List Sl.Instr:=(Sn (p.code.take k)).reverse
def Av (p:PV):PV:=⟨p.ins,p.regs,(Sn p.code).reverse,p.outs⟩
theorem So {L:List I5} {b:I5} (h:Ie b=true):Dh L b=L:=by
 unfold Dh;cases hL:L.reverse with
 | nil=>rw [yD,aE h,←hL,qN]
 | cons a s=>rw [yD,aE h,←hL,qN]
theorem OF {b:I5} (h:¬Ie b=true):Dh [] b=[b]:=by
 unfold Dh;rw [List.reverse_nil,yD,aC h];rfl
theorem Sp {M:List I5} {a b:I5} (h:¬Ie b=true) (hm:(uP a b).2=true):Dh (M++[a]) b=Dh M (uP a b).1:=by
 unfold Dh;rw [List.reverse_append,List.reverse_singleton,List.singleton_append,yD,aC h,aE hm]
theorem Sq {M:List I5} {a b:I5} (h:¬Ie b=true) (hm:¬(uP a b).2=true):Dh (M++[a]) b=M++[a]++[b]:=by
 unfold Dh;rw [List.reverse_append,List.reverse_singleton,List.singleton_append,yD,aC h,aC hm];simp
theorem EO {p:PV} {k:Nat} (h:k<p.code.length):zW p (k+1)=Dh (zW p k) (uE (p.code[((k:Nat):Int).toNat]?.getD default)):=by
 unfold zW Dh Sn;rw [qN,dA,aG,aA h,List.foldl_append];rfl
theorem Sr (p:PV):zW p p.code.length=(Av p).code:=by unfold zW Av;rw [bI]
theorem EP (p:PV):zW p 0=[]:=rfl
theorem EQ:∀ (s:List I5) (b:I5),(yD s b).length≤s.length+1
 | [],b=>by unfold yD;split <;> simp
 | a :: s,b=>by
   unfold yD;split
   · simp
   split
   · have:=EQ s (uP a b).1;simp only [aU];omega
   simp
theorem AC (l:List I5) (s:List Sl.Instr):(l.foldl (fun s i=>yD s (uE i)) s).length≤s.length+l.length:=by
 induction l generalizing s with
 | nil=>simp
 | cons x l ih=>have h1:=ih (yD s (uE x));have h2:=EQ s (uE x);simp only [List.foldl_cons,aU];omega
theorem Ss (p:PV) (k:Nat):(zW p k).length≤k:=by
 have:=AC (p.code.take k) [];unfold zW Sn;simp only [List.length_reverse,cD,bM] at *;omega
theorem ER (p:PV):(Av p).code.length≤p.code.length:=by rw [←Sr];exact Ss p _
theorem Su {q:I5→Prop} (hm:∀ a b,q a→q b→(uP a b).2=true→q (uP a b).1):∀ (s:List I5) (b:I5),(∀ i∈s,q i)→q b→∀ i∈yD s b,q i
 | [],b,_,hb=>by
   unfold yD;split
   · simp
   · simpa using hb
 | a :: s,b,hs,hb=>by
   unfold yD;split
   · exact hs
   split
   · rename_i h;exact Su hm s _ (fun i hi=>hs i (aL _ hi)) (hm a b (hs a aQ) hb h)
   intro i hi;rcases dD.1 hi with rfl | hi
   · exact hb
   exact hs i hi
theorem Sv {q:I5→Prop} (hm:∀ a b,q a→q b→(uP a b).2=true→q (uP a b).1) (hp:∀ i,q i→q (uE i)) (l:List I5) (h:∀ i∈l,q i):∀ i∈Sn l,q i:=by
 have aux:∀ (l s:List I5),(∀ i∈l,q i)→(∀ i∈s,q i)→∀ i∈l.foldl (fun s i=>yD s (uE i)) s,q i:=by
  intro l;induction l with
  | nil=>intro s _ hs;exact hs
  | cons x l ih =>
    intro s hl hs;exact ih _ (fun i hi=>hl i (aL _ hi)) (Su hm s _ hs (hp x (hl x aQ)))
 exact aux l [] h (fun i hi=>by simp at hi)
def KQ (i:I5):Prop:=tL i.op i.c=true
theorem Ku {a b:I5} (ha:KQ a) (hb:KQ b) (h:(uP a b).2=true):KQ (uP a b).1:=by
 have ht:=Hc (f:=a.op) (c:=a.c) (s:=b.op) (d:=b.c) ha hb;unfold uP at h ⊢;split at h
 · cases h
 rename_i hn;rw [aC hn];split at h
 · rename_i hy;rw [aE hy];rcases ht with ht | ht
   · exact Au (i:=⟨_,b.to,a.a,0,_⟩) ht
   rw [hy] at ht;cases ht
 cases h
theorem HW {p:PV} (h:∀ i∈p.code,KQ i) (k:Nat):∀ i∈zW p k,KQ i:=fun i hi=>by
 unfold zW at hi;exact Sv (q:=KQ) (fun a b ha hb h=>Ku ha hb h) (fun i hi=>Au hi) _ (fun i hi=>h i (qP hi)) i (sO.1 hi)
section
attribute [local irreducible] uE uP Dh zW
theorem Gf {p:PV} (hR:sW p=true):∀ i∈p.code,tH i p.regs=true:=by
 have h:(uH p).2=false:=by simpa [sW] using hR
 unfold uH at h;split at h
 · cases h
 split at h
 · cases h
 rename_i hb;unfold Cb at hb;rw [gB] at hb;intro i hi;simpa using hb i hi
theorem OG {p:PV} (hR:sW p=true):∀ i∈p.code,KQ i:=fun i hi=>Ch (Gf hR i hi)
theorem TU {l:List I5} {k:Nat} (h:k<l.length):l[((k:Nat):Int).toNat]?.getD default∈l:=by
 rw [aG,aA h];exact bY h
theorem ES (M:List I5) (t:I5) (m:List Value):Row 91 (M++[t]) m=Row 91 M (A0.enc t++m):=by
 unfold Row;rw [xM];simp [uD]
theorem KR {a:J0 Addr} {c:Nat} {M:List I5} {t:I5} {m:List Value} (h:A3 a c (M++[t]) m):A3 a c M (A0.enc t++m):=by
 rcases h with ⟨_,h,_⟩ | ⟨b,h1,h2,h3,h4⟩
 · simp at h
 refine .inr ⟨b,h1,?_,?_,h4⟩
 · rw [aD,gF,fC] at h2;rw [aD,A0.len];omega
 simp at h3;omega
theorem subA_zero {α:Type} [A0 α] {a:J0 Addr} {c e sz:Nat} {xs:List α} {j:List Value} (h:A3 a e xs j):B7 a c 0 sz=a:=by
 unfold B7;split
 · rfl
 rcases h with ⟨h1,_⟩ | ⟨b,h1,_⟩
 · rw [h1];rfl
 rw [h1];simp [Addr.add]
theorem uu (G:A2) (hT:TabOk G) (p:PV) (ac ao:J0 Addr) (cc co:Nat) (hc:Arr G ac p.code) (ho:Arr G ao p.outs) (h1:p.code.length≤1048576) (h2:p.outs.length≤1048576) (hR:sW p=true) :
 Does Tryz.prog 47 [.agg (J1 p ac cc ao co)] G [] (fun v G' Ho =>
  ∃ bc bo dc do_ j1 j2,v=.tuple #[.agg #[.int .i64 p.ins,.int .i64 p.regs,.slice bc (Av p).code.length dc,.slice bo p.outs.length do_],.int .i64 0]∧
   A3 bc dc (Av p).code j1∧A3 bo do_ p.outs j2∧Ho=[(0,bc.map (·.block),Row 91 (Av p).code j1),(1,bo.map (·.block),Row 3 p.outs j2)]∧G'=G):=by
 have hcheck:(uH p).2=false:=by simpa [sW] using hR
 have hok:=OG hR;refine D0 Tryz.func47 Tryz.ntmps47 fun w=>?_;refine dK 0 (Row 91 ([]:List I5) []) ?_;refine aK 2 [] ?_;refine eG 1 fun b1=>?_;refine aV 2 U T.zero26 fun b2=>?_;refine bG 3 [] ?_;refine pH ?_;refine aK 3 [1] ?_;refine cZ U (jm _ _ _ _ _ _ sV sV sU sU) ?_;refine bG 14 [] ?_;refine cF (fun hc1=>?_) fun hc1=>?_;refine aK 2 [] ?_;refine aZ (cQ (cs:=[_,_,_,_]) T.st26 U U U) ?_;refine aY 7 [2] ?_;refine nG ?_;rotate_left;refine bJ 20 [1] ?_;rotate_left
 · rw [hcheck] at hc1;exact absurd U hc1
 refine fY (ι:=Nat×List I5×(J0 Addr×Nat×List Value)) (fun (k,xs,(b,d,j))=>([(24,.int .i64 (k:Int)),(6,.slice b xs.length d),(23,.int .i64 (↑p.code.length:Int)),(22,.slice ac p.code.length cc),(3,.int .i64 0),(2,.pointer (some ⟨b2,0,none⟩)),(1,.pointer (some ⟨b1,0,none⟩))],[(0,b.map (·.block),Row 91 xs j),(2,some b2,.cells #[.int .i64 0,.int .i64 0,.slice none 0 0,.slice none 0 0] 26),(1,some b1,.cells (J1 p ac cc ao co) 26)])) (fun (k,xs,(b,d,j))=>k≤p.code.length∧xs=zW p k∧A3 b d xs j) (fun (k,xs,(b,d,j))=>p.code.length - k) ((0,[],(none,0,[]))) (⟨aP _,by rw [EP],dN⟩) ⟨U,U,U,U,U,U,U,I3⟩ ⟨U,U,U,I3⟩ fun ⟨k,xs,(b,d,j)⟩=>fun hk=>?_;obtain ⟨hk1,hxs,hob⟩:=hk;have hxl:xs.length≤k:=by rw [hxs];exact Ss p k
 rcases aN k p.code.length with hlt | hge
 · clear hc1;have hst:=EO (p:=p) hlt;have hx0:=hok _ (TU hlt);have hx1:=Af hx0;have hx2:=Au hx0;have hxo:=HW hok k;rw [←hxs] at hxo hst;refine aK 13 [1] ?_;refine gG (α:=Instr) T.sl23 ?_;refine mL T.agg91 ?_;refine aV 3 U T.zero91 fun b3=>?_;refine bG 3 [3] ?_;refine pH ?_;refine aK 3 [3] ?_;refine cZ U (c95 _ sV _ sV) ?_;refine aV 4 U T.zero91 fun b4=>?_;refine bG 8 [4] ?_;refine fY (ι:=List I5×I5×(J0 Addr×Nat×List Value)) (fun (M,bi,(a,e,m))=>([(6,.slice a M.length e),(22,.slice ac p.code.length cc),(23,.int .i64 (p.code.length:Int)),(9,.pointer (some (Addr.mk b4 0 none))),(24,.int .i64 (↑k:Int)),(3,.int .i64 0),(2,.pointer (some ⟨b2,0,none⟩)),(1,.pointer (some ⟨b1,0,none⟩))],[(0,a.map (·.block),Row 91 M m),(4,some b4,.cells (A0.enc bi).toArray 91),(3,some b3,.cells (List.toArray (A0.enc (Option.getD p.code[Int.toNat (↑k:Int)]? default))) 91),(2,some b2,.cells #[.int .i64 0,.int .i64 0,.slice none 0 0,.slice none 0 0] 26),(1,some b1,.cells (J1 p ac cc ao co) 26)])) (fun (M,bi,(a,e,m))=>zW p (k+1)=Dh M bi∧A3 a e M m∧(∀ i∈M,KQ i)∧KQ bi∧M.length≤k) (fun (M,bi,(a,e,m))=>M.length) ((xs,_,(b,d,j))) (⟨hst,hob,hxo,hx2,hxl⟩) ⟨U,U,U,U,U,U,U,U,I3⟩ ⟨U,U,U,U,U,I3⟩ fun ⟨M,bi,(a,e,m)⟩=>fun hk=>?_;obtain ⟨hpu,hoM,hMo,hbo,hMk⟩:=hk;have hbo':tL bi.op bi.c=true:=hbo;rcases List.eq_nil_or_concat M with rfl | ⟨M',t,rfl⟩
   · have hl0:(([]:List I5).length:Int)=0:=rfl;refine aK 8 [4] ?_;apply bS 6 33 39 U;intro hg1;refine aB 11 [4,4] ?_;exact cC 6 0;intro hg1;refine aB 6 [] ?_;exact cC 6 0;refine bG 2 [] ?_;refine cF (fun hc1=>?_) fun hc1=>?_;refine bE 6 [] ?_;refine Wa ?_;refine fI 6 [] ?_;rotate_left;refine aK 20 [1,4] ?_;refine eH (α:=Instr) 5 [(bi)] U T.sl23 T.el91 U U U U U fun b5=>?_;refine iP (α:=Instr) 0 T.sl23 T.el91 (eP 5 U) fun a1 c1 junk1 ho1=>?_;refine aY 2 [] ?_;refine sS ?_;refine fI 6 [] ?_;rotate_left
     · refine cO ((k+1,[],(a,e,m))) ?_ ?_
       · exact ⟨by omega,by rw [hpu,So (cL hc1)],hoM⟩
       show p.code.length - (k+1)<p.code.length - k;omega
     refine cO ((k+1,_,(a1,c1,junk1))) ?_ ?_
     · exact ⟨by omega,by rw [hpu,OF (fun h=>hc1 (gX h))];rfl,ho1⟩
     show p.code.length - (k+1)<p.code.length - k;omega
   rw [List.concat_eq_append] at *;have hlen:(M'++[t]).length=M'.length+1:=tW;have hto:KQ t:=hMo t tW;have hget:(M'++[t])[(((M'++[t]).length:Int) - 1).toNat]?.getD default=t:=by
    have e:(((M'++[t]).length:Int) - 1).toNat=M'.length:=sU;rw [e];simp
   have hto':tL ((M'++[t])[(((M'++[t]).length:Int) - 1).toNat]?.getD default).op ((M'++[t])[(((M'++[t]).length:Int) - 1).toNat]?.getD default).c=true:=by rw [hget];exact hto
   have hcap:=hoM.le;have hcut:(((M'++[t]).length:Int) - 1).toNat=M'.length:=sU;have hM'o:∀ i∈M',KQ i:=fun i hi=>hMo i (by simp [hi]);refine aK 8 [4] ?_;apply bS 6 33 39 U;intro hg1;refine aB 11 [4,4] ?_;exact cC 6 0;intro hg1;refine aB 6 [] ?_;exact cC 6 0;refine bG 2 [] ?_;refine cF (fun hc1=>?_) fun hc1=>?_;refine bE 6 [] ?_;refine Wa ?_;refine fI 6 [] ?_;rotate_left;refine bJ 14 [0] ?_;refine dL [1,2,3,4,0] [(0,12),(4,12),(3,12),(2,12),(1,12)] T.mixed [[0],[1],[2],[3]] ?_;refine iA (α:=Instr) 4 T.sl23 ?_;refine fH 5 [0] U (MI 0 T.agg91 U U sV sU) ?_;refine eO [[6,4]] ?_;refine oO 7 11 ?_ ?_;refine cZ U (c96 _ sV _ _ sV sV) ?_;refine bW ?_;refine eO [[8],[9],[10]] ?_;refine dB 11 ?_;refine aV 5 U T.zero91 fun b5=>?_;refine cY 12 ?_;refine aB 1 [5] ?_;refine bW ?_;refine eO [[13]] ?_;refine eU ?_;refine oS 8 [] ?_;refine mE U (fun hc2=>?_) fun hc2=>?_;refine aK 9 [4] ?_;refine eH (α:=Instr) 6 [(bi)] U T.sl23 T.el91 U U U U U fun b6=>?_;refine iP (α:=Instr) 0 T.sl23 T.el91 (eP 6 U) fun a1 c1 junk1 ho1=>?_;refine aY 2 [] ?_;refine sS ?_;refine fI 6 [] ?_;rotate_left;refine aK 8 [] ?_;refine aZ (Jq T.sl23 U U sU) ?_;refine aY 8 [5,4] ?_;rotate_left;refine aV 5 U T.zero91 fun b5=>?_;refine cY 7 ?_;refine cZ U (c96 _ sV _ _ sV sV) ?_;refine bW ?_;refine eO [[8],[9],[10]] ?_;refine dB 12 ?_;refine aB 1 [5] ?_;refine bW ?_;refine eO [[13]] ?_;refine eU ?_;refine oS 8 [] ?_;refine mE U (fun hc2=>?_) fun hc2=>?_;refine aK 9 [4] ?_;refine eH (α:=Instr) 6 [(bi)] U T.sl23 T.el91 U U U U U fun b6=>?_;refine iP (α:=Instr) 0 T.sl23 T.el91 (eP 6 U) fun a1 c1 junk1 ho1=>?_;refine aY 2 [] ?_;refine sS ?_;refine fI 6 [] ?_;rotate_left;refine aK 8 [] ?_;refine aZ (Jq T.sl23 U U sU) ?_;refine aY 8 [5,4] ?_;rotate_left
   · refine cO ((k+1,M'++[t],(a,e,m))) ?_ ?_
     · exact ⟨by omega,by rw [hpu,So (cL hc1)],hoM⟩
     show p.code.length - (k+1)<p.code.length - k;omega
   · rw [hget] at hc2;refine cO ((k+1,_,(a1,c1,junk1))) ?_ ?_
     · exact ⟨by omega,by rw [hpu,Sq (fun h=>hc1 (gX h)) (by simpa using hc2)],ho1⟩
     show p.code.length - (k+1)<p.code.length - k;omega
   · rw [hget] at hc2 ⊢;have hmt:(uP t bi).2=true:=by simpa using hc2
     refine iV 0 (Row 91 M' (A0.enc t++m)) U (ES M' t m) ?_;refine dW 6 U (show _=Value.slice a M'.length e by rw [hcut,subA_zero hoM]) ?_;refine cO ((M',(uP t bi).1,(a,e,A0.enc t++m))) ?_ ?_
     · exact ⟨by rw [hpu,Sp (fun h=>hc1 (gX h)) hmt],KR hoM,hM'o,Ku hto hbo hmt,by omega⟩
     show M'.length<(M'++[t]).length;omega
   · rw [hget] at hc2;refine cO ((k+1,_,(a1,c1,junk1))) ?_ ?_
     · exact ⟨by omega,by rw [hpu,Sq (fun h=>hc1 (gX h)) (by simpa using hc2)],ho1⟩
     show p.code.length - (k+1)<p.code.length - k;omega
   rw [hget] at hc2 ⊢;have hmt:(uP t bi).2=true:=by simpa using hc2
   refine iV 0 (Row 91 M' (A0.enc t++m)) U (ES M' t m) ?_;refine dW 6 U (show _=Value.slice a M'.length e by rw [hcut,subA_zero hoM]) ?_;refine cO ((M',(uP t bi).1,(a,e,A0.enc t++m))) ?_ ?_
   · exact ⟨by rw [hpu,Sp (fun h=>hc1 (gX h)) hmt],KR hoM,hM'o,Ku hto hbo hmt,by omega⟩
   show M'.length<(M'++[t]).length;omega
 have hk:k=p.code.length:=sU;subst hk;rw [Sr] at hxs;subst hxs;refine bJ 13 [0] ?_;refine dL [1,2,0] [(2,9)] T.mixed [[0],[1,1],[2],[3,1],[4],[5],[6,1]] ?_;refine dB 7 ?_;refine cU 3 U (ee _ _ _ _ sV sU) fun v1 G1 Ho1 hle1 hp=>?_;obtain ⟨lb1,ld1,lj1,rfl,hlb1,rfl,rfl⟩:=hp;refine bW ?_;refine fH 8 [] U (cQ (cs:=[_,_,_,_]) T.st26 U U U) ?_;refine dB 9 ?_;refine aB 1 [2] ?_;refine bW ?_;refine eO [[10]] ?_;refine eU ?_;refine fI 2 [] ?_;refine nG ?_;refine lW [0,3,2] tI (gD (.inr U) (Ho:=Hp.only _ [0,1]) U (.agg 2 U U T.agg26) (.tmp U) (bH _ _) ?_);exact ⟨_,_,_,_,_,_,U,hob,hlb1,U,U⟩
end
theorem Xm {i:I5} {r:Int} (h:tH i r=true):tH (uE i) r=true:=by
 have hc:=Au (i:=i) (Ch h);rw [tS] at h;obtain ⟨⟨h1,h2,h3,h4,h5,h6⟩,h7⟩:=h;have hp:=Xl i.c;by_cases e3:i.op=3
 · have e:uE i=if i.a=i.b then ⟨7,i.to,i.a,0,1⟩ else i:=by rw [uE,aE e3]
   rw [e];split
   · rw [tS];simp;omega
   rw [tS];exact ⟨⟨h1,h2,h3,h4,h5,h6⟩,h7⟩
 by_cases h5':i.op=5∨i.op=6
 · have e:uE i=(if i.c=1 then ⟨1,i.to,i.a,0,0⟩ else if i.c=-1 then ⟨2,i.to,i.a,0,0⟩ else if wH i.c≠0 then (if i.op=5 then ⟨7,i.to,i.a,0,wH i.c⟩ else ⟨8,i.to,i.a,0,wH i.c⟩) else i):=by rw [uE,aC e3,aE h5']
   rw [e];split
   · rw [tS];simp;omega
   split
   · rw [tS];simp;omega
   split
   · split
     · rw [tS];simp;omega
     rw [tS];simp;omega
   rw [tS];exact ⟨⟨h1,h2,h3,h4,h5,h6⟩,h7⟩
 have e:uE i=i:=by rw [uE,aC e3,aC h5']
 rw [e,tS];exact ⟨⟨h1,h2,h3,h4,h5,h6⟩,h7⟩
theorem OH {f c s d:Int} (hs:1≤s∧s≤8∧¬(s=3∨s=4)) (ho:(vM f c s d).2.2=true):1≤(vM f c s d).1∧(vM f c s d).1≤8∧¬((vM f c s d).1=3∨(vM f c s d).1=4):=by
 unfold vM at ho ⊢
 repeat' split
 all_goals first
  | exact hs
  | (simp only [];omega)
  | simp_all
theorem TV {a b:I5} {r:Int} (ha:tH a r=true) (hb:tH b r=true) (h:(uP a b).2=true):tH (uP a b).1 r=true:=by
 have ht:=Hc (f:=a.op) (c:=a.c) (s:=b.op) (d:=b.c) (Ch ha) (Ch hb);rw [tS] at ha hb;obtain ⟨⟨a1,a2,a3,a4,a5,a6⟩,a7⟩:=ha;obtain ⟨⟨b1,b2,b3,b4,b5,b6⟩,b7⟩:=hb;unfold uP at h ⊢;split at h
 · cases h
 rename_i hn;rw [aC hn];split at h
 · rename_i hy;rw [aE hy];refine Xm ?_;rcases ht with ht | ht
   · have hop:1≤(vM a.op a.c b.op b.c).1∧(vM a.op a.c b.op b.c).1≤8∧¬((vM a.op a.c b.op b.c).1=3∨(vM a.op a.c b.op b.c).1=4):=OH sU hy;rw [tS];refine ⟨⟨hop.1,hop.2.1,b3,b4,a5,a6⟩,?_⟩;rw [aC hop.2.2];refine ⟨U,?_⟩;unfold tL at ht
     repeat' split at ht
     all_goals simp_all
   rw [hy] at ht;cases ht
 cases h
theorem OI {p:PV} (hh:vJ p=true) (hm:∀ i∈p.code,tH i p.regs=true):sW p=true:=by
 have hb:Cb p=none:=by
  unfold Cb;rw [gB];intro i hi;simp [hm i hi]
 unfold sW uH;rw [hh,hb];rfl
theorem HX {p:PV} (hR:sW p=true):vJ p=true:=by
 have h:(uH p).2=false:=by simpa [sW] using hR
 unfold uH at h;split at h
 · cases h
 rename_i hn;simpa using hn
theorem Sw {p:PV} (hR:sW p=true):sW (Av p)=true:=by
 have hh:=HX hR;have hl:=ER p;refine OI ?_ ?_
 · unfold vJ at hh ⊢;rw [aF,aO] at hh ⊢;obtain ⟨⟨h1,h2,h3,h4,h5,h6⟩,h7⟩:=hh;exact ⟨⟨h1,h2,h3,by omega,h5,h6⟩,h7⟩
 intro i hi;exact Sv (q:=fun i=>tH i p.regs=true) (fun a b ha hb h=>TV ha hb h) (fun i h=>Xm h) p.code (Gf hR) i (sO.1 hi)
section
attribute [local irreducible] uE uP Dh zW Av sW
end
theorem c98 (G:A2) (t:Tab) (bt bk bf:Nat) (a:J0 Addr) (c:Nat) (junk:List Value) (n:Int) (i:I5) (ho:A3 a c t.held junk) (hl:t.held.length≤128) (hm:tH i t.held.length=true)
 (hkf:∀ k,A9 t.known k=none→A9 t.first k=none) (hn:0≤t.next∧t.next≤1000000) :
 Does Tryz.prog 98 [.pointer (some ⟨bt,0,none⟩),.int .i64 n,.agg (A0.enc i).toArray] G (AB t bt bk bf a c junk)
  (fun r G' Ho=>r=.tuple #[.int .i64 (reckonP t n i).1.1,.int .i64 (reckonP t n i).1.2]∧G'=G∧Ho=AB (reckonP t n i).2 bt bk bf a c junk):=by
 have hm':=hm;rw [tS] at hm';obtain ⟨⟨hop1,hop2,hto1,hto2,ha1,ha2⟩,-⟩:=hm';refine D0 Tryz.func98 Tryz.ntmps98 fun w=>?_;rcases hk0:A9 t.known (keyOf t.held i) with _ | v
 · have hf0:=hkf _ hk0;refine aK 2 [] ?_;refine eG 4 fun b1=>?_;refine bG 12 [4] ?_;refine cF (fun hc1=>?_) fun hc1=>?_;refine dG ?_;refine dL [3,2,1,0,4] [] T.mixed [[0],[1],[2],[3,0],[4],[5,4]] ?_;refine iA (α:=Int) 6 T.sl24 ?_;refine fH 7 [1,0] U (eX 1 0 T.one3 U U sV sU U U) ?_;refine eO [[8],[9]] ?_;refine eU ?_;refine fI 3 [] ?_;refine Ar.p2 [0,1,2,3] ?_;rotate_left;refine aK 6 [4] ?_;refine dS 0 U T.fn151 U (ld _ _ _ _ _ _ _ _ _ sV sU sV) (tB ⟨U,U,U,U,I3⟩) ?_;refine aV 5 U T.zero230 fun b2=>?_;refine bG 5 [5] ?_;refine dL [3,2,1,0,4,5] [] T.mixed [[0],[1],[2],[3,0],[4,5]] ?_;refine fH 5 [2] U (Qx 2 T.mp166 U U U) ?_;refine eO [[6],[7],[8],[9],[10]] ?_;refine eU ?_;refine oS 7 [] ?_;refine mE U (fun hc2=>?_) fun hc2=>?_;refine dG ?_;refine dL [3,2,1,0,4,5] [(2,20),(3,20),(2,18),(3,18),(2,17),(3,17),(2,15),(3,15)] T.mixed [[0],[1],[2],[3,0],[4,5],[5],[6],[7],[8,0],[9,5],[10],[11],[12],[13,0],[14]] ?_;refine dB 15 ?_;refine Wl.mapEntry 2 U T.mp166 U U U sV ?_;refine bW ?_;refine eO [[16]] ?_;refine dB 17 ?_;refine rE 2 U U U U ?_;refine cY 18 ?_;refine Wl.mapEntry 3 U T.mp166 U U U sV ?_;refine bW ?_;refine eO [[19]] ?_;refine dB 20 ?_;refine rE 3 U U U U ?_;refine fB ?_;refine oS 13 [0,0] ?_;refine dL [1,4,5,2,3,0] [] T.mixed [[0],[1],[2],[3,0],[4,5]] ?_;refine fH 5 [2] U (jY 2 T.mp166 U U U) ?_;refine eO [[6],[7],[8],[9,0],[10,5]] ?_;refine fH 11 [3] U (jY 3 T.mp166 U U U) ?_;refine eO [[12],[13]] ?_;refine eU ?_;refine fI 2 [] ?_;refine Ar.p2 [0,1,2,3] ?_;rotate_left;refine bJ 3 [] ?_;refine dL [3,2,1,0,4,5] [] T.mixed [[0],[1],[2],[3,0],[4,5]] ?_;refine fH 5 [2] U (jY 2 T.mp166 U U U) ?_;refine eO [[6],[7],[8],[9,0],[10,5]] ?_;refine fH 11 [3] U (jY 3 T.mp166 U U U) ?_;refine eO [[12],[13]] ?_;refine eU ?_;refine fI 2 [] ?_;refine Ar.p2 [0,1,2,3] ?_;rotate_left
   · have h:reckonP t n i=((t.held[i.a.toNat]?.getD default,-1),t):=by unfold reckonP;rw [aE hc1]
     rw [h];exact ⟨U,U,U⟩
   · have h:reckonP t n i=((t.next,n),{ t with known:=t.known++[(keyOf t.held i,t.next)],first:=t.first++[(keyOf t.held i,n)],next:=t.next+1 }):=by unfold reckonP;rw [aC hc1,hk0]
     rw [h,Wk hk0,Wk hf0];exact ⟨U,U,U⟩
   rw [hk0] at hc2;cases hc2
 refine aK 2 [] ?_;refine eG 4 fun b1=>?_;refine bG 12 [4] ?_;refine cF (fun hc1=>?_) fun hc1=>?_;refine dG ?_;refine dL [3,2,1,0,4] [] T.mixed [[0],[1],[2],[3,0],[4],[5,4]] ?_;refine iA (α:=Int) 6 T.sl24 ?_;refine fH 7 [1,0] U (eX 1 0 T.one3 U U sV sU U U) ?_;refine eO [[8],[9]] ?_;refine eU ?_;refine fI 3 [] ?_;refine Ar.p2 [0,1,2,3] ?_;rotate_left;refine aK 6 [4] ?_;refine dS 0 U T.fn151 U (ld _ _ _ _ _ _ _ _ _ sV sU sV) (tB ⟨U,U,U,U,I3⟩) ?_;refine aV 5 U T.zero230 fun b2=>?_;refine bG 5 [5] ?_;refine dL [3,2,1,0,4,5] [] T.mixed [[0],[1],[2],[3,0],[4,5]] ?_;refine fH 5 [2] U (Qx 2 T.mp166 U U U) ?_;refine eO [[6],[7],[8],[9],[10]] ?_;refine eU ?_;refine oS 7 [] ?_;refine mE U (fun hc2=>?_) fun hc2=>?_;refine dG ?_;refine dL [3,2,1,0,4,5] [(2,20),(3,20),(2,18),(3,18),(2,17),(3,17),(2,15),(3,15)] T.mixed [[0],[1],[2],[3,0],[4,5],[5],[6],[7],[8,0],[9,5],[10],[11],[12],[13,0],[14]] ?_;refine dB 15 ?_;rotate_left;refine bJ 3 [] ?_;refine dL [3,2,1,0,4,5] [] T.mixed [[0],[1],[2],[3,0],[4,5]] ?_;refine fH 5 [2] U (jY 2 T.mp166 U U U) ?_;refine eO [[6],[7],[8],[9,0],[10,5]] ?_;refine fH 11 [3] U (jY 3 T.mp166 U U U) ?_;refine eO [[12],[13]] ?_;refine eU ?_;refine fI 2 [] ?_;refine Ar.p2 [0,1,2,3] ?_;rotate_left
 · have h:reckonP t n i=((t.held[i.a.toNat]?.getD default,-1),t):=by unfold reckonP;rw [aE hc1]
   rw [h];exact ⟨U,U,U⟩
 · rw [hk0] at hc2;cases hc2
 have h:reckonP t n i=((v,(A9 t.first (keyOf t.held i)).getD 0),t):=by unfold reckonP;rw [aC hc1,hk0]
 rw [h,hk0];exact ⟨U,U,U⟩
theorem c99 (G:A2) (t:Tab) (bt bk bf:Nat) (a:J0 Addr) (c:Nat) (junk:List Value) (i:I5) (ho:A3 a c t.held junk) (hl:t.held.length≤128) (hm:tH i t.held.length=true) :
 Does Tryz.prog 99 [.pointer (some ⟨bt,0,none⟩),.agg (A0.enc i).toArray] G (AB t bt bk bf a c junk) (fun r G' Ho=>r=.agg (A0.enc (askedP t.held i)).toArray∧G'=G∧Ho=AB t bt bk bf a c junk):=by
 rw [tS] at hm;obtain ⟨⟨hop1,hop2,hto1,hto2,ha1,ha2⟩,hb⟩:=hm;have hb:i.op=3∨i.op=4→0≤i.b∧i.b<t.held.length:=fun h=>by rw [aE h] at hb;omega
 have two:=CK i;refine D0 Tryz.func99 Tryz.ntmps99 fun w=>?_;refine aK 2 [] ?_;refine eG 4 fun b1=>?_;refine aV 5 U T.zero91 fun b2=>?_;refine aS 5 [4] ?_;refine cU 6 U (MZ _ _) fun v1 G1 Ho1 hle1 hp=>?_;obtain ⟨ad1,cd1,junk1,rfl,hoa1,rfl,rfl⟩:=hp;refine bG 6 [] ?_;refine dL [3,2,1,0,4,5,7] [(4,11)] T.mixed [[0],[1],[2],[3],[4,0],[5],[6,4]] ?_;refine iA (α:=Int) 7 T.sl24 ?_;refine fH 8 [1,0] U (eX 1 0 T.one3 U U sV sU U U) ?_;refine dB 9 ?_;refine dS 0 U T.fn100 U (YW _ _ _ _ _ _ _ _ _ sV sU) (tB ⟨U,U,U,U,I3⟩) ?_;refine bW ?_;refine eO [[10]] ?_;refine dB 11 ?_;refine aB 1 [4] ?_;refine fB ?_;refine oS 7 [] ?_;refine cF (fun hc1=>?_) fun hc1=>?_;refine dL [3,2,1,0,5,7,4] [(4,11)] T.mixed [[0],[1],[2],[3],[4,0],[5],[6,4]] ?_;refine iA (α:=Int) 7 T.sl24 ?_;refine fH 8 [1,0] U (eX 1 0 T.one3 U U sV sU U U) ?_;refine dB 9 ?_;refine dS 0 U T.fn100 U (YW _ _ _ _ _ _ _ _ _ sV sU) (tB ⟨U,U,U,U,I3⟩) ?_;refine bW ?_;refine eO [[10]] ?_;refine dB 11 ?_;refine aB 1 [4] ?_;refine fB ?_;refine fI 8 [4,5] ?_;refine cW (.inr U) (Ho:=Hp.only _ [0,1,2,3]) U (.agg 5 U U T.agg91) (bH _ _) ?_;rotate_left;refine bE 9 [4,5] ?_;refine cW (.inr U) (Ho:=Hp.only _ [0,1,2,3]) U (.agg 5 U U T.agg91) (bH _ _) ?_;rotate_left
 · refine ⟨?_,U,U⟩;have h:askedP t.held i=⟨i.op,i.to,holder t.held (t.held[i.a.toNat]?.getD default),holder t.held (t.held[i.b.toNat]?.getD default),i.c⟩:=by
    unfold askedP;rw [aE (by omega)]
   rw [h];rfl
 refine ⟨?_,U,U⟩;have h:askedP t.held i=⟨i.op,i.to,holder t.held (t.held[i.a.toNat]?.getD default),i.b,i.c⟩:=by
  unfold askedP;rw [aC (by omega)]
 rw [h];rfl
section
variable {t:Tab} {out:List I5} {n:Int} {i:I5}
end
theorem uv (G:A2) (p:PV) (ac ao:J0 Addr) (cc co:Nat) (hc:Arr G ac p.code) (ho:Arr G ao p.outs) (h1:p.code.length≤1099511627776) (h2:p.outs.length≤1099511627776) (hR:sW p=true) :
 Does Tryz.prog 48 [.agg (J1 p ac cc ao co)] G [] (fun v G' Ho =>
  ∃ bc bo dc do_ j1 j2,v=.tuple #[.agg #[.int .i64 p.ins,.int .i64 p.regs,.slice bc (yJ p).code.length dc,.slice bo (yJ p).outs.length do_],.int .i64 0]∧
   A3 bc dc (yJ p).code j1∧A3 bo do_ (yJ p).outs j2∧Ho=[(0,bc.map (·.block),Row 91 (yJ p).code j1),(1,bo.map (·.block),Row 3 (yJ p).outs j2)]∧G'=G):=by
 obtain ⟨r1,r2,r3,r4,r5,r6,r7,r8⟩:=sZ hR;have hcheck:(uH p).2=false:=by simpa [sW] using hR
 refine D0 Tryz.func48 Tryz.ntmps48 fun w=>?_;refine dK 0 (Row 91 ([]:List I5) []) (dK 1 (Row 3 ([]:List Int) []) ?_);refine aK 2 [] ?_;refine eG 2 fun b1=>?_;refine aV 3 U T.zero26 fun b2=>?_;refine aS 7 [2] ?_;refine cZ U (jm _ _ _ _ _ _ sV sV sU sU) ?_;refine bG 13 [] ?_;refine cF (fun hc1=>?_) fun hc1=>?_;refine aK 2 [] ?_;refine aZ (cQ (cs:=[_,_,_,_]) T.st26 U U U) ?_;refine aY 7 [3] ?_;rotate_left;refine aK 5 [2] ?_;refine cU 4 U (c97 _ _ _ _ _ _ sU) fun v1 G1 Ho1 hle1 hp=>?_;obtain ⟨bt1,bk1,bf1,ta1,tc1,tj1,rfl,hto1,rfl,rfl⟩:=hp;refine aS 9 [2,2] ?_;refine aZ (cQ (cs:=[_,_,_,_]) T.st26 U U U) ?_;refine aV 8 U T.zero26 fun b3=>?_;refine bG 13 [8,2] ?_;rotate_left
 · rw [hcheck] at hc1;exact absurd U hc1
 refine fY (ι:=Nat×Tab×List I5×(J0 Addr×Nat×List Value)×(J0 Addr×Nat×List Value)) (fun (k,t,out,(a,c,junk),(a',c',junk'))=>([(34,.int .i64 (k:Int)),(33,.int .i64 (↑p.code.length:Int)),(32,.slice ac p.code.length cc),(7,.pointer (some (Addr.mk b3 0 none))),(6,.pointer (some (Addr.mk bt1 0 none))),(3,.int .i64 0),(2,.pointer (some ⟨b2,0,none⟩)),(1,.pointer (some ⟨b1,0,none⟩))],[(4,some bt1,.cells #[.slice a t.held.length c,.map (some bk1),.map (some bf1),.int .i64 t.next] 168),(5,a.map (·.block),Row 3 t.held junk),(6,some bk1,A4 t.known),(7,some bf1,A4 t.first),(8,some b3,.cells #[.int .i64 p.ins,.int .i64 p.regs,.slice a' out.length c',.slice none 0 0] 26),(0,a'.map (·.block),Row 91 out junk'),(3,some b2,.cells #[.int .i64 0,.int .i64 0,.slice none 0 0,.slice none 0 0] 26),(2,some b1,.cells (J1 p ac cc ao co) 26),(1,none,Row (α:=Int) 3 ([]) ([]))])) (fun (k,t,out,(a,c,junk),(a',c',junk'))=>k≤p.code.length∧(t,out)=uC p k∧A3 a c t.held junk∧A3 a' c' out junk'∧(t.held.length:Int)=p.regs∧out.length≤k∧(∀ x,A9 t.known x=none→A9 t.first x=none)∧0≤t.next∧t.next≤p.ins+1+k) (fun (k,t,out,(a,c,junk),(a',c',junk'))=>p.code.length - k) ((0,⟨start p,[],[],p.ins+1⟩,[],(ta1,tc1,tj1),(none,0,[]))) (⟨aP _,U,hto1,dN,by simp [start];omega,aP _,fun _ _=>rfl,by show 0≤p.ins+1;omega,by show p.ins+1≤p.ins+1+0;omega⟩) ⟨U,U,U,U,U,U,U,U,I3⟩ ⟨U,U,U,U,U,U,U,U,U,I3⟩ fun ⟨k,t,out,(a,c,junk),(a',c',junk')⟩=>fun hk=>?_;obtain ⟨hk1,hpass,hoa,hoa',hlen,hout,hkf,hn0,hn1⟩:=hk;rcases aN k p.code.length with hlt | hge
 · have hm:tH (p.code[(k:Int).toNat]?.getD default) t.held.length=true:=by
    rw [hlen];refine r8 _ ?_;rw [aG,aA hlt];simp
   have hrh:=Dc t k (p.code[(k:Int).toNat]?.getD default);have hra:A3 a c (reckonP t k (p.code[(k:Int).toNat]?.getD default)).2.held junk:=by rw [hrh];exact hoa
   have hrl:(reckonP t k (p.code[(k:Int).toNat]?.getD default)).2.held.length=t.held.length:=by rw [hrh]
   have hrm:tH (p.code[(k:Int).toNat]?.getD default) (reckonP t k (p.code[(k:Int).toNat]?.getD default)).2.held.length=true:=by rw [hrl];exact hm
   have hto:0≤(askedP (reckonP t k (p.code[(k:Int).toNat]?.getD default)).2.held (p.code[(k:Int).toNat]?.getD default)).to∧
    (askedP (reckonP t k (p.code[((k:Nat):Int).toNat]?.getD default)).2.held (p.code[((k:Nat):Int).toNat]?.getD default)).to<(reckonP t k (p.code[((k:Nat):Int).toNat]?.getD default)).2.held.length:=by
    rw [tS] at hm;unfold askedP;rw [hrl];exact ⟨hm.1.2.2.1,hm.1.2.2.2.1⟩
   refine aK 14 [1] ?_;refine gG (α:=Instr) T.sl23 ?_;refine mL T.agg91 ?_;refine aV 9 U T.zero91 fun b4=>?_;refine aS 9 [9,9] ?_;refine fF 4 U T.fn98 U (c98 _ _ _ _ _ _ _ _ _ _ sV sU sV sV sU) (tB ⟨U,U,U,U,I3⟩) fun v2 G2 Ho2 hle2 hp=>?_;obtain ⟨rfl,rfl,rfl⟩:=hp;refine aS 11 [9] ?_;refine dS 4 U T.fn99 U (c99 _ _ _ _ _ _ _ _ _ sV sU sV) (tB ⟨U,U,U,U,I3⟩) ?_;refine bG 5 [9] ?_;refine dL [1,2,3,0,8,7,6,5,4,9] [] T.mixed [[0],[1],[2],[3,4],[4],[5,9]] ?_;refine iA (α:=Int) 6 T.sl24 ?_;refine fH 7 [0,5] U (eX 5 0 T.one3 U U sV sU U U) ?_;refine eO [[8],[9]] ?_;refine eU ?_;refine cH ?_;refine cF (fun hc2=>?_) fun hc2=>?_;refine bE 8 [] ?_;rotate_left;refine aK 7 [] ?_;refine dS 4 U T.fn100 U (YW _ _ _ _ _ _ _ _ _ sV sU) (tB ⟨U,U,U,U,I3⟩) ?_;refine bG 9 [] ?_;refine cF (fun hc3=>?_) fun hc3=>?_;refine aK 4 [9] ?_;refine aZ (cQ (cs:=[_,_,_,_,_]) T.st91 U U U) ?_;refine aS 8 [9,8,9] ?_;refine eH (α:=Instr) 10 [⟨1,Go.Sl.Instr.to (Go.Proofs.YtfdcckcadfhpeaaGreatDoor.askedP (Go.Proofs.YtfdcckcadfhpeaaGreatDoor.Tab.held (Prod.snd (Go.Proofs.YtfdcckcadfhpeaaGreatDoor.reckonP t (↑k:Int) (Option.getD p.code[Int.toNat (↑k:Int)]? Inhabited.default)))) (Option.getD p.code[Int.toNat (↑k:Int)]? Inhabited.default)),Go.Proofs.YtfdcckcadfhpeaaGreatDoor.holder (Go.Proofs.YtfdcckcadfhpeaaGreatDoor.Tab.held (Prod.snd (Go.Proofs.YtfdcckcadfhpeaaGreatDoor.reckonP t (↑k:Int) (Option.getD p.code[Int.toNat (↑k:Int)]? Inhabited.default)))) (Prod.fst (Prod.fst (Go.Proofs.YtfdcckcadfhpeaaGreatDoor.reckonP t (↑k:Int) (Option.getD p.code[Int.toNat (↑k:Int)]? Inhabited.default)))),0,0⟩] U T.sl23 T.el91 U U U U U fun b5=>?_;refine iP (α:=Instr) 0 T.sl23 T.el91 (eP 10 U) fun a1 c1 junk1 ho1=>?_;refine bG 4 [8] ?_;refine dL [1,2,3,7,6,5,4,9,10,0,8] [(8,8),(0,8),(10,8),(9,8),(4,8),(5,8),(3,8),(2,8),(1,8)] T.mixed [[0],[1],[2],[3,4],[4],[5,9],[6]] ?_;refine iA (α:=Int) 7 T.sl24 ?_;refine dB 8 ?_;refine dJ (z:=_) 5 T.size3 U U U sV sU U fun ho2=>?_;refine fB ?_;refine fI 6 [] ?_;rotate_left;refine aK 7 [8,9] ?_;refine eH (α:=Instr) 10 [(Go.Proofs.YtfdcckcadfhpeaaGreatDoor.askedP (Go.Proofs.YtfdcckcadfhpeaaGreatDoor.Tab.held (Prod.snd (Go.Proofs.YtfdcckcadfhpeaaGreatDoor.reckonP t (↑k:Int) (Option.getD p.code[Int.toNat (↑k:Int)]? Inhabited.default)))) (Option.getD p.code[Int.toNat (↑k:Int)]? Inhabited.default))] U T.sl23 T.el91 U U U U U fun b5=>?_;refine iP (α:=Instr) 0 T.sl23 T.el91 (eP 10 U) fun a1 c1 junk1 ho1=>?_;refine bG 4 [8] ?_;refine dL [1,2,3,7,6,5,4,9,10,0,8] [(8,8),(0,8),(10,8),(9,8),(4,8),(5,8),(3,8),(2,8),(1,8)] T.mixed [[0],[1],[2],[3,4],[4],[5,9],[6]] ?_;refine iA (α:=Int) 7 T.sl24 ?_;refine dB 8 ?_;refine dJ (z:=_) 5 T.size3 U U U sV sU U fun ho2=>?_;refine fB ?_;refine fI 6 [] ?_;rotate_left
   · generalize hI:p.code[((k:Nat):Int).toNat]?.getD default=I at *;refine cO ((k+1,(reckonP t k I).2,out,(a,c,junk),(a',c',junk'))) ?_ ?_
     · refine ⟨by omega,?_,hra,hoa',by rw [hrl];exact hlen,by omega,Mf hkf,(zC hn0 k I).1,?_⟩
       · show _=tP (uC p k) k (p.code[(k:Int).toNat]?.getD default);rw [←hpass,hI,Hu hc2]
       have:=(zC hn0 k I).2;omega
     show p.code.length - (k+1)<p.code.length - k;omega
   · generalize hI:p.code[((k:Nat):Int).toNat]?.getD default=I at *;refine iV 4 (.cells #[.slice a ((reckonP t k I).2.held.set (askedP (reckonP t k I).2.held I).to.toNat (reckonP t k I).1.1).length c,.map (some bk1),.map (some bf1),.int .i64 (reckonP t k I).2.next] 168) U Fc ?_;refine cO ((k+1,{ (reckonP t k I).2 with held:=(reckonP t k I).2.held.set (askedP (reckonP t k I).2.held I).to.toNat (reckonP t k I).1.1 },_,(a,c,junk),(a1,c1,junk1))) ?_ ?_
     · refine ⟨by omega,?_,ho2,ho1,?_,?_,Mf hkf,?_,?_⟩
       · show _=tP (uC p k) k (p.code[(k:Int).toNat]?.getD default);rw [←hpass,hI,Hw hc2 hc3]
       · show (((reckonP t k I).2.held.set _ _).length:Int)=_;rw [aI,hrl];exact hlen
       · rw [aD];simp only [aU,cD];omega
       · exact (zC hn0 k I).1
       have:=(zC hn0 k I).2;show (reckonP t k I).2.next≤_;omega
     show p.code.length - (k+1)<p.code.length - k;omega
   generalize hI:p.code[((k:Nat):Int).toNat]?.getD default=I at *;refine iV 4 (.cells #[.slice a ((reckonP t k I).2.held.set (askedP (reckonP t k I).2.held I).to.toNat (reckonP t k I).1.1).length c,.map (some bk1),.map (some bf1),.int .i64 (reckonP t k I).2.next] 168) U Fc ?_;refine cO ((k+1,{ (reckonP t k I).2 with held:=(reckonP t k I).2.held.set (askedP (reckonP t k I).2.held I).to.toNat (reckonP t k I).1.1 },_,(a,c,junk),(a1,c1,junk1))) ?_ ?_
   · refine ⟨by omega,?_,ho2,ho1,?_,?_,Mf hkf,?_,?_⟩
     · show _=tP (uC p k) k (p.code[(k:Int).toNat]?.getD default);rw [←hpass,hI,Hx hc2 hc3]
     · show (((reckonP t k I).2.held.set _ _).length:Int)=_;rw [aI,hrl];exact hlen
     · rw [aD];simp only [aU,cD];omega
     · exact (zC hn0 k I).1
     have:=(zC hn0 k I).2;show (reckonP t k I).2.next≤_;omega
   show p.code.length - (k+1)<p.code.length - k;omega
 have hk:k=p.code.length:=sU;subst hk;refine bJ 22 [0,2] ?_;refine gZ (ι:=Nat×List Int×J0 Addr×Nat×List Value) (fun (k,os,b,d,j)=>([(86,.int .i64 (k:Int)),(85,.int .i64 (↑p.outs.length:Int)),(84,.slice ao p.outs.length co),(7,.pointer (some (Addr.mk b3 0 none))),(6,.pointer (some (Addr.mk bt1 0 none))),(3,.int .i64 0),(2,.pointer (some ⟨b2,0,none⟩))],[(8,some b3,.cells #[.int .i64 p.ins,.int .i64 p.regs,.slice a' out.length c',.slice b os.length d] 26),(1,b.map (·.block),Row 3 os j),(4,some bt1,.cells #[.slice a (List.length (Tab.held t)) c,Go.Value.map (some bk1),Go.Value.map (some bf1),.int .i64 (Tab.next t)] 168),(5,Option.map (fun x=>Go.Addr.block x) a,Row (α:=Int) 3 (Tab.held t) (junk)),(6,some bk1,Go.Sl.A4 (κ:=Go.Sl.K4) (Tab.known t)),(7,some bf1,Go.Sl.A4 (κ:=Go.Sl.K4) (Tab.first t)),(0,Option.map (fun x=>Go.Addr.block x) a',Row (α:=Go.Sl.Instr) 91 (out) (junk')),(3,some b2,.cells #[.int .i64 0,.int .i64 0,.slice none 0 0,.slice none 0 0] 26),(2,some b1,.cells (J1 p ac cc ao co) 26)])) (fun (k,os,b,d,j)=>k≤p.outs.length∧os=(wL p t.held).take k∧A3 b d os j) (fun (k,os,b,d,j)=>p.outs.length - k) ((0,[],none,0,[])) (⟨aP _,U,dN⟩) fun ⟨k,os,b,d,j⟩=>fun hk=>?_;obtain ⟨hk2,hos,hob⟩:=hk;have hosl:os.length≤128:=by rw [hos,bM];omega
 rcases aN k p.outs.length with hlt | hge
 · have hr:0≤p.outs[(k:Int).toNat]?.getD default∧p.outs[(k:Int).toNat]?.getD default<t.held.length:=by
    rw [hlen];refine r7 _ ?_;rw [aG,aA hlt];simp
   refine aK 13 [1] ?_;refine gG (α:=Int) T.sl24 ?_;refine kT 0 T.one3 ?_;refine bG 3 [] ?_;refine dL [2,3,0,7,6,5,4,1,8] [(8,14),(1,12),(5,12),(0,12)] T.mixed [[0],[1,8],[2],[3],[4],[5],[6,4],[7]] ?_;refine iA (α:=Int) 8 T.sl24 ?_;refine dB 9 ?_;refine jS 5 0 T.one3 ?_;refine cY 10 ?_;refine dS 4 U T.fn100 U (YW _ _ _ _ _ _ _ _ _ sV sU) (tB ⟨U,U,U,U,I3⟩) ?_;refine cY 11 ?_;refine eH (α:=Int) 9 [(Go.Proofs.YtfdcckcadfhpeaaGreatDoor.holder (Go.Proofs.YtfdcckcadfhpeaaGreatDoor.Tab.held t) (Option.getD (Go.Proofs.YtfdcckcadfhpeaaGreatDoor.Tab.held t)[Int.toNat (Option.getD p.outs[Int.toNat (↑k:Int)]? Inhabited.default)]? Inhabited.default))] U T.sl24 T.el3 U U U U U fun b4=>?_;refine cY 12 ?_;refine iP (α:=Int) 1 T.sl24 T.el3 (eP 9 U) fun a1 c1 junk1 ho1=>?_;refine bW ?_;refine eO [[13]] ?_;refine dB 14 ?_;refine aB 1 [8] ?_;refine fB ?_;refine fI 6 [] ?_;refine cO ((k+1,_,a1,c1,junk1)) ?_ ?_
   · refine ⟨by omega,?_,ho1⟩;have hst:(wL p t.held).take (k+1)=(wL p t.held).take k++[holder t.held (t.held[(p.outs[(k:Int).toNat]?.getD default).toNat]?.getD default)]:=by
      rw [dA];simp [wL,hlt]
     rw [hst,hos]
   show p.outs.length - (k+1)<p.outs.length - k;omega
 refine bE 20 [0,8,3] ?_;refine gD (.inr U) (Ho:=Hp.only _ [0,1]) U (.agg 3 U U T.agg26) (.tmp U) (bH _ _) ?_;have ht:t=(uC p p.code.length).1:=congrArg Prod.fst hpass;have hou:out=(yJ p).code:=congrArg Prod.snd hpass;have hos':os=(yJ p).outs:=by
  rw [hos,dU (by simp [wL];omega),ht];rfl
 rw [hou] at hoa' ⊢;rw [hos'] at hob ⊢;exact ⟨a',b,c',d,junk',j,U,hoa',hob,U,U⟩
def Yes:Prop:=True
instance:Decidable Yes:=.isTrue I3
end Go.Proofs.YtfdcckcadfhpeaaGreatDoor
