/- uN of the proof (part 8): what the rows' text needs of the texts that lead to it. -/
import Derived.Test.YtfdcckcadfhpeaaGreatDoorMRg
set_option linter.unusedVariables false
set_option linter.unusedSimpArgs false
set_option linter.unusedSectionVars false
set_option maxHeartbeats 4000000
set_option maxRecDepth 100000
namespace Go.Proofs.YtfdcckcadfhpeaaGreatDoor
open Go Go.Sl
theorem Pj (n:Int) (wh:List R2):∀ (o:List Int) (t:Nat),(uX n wh (o.drop t)).length≤(uX n wh o).length
 | [],t=>by rw [List.drop_nil];exact aH _
 | k :: o,0=>aH _
 | [k],t+1=>by rw [oF,List.drop_nil];exact aM _
 | k :: i :: left,t+1=>by
   rw [oF]
   refine aV (Pj n wh (i :: left) t) ?_
   show _≤(uX n wh (i :: left)++_).length
   rw [aC];omega
theorem Vt (n:Int) (wh:List R2) (k:Int) {rest:List Int} (h:1≤rest.length):uX n wh (k :: rest)=uX n wh rest++xC n wh k rest.length:=by
 cases rest with
 | nil=>simp at h
 | cons i left=>rfl
theorem NZ {α:Type} [Cells α] {G:Imm} {a:Option Addr} {c:Nat} {l:List α} (h:Arr G a l) (n:Nat) (hn:n≤l.length) (hc:l.length≤c):Arr G (subA a c n (Cells.sz α)) (l.drop n):=by
 have h1:=SlG.sub h hn hc
 unfold Arr
 have e:sY l=sY (l.take n)++sY (l.drop n):=by rw [←vD,fC]
 have e2:(sY l).drop (n*Cells.sz α)=sY (l.drop n):=by
  rw [e,List.drop_left' (by rw [sV,bG,dG hn])]
 rw [←e2,gE];exact h1
def Ei (n t:Nat):List Int:=(List.range t).map fun j:Nat=>(n:Int)+j
theorem IK (n t:Nat):(Ei n t).length=t:=by unfold Ei;rw [aP,bS]
theorem Gu (n t:Nat):Ei n (t+1)=Ei n t++[(n:Int)+t]:=by unfold Ei;rw [nY,jP];rfl
theorem af (G:Imm) (n b:Nat) (ac:Option Addr) (cc:Nat) (code:List Sl.Instr) (j:List Value) (wa:Option Addr) (wc:Nat) (wh:List R2) (k:Int) (la:Option Addr) (lc m:Nat) (left:List Int) (e:Nat) (hn:wh.length=n) (hm:left.length=m) (ho:OwnA ac cc code j) (hw:Arr G wa wh) (hla:Arr G la left)
 (hwl:n≤15) (hk:0≤k∧k<n) (hll:m≤15) (hleft:∀ i∈left,0≤i∧i<n) (he:e≤14) (hok:∀ i,i<n→Od (wh[i]?.getD default)) (hl:(code++yG n wh k e left).length≤1048576) :
 Does Tryz.prog 194 [.pointer (some ⟨b,0,none⟩),.int .i64 k,.slice la m lc,.int .i64 e] G [(0,some b,.cells #[.int .i64 n,.slice ac code.length cc,.slice wa n wc] 267),(1,ac.map (·.block),Row 91 code j)]
  (fun v G' Ho=>v=.tuple #[]∧G'=G∧∃ (a':Option Addr) (c':Nat) (j':List Value),OwnA a' c' (code++yG n wh k e left) j'∧Ho=[(0,some b,.cells #[.int .i64 n,.slice a' (code++yG n wh k e left).length c',.slice wa n wc] 267),(1,a'.map (·.block),Row 91 (code++yG n wh k e left) j')]):=by
 subst hn hm
 exact gw G b ac cc code j wa wc wh k la lc left e ho hw hla hwl hk hll (fun i hi=>hleft _ (by rw [aA hi];exact bI _)) he hok hl
theorem ah (G:Imm) (n b:Nat) (ac:Option Addr) (cc:Nat) (code:List Sl.Instr) (j:List Value) (wa:Option Addr) (wc:Nat) (wh:List R2) (k:Int) (e:Nat) (hn:wh.length=n) (ho:OwnA ac cc code j) (hw:Arr G wa wh)
 (hwl:n≤15) (hk:0≤k∧k<n) (he1:1≤e) (he:e<n) (hok:Od (wh[k.toNat]?.getD default)) (hl:(code++xC n wh k e).length≤1048576) :
 Does Tryz.prog 197 [.pointer (some ⟨b,0,none⟩),.int .i64 k,.int .i64 e] G [(0,some b,.cells #[.int .i64 n,.slice ac code.length cc,.slice wa n wc] 267),(1,ac.map (·.block),Row 91 code j)]
  (fun v G' Ho=>v=.tuple #[]∧G'=G∧∃ (a':Option Addr) (c':Nat) (j':List Value),OwnA a' c' (code++xC n wh k e) j'∧Ho=[(0,some b,.cells #[.int .i64 n,.slice a' (code++xC n wh k e).length c',.slice wa n wc] 267),(1,a'.map (·.block),Row 91 (code++xC n wh k e) j')]):=by
 subst hn
 exact gy G b ac cc code j wa wc wh k e ho hw hwl hk he1 he hok hl
theorem gz (G:Imm) (a:Option Addr) (c:Nat) (l:List R2) (oa:Option Addr) (oc:Nat) (o:List Int) (ha:Arr G a l) (hoa:Arr G oa o) (hac:l.length≤c) (hocc:o.length≤oc) (hR:tL l) (hO:Ct o l.length) :
 Does Tryz.prog 147 [.slice a l.length c,.slice oa o.length oc] G [] (fun v G' Ho=>∃ (bc bo:Option Addr) (dc do_:Nat) (j1 j2:List Value),v=.agg #[.int .i64 (sR l o).ins,.int .i64 (sR l o).regs,.slice bc (sR l o).code.length dc,.slice bo (sR l o).outs.length do_]∧OwnA bc dc (sR l o).code j1∧OwnA bo do_ (sR l o).outs j2∧
  Ho=[(0,bc.map (·.block),Row 91 (sR l o).code j1),(1,bo.map (·.block),Row 3 (sR l o).outs j2)]):=by
 have hgood:=Km hR hO
 have hok:∀ i,i<l.length→Od (l[i]?.getD default):=hR.2.2.1
 have hl1:=hR.1
 have hl15:=hR.2.1
 obtain ⟨o1,o2,o3⟩:=hO
 refine fK Tryz.func147 rfl Tryz.ntmps147 rfl fun w=>?_
 refine aJ 2 [] ?_
 refine aN 0 rfl T.zero26 fun b1=>?_
 refine aL 12 [] ?_
 refine eG rfl (bO (cs:=[_,_,_]) T.st267 rfl rfl rfl) ?_
 refine qM 1 rfl rfl rfl fun b2=>?_
 refine aZ 12 [] ?_
 refine dZ 2 (Row 91 ([]:List Sl.Instr) []) (dZ 3 (Row 52 ([]:List R2) []) ?_)
 generalize hN:zX (l.length - 1) l 0=N at *
 have hNl:N.length≤16384:=by
  have:=hgood.len
  unfold Ly at this
  rw [hN,aC] at this;omega
 refine gL (ι:=Nat×List Sl.Instr×(Option Addr×Nat×List Value)×List R2×(Option Addr×Nat×List Value)) (fun (k,cd,(u,d,q),wh,(wa,wd,wq))=>([(25,.int .i64 (k:Int)),(5,.int .i64 l.length),(6,.pointer (some ⟨b2,0,none⟩)),(1,.slice oa o.length oc),(24,Go.Value.int Go.IntKind.i64 (↑(List.length l):Int)),(23,Go.Value.slice a (List.length l) c),(4,Go.Value.pointer (Option.some (Go.Addr.mk b1 0 Option.none)))],[(1,some b2,.cells #[.int .i64 l.length,.slice u cd.length d,.slice wa wh.length wd] 267),(2,u.map (·.block),Row 91 cd q),(3,wa.map (·.block),Row 52 wh wq),(0,Option.some b1,Go.Obj.cells #[Go.Value.int Go.IntKind.i64 0,Go.Value.int Go.IntKind.i64 0,Go.Value.slice Option.none 0 0,Go.Value.slice Option.none 0 0] 26)])) (fun (k,cd,(u,d,q),wh,(wa,wd,wq))=>k≤l.length∧cd++zX (l.length - 1) (l.drop k) k=N∧OwnA u d cd q∧wh=(l.take k).map tC∧OwnA wa wd wh wq) (fun (k,cd,(u,d,q),wh,(wa,wd,wq))=>l.length - k) ((0,[],(none,0,[]),[],(none,0,[]))) (⟨aM _,hN,eD,rfl,eD⟩) ⟨rfl,rfl,rfl,rfl,rfl,rfl,rfl,trivial⟩ ⟨rfl,rfl,rfl,rfl,trivial⟩ fun ⟨k,cd,(u,d,q),wh,(wa,wd,wq)⟩=>fun hk=>?_
 obtain ⟨hk1,hk2,hk3,hk4,hk5⟩:=hk
 have hcl:cd.length≤16384:=by rw [←hk2,aC] at hNl;omega
 rcases aK k l.length with hkl | hkl
 · obtain ⟨hnk,hzk⟩:=hok k hkl
   have hgn:=Ee ⟨hnk,hzk⟩
   have hdr:l.drop k=l[(k:Int).toNat]?.getD default :: l.drop (k+1):=by
    rw [dM hkl,aE,aA hkl];rfl
   rw [hdr] at hk2
   have hk2:cd++((List.replicate (l.length - 1) (xB (k:Int) (Int.gcd (l[(k:Int).toNat]?.getD default).a (l[(k:Int).toNat]?.getD default).b))).flatten++zX (l.length - 1) (l.drop (k+1)) (k+1))=N:=hk2
   refine aJ 14 [1] ?_
   refine eG rfl (jA (α:=R2) T.sl22 rfl rfl sF sE) ?_
   refine eG rfl (gZ T.agg52 rfl (jY sF sE) rfl) ?_
   refine aN 4 rfl T.zero52 fun b3=>?_
   refine aL 7 [4,4] ?_
   refine mG rfl T.fn192 rfl (XI _ _ _ sF sF) ?_
   refine aZ 20 [] ?_
   generalize hpp:l[((k:Nat):Int).toNat]?.getD default=p at *
   have hnk:near p.a p.b:=by rw [←hpp];exact hnk
   have hzk:¬(p.a=0∧p.b=0):=by rw [←hpp];exact hzk
   have hgn:1≤Int.gcd p.a p.b∧Int.gcd p.a p.b≤16:=by rw [←hpp];exact hgn
   refine gL (ι:=Nat×List Sl.Instr×(Option Addr×Nat×List Value)) (fun (i,ce,(u,d,q))=>([(39,.int .i64 (i:Int)),(25,.int .i64 (k:Int)),(5,.int .i64 l.length),(6,.pointer (some ⟨b2,0,none⟩)),(1,.slice oa o.length oc),(24,.int .i64 l.length),(23,.slice a l.length c),(4,.pointer (some ⟨b1,0,none⟩)),(7,.int .i64 (k:Int)),(8,.pointer (some ⟨b3,0,none⟩)),(9,.int .i64 (Int.gcd p.a p.b)),(38,Go.Value.int Go.IntKind.i64 ((↑(List.length l):Int) - 1))],[(1,some b2,.cells #[.int .i64 l.length,.slice u ce.length d,.slice wa wh.length wd] 267),(2,u.map (·.block),Row 91 ce q),(4,Option.some b3,Go.Obj.cells (List.toArray (Go.Sl.Cells.enc p)) 52),(3,Option.map (fun x=>Go.Addr.block x) wa,Go.Sl.Row (α:=Go.Sl.R2) 52 (wh) (wq)),(0,Option.some b1,Go.Obj.cells #[Go.Value.int Go.IntKind.i64 0,Go.Value.int Go.IntKind.i64 0,Go.Value.slice Option.none 0 0,Go.Value.slice Option.none 0 0] 26)])) (fun (i,ce,(u,d,q))=>i≤l.length - 1∧ce++((List.replicate (l.length - 1 - i) (xB (k:Int) (Int.gcd p.a p.b))).flatten++zX (l.length - 1) (l.drop (k+1)) (k+1))=N∧OwnA u d ce q) (fun (i,ce,(u,d,q))=>l.length - 1 - i) ((0,cd,(u,d,q))) (⟨aM _,hk2,hk3⟩) ⟨rfl,rfl,rfl,rfl,rfl,rfl,rfl,rfl,rfl,rfl,rfl,rfl,trivial⟩ ⟨rfl,rfl,rfl,rfl,rfl,trivial⟩ fun ⟨i,ce,(u,d,q)⟩=>fun hk=>?_
   obtain ⟨hi1,hi2,hi3⟩:=hk
   have hel:ce.length≤16384:=by rw [←hi2,aC] at hNl;omega
   rcases aK i (l.length - 1) with hil | hil
   · have er:l.length - 1 - i=(l.length - 1 - (i+1))+1:=sE
     rw [er,oE,rK] at hi2
     refine aJ 15 [1] ?_
     refine eK 1 rfl T.fn193 rfl (XA _ b2 _ u d ce q wa _ wd _ _ hi3 sE) (sJ ⟨rfl,rfl,trivial⟩) fun v1 G1 Ho1 hle1 hp=>?_
     obtain ⟨rfl,rfl,a1,d1,j1,ho1,rfl⟩:=hp
     refine aR 7 [] ?_
     refine cN 39 rfl (show _=Value.int .i64 ((i+1:Nat):Int) from rfl) ?_
     refine fR ((i+1,_,(a1,d1,j1))) ?_ ?_ rfl ⟨rfl,rfl,rfl,rfl,rfl,rfl,rfl,rfl,rfl,rfl,rfl,rfl,trivial⟩ ⟨rfl,rfl,rfl,rfl,rfl,trivial⟩
     · refine ⟨hil,?_,ho1⟩
       rw [←hi2];simp only [bA]
     show l.length - 1 - (i+1)<l.length - 1 - i
     omega
   have hil:i=l.length - 1:=sE
   have hi2:ce++zX (l.length - 1) (l.drop (k+1)) (k+1)=N:=by rw [←hi2,hil,hJ];rfl
   have hwl:wh.length=k:=by rw [hk4,aP,bG];omega
   have q1:=wR p.a (Int.gcd p.a p.b)
   have q2:=wR p.b (Int.gcd p.a p.b)
   have hnk2:=hnk
   unfold near at hnk2
   refine bJ 12 [0] ?_
   refine gQ [0,3,4,2,1] [(1,18),(2,15),(3,15)] T.mixed rfl ?_
   refine eW 0 [] sG rfl rfl (cV rfl) ?_
   refine eW 1 [] sG rfl rfl (cV rfl) ?_
   refine eW 2 [] sG rfl rfl (Qy.nilCheck rfl) ?_
   refine eW 3 [] sG rfl rfl (fI T.fa267_2 rfl) ?_
   refine eW 4 [1] sG rfl rfl (jT 1 T.one22 rfl rfl rfl) ?_
   refine eW 5 [] sG rfl rfl (fI T.fa52_0 rfl) ?_
   refine eW 6 [4] sG rfl rfl (jT 4 T.one3 rfl rfl rfl) ?_
   refine eW 7 [] sG rfl rfl (cV rfl) ?_
   refine eW 8 [] sG rfl rfl (nW rfl rfl sE sE) ?_
   refine eW 9 [] sG rfl rfl (fI T.fa52_1 rfl) ?_
   refine eW 10 [4] sG rfl rfl (jT 4 T.one3 rfl rfl rfl) ?_
   refine eW 11 [] sG rfl rfl (cV rfl) ?_
   refine eW 12 [] sG rfl rfl (nW rfl rfl sE sE) ?_
   refine eW 13 [] sG rfl rfl (bO (cs:=[_,_]) T.st52 rfl rfl rfl) ?_
   refine jF 14 ⟨rfl,rfl,rfl,rfl,rfl,trivial⟩ wJ sG rfl ?_
   refine dY (α:=R2) 5 [⟨Int.tdiv (Go.Sl.R2.a p) (↑(Int.gcd (Go.Sl.R2.a p) (Go.Sl.R2.b p)):Int),Int.tdiv (Go.Sl.R2.b p) (↑(Int.gcd (Go.Sl.R2.a p) (Go.Sl.R2.b p)):Int)⟩] rfl T.sl22 T.el52 rfl rfl rfl rfl rfl fun b4=>?_
   refine bD ?_
   refine jF 15 ⟨rfl,rfl,rfl,rfl,rfl,trivial⟩ wJ sG rfl ?_
   refine gM (α:=R2) 3 rfl T.sl22 T.el52 rfl rfl rfl Ff (fE 5 rfl) xF xF fun a1 c1 junk1 ho1=>?_
   refine bD ?_
   refine eW 16 [] sG rfl rfl (Qy.nilCheck rfl) ?_
   refine eW 17 [] sG rfl rfl (fI T.fa267_2 rfl) ?_
   refine jF 18 ⟨rfl,rfl,rfl,trivial⟩ wJ sG rfl ?_
   refine Wl.store 1 T.one22 rfl rfl rfl rfl rfl ?_
   refine bD ?_
   refine jB sG ⟨rfl,rfl,trivial⟩ wJ ?_
   refine dX 6 [] ?_
   refine cN 25 rfl (show _=Value.int .i64 ((k+1:Nat):Int) from rfl) ?_
   refine fR ((k+1,ce,(u,d,q),wh++[⟨p.a.tdiv (Int.gcd p.a p.b),p.b.tdiv (Int.gcd p.a p.b)⟩],(a1,c1,junk1))) ?_ ?_ rfl ⟨rfl,rfl,rfl,rfl,rfl,rfl,rfl,trivial⟩ ⟨rfl,rfl,rfl,rfl,trivial⟩
   · refine ⟨hkl,hi2,hi3,?_,ho1⟩
     rw [hk4,cB,jP,aA hkl]
     rw [aE,aA hkl] at hpp
     have hpp:l[k]=p:=hpp
     rw [hpp];rfl
   show l.length - (k+1)<l.length - k
   omega
 have hkl:k=l.length:=sE
 subst hkl
 rw [nG] at hk2
 have hk2:cd=N:=by rw [←hk2];exact (bR _).symm
 rw [bC] at hk4
 subst hk4
 have hwl:(l.map tC).length=l.length:=aP _
 have hwok:∀ i,i<(l.map tC).length→Od ((l.map tC)[i]?.getD default):=fun i hi=>by
  rw [hwl] at hi
  rw [bN]
  have:=hok i hi
  rw [aA hi] at this ⊢
  exact (wT this).2.2.2
 refine pT 3 rfl hk5 fun G2 hle2 hw2=>?_
 replace ha:=ha.up hle2
 replace hoa:=hoa.up hle2
 generalize hWh:l.map tC=wh at *
 refine pR 1 (.cells #[.int .i64 l.length,.slice u cd.length d,.slice wa l.length wd] 267) rfl (by rw [hwl]) ?_
 rw [hwl] at hwok
 have hgl:(N++(yH l.length wh o++uX l.length wh o)).length≤16384:=by
  have:=hgood.len
  unfold Ly at this
  rw [hN,hWh] at this;exact this
 generalize hA:yH l.length wh o=A at *
 have hgA:(N++A).length≤16384:=by rw [←bA,aC] at hgl;omega
 refine bJ 21 [0] ?_
 refine gL (ι:=Nat×List Sl.Instr×(Option Addr×Nat×List Value)) (fun (t,ce,(u,d,q))=>([(67,.int .i64 (t:Int)),(66,Go.Value.int Go.IntKind.i64 (↑(List.length o):Int)),(65,Go.Value.slice oa (List.length o) oc),(5,Go.Value.int Go.IntKind.i64 (↑(List.length l):Int)),(6,Go.Value.pointer (Option.some (Go.Addr.mk b2 0 Option.none))),(1,Go.Value.slice oa (List.length o) oc),(4,Go.Value.pointer (Option.some (Go.Addr.mk b1 0 Option.none)))],[(1,some b2,.cells #[.int .i64 l.length,.slice u ce.length d,.slice wa l.length wd] 267),(2,u.map (·.block),Row 91 ce q),(0,Option.some b1,Go.Obj.cells #[Go.Value.int Go.IntKind.i64 0,Go.Value.int Go.IntKind.i64 0,Go.Value.slice Option.none 0 0,Go.Value.slice Option.none 0 0] 26)])) (fun (t,ce,(u,d,q))=>t≤o.length∧ce++yH l.length wh (o.drop t)=N++A∧OwnA u d ce q) (fun (t,ce,(u,d,q))=>o.length - t) ((0,cd,(u,d,q))) (⟨aM _,by rw [hk2,←hA];rfl,hk3⟩) ⟨rfl,rfl,rfl,rfl,rfl,rfl,rfl,trivial⟩ ⟨rfl,rfl,rfl,trivial⟩ fun ⟨t,ce,(u,d,q)⟩=>fun hk=>?_
 obtain ⟨ht1,ht2,ht3⟩:=hk
 have hel:ce.length≤16384:=by rw [←ht2,aC] at hgA;omega
 rcases aK t o.length with hte | hte
 · have hdr:o.drop t=o[(t:Int).toNat]?.getD default :: o.drop (t+1):=by
    rw [dM hte,aE,aA hte];rfl
   rw [hdr] at ht2
   have hok2:=o2 (o[(t:Int).toNat]?.getD default) (by rw [aE,aA hte];exact bI _)
   have hdl:(o.drop (t+1)).length=o.length - ((t:Int)+1).toNat:=by rw [gE];omega
   have hdA:=NZ hoa (t+1) sE hocc
   have ht2:ce++(yG l.length wh (o[(t:Int).toNat]?.getD default) (o.drop (t+1)).length (o.drop (t+1))++yH l.length wh (o.drop (t+1)))=N++A:=ht2
   have hb:(ce++yG l.length wh (o[(t:Int).toNat]?.getD default) (o.drop (t+1)).length (o.drop (t+1))).length≤1048576:=by
    rw [←ht2,←bA,aC] at hgA;omega
   refine aJ 14 [1] ?_
   refine eG rfl (jA (α:=Int) T.sl24 rfl rfl sF sE) ?_
   refine eG rfl (cJ T.one3 rfl (iC sF sE 0 rfl rfl)) ?_
   refine aL 10 [] ?_
   refine eG rfl (DU T.sl24 rfl rfl sE sE) ?_
   refine aB 4 [] ?_
   have et:((t:Int)+1).toNat=t+1:=sE
   refine gK 77 rfl (show _=Value.slice (subA oa oc (t+1) (Cells.sz Int)) (o.drop (t+1)).length (oc - (t+1)) by rw [hdl,et];rfl) ?_
   refine gK 81 rfl (show _=Value.int .i64 ((o.drop (t+1)).length:Nat) by congr 1;rw [hdl,et];omega) ?_
   refine eK 1 rfl T.fn194 rfl (af _ l.length b2 u d ce q wa wd wh _ (subA oa oc (t+1) (Cells.sz Int)) _ (o.drop (t+1)).length (o.drop (t+1)) (o.drop (t+1)).length hwl rfl ht3 hw2 hdA hl15 hok2 (by rw [hdl];omega) (fun i hi=>o2 i (List.mem_of_mem_drop hi)) (by rw [hdl];omega) hwok hb) (sJ ⟨rfl,rfl,trivial⟩) fun v1 G1 Ho1 hle1 hp=>?_
   obtain ⟨rfl,rfl,a1,d1,j1,ho1,rfl⟩:=hp
   refine aR 7 [] ?_
   refine cN 67 rfl (show _=Value.int .i64 ((t+1:Nat):Int) from rfl) ?_
   refine fR ((t+1,_,(a1,d1,j1))) ?_ ?_ rfl ⟨rfl,rfl,rfl,rfl,rfl,rfl,rfl,trivial⟩ ⟨rfl,rfl,rfl,trivial⟩
   · refine ⟨hte,?_,ho1⟩
     rw [←ht2];simp only [bA]
   show o.length - (t+1)<o.length - t
   omega
 have hte:t=o.length:=sE
 subst hte
 rw [nG] at ht2
 have ht2:ce=N++A:=by rw [←ht2];exact (bR _).symm
 refine bJ 13 [0] ?_
 refine gQ [0,2,1] [(2,8),(1,8)] T.mixed rfl ?_
 refine eW 0 [] sG rfl rfl (cV rfl) ?_
 refine eW 1 [] sG rfl rfl (cV rfl) ?_
 refine eW 3 [] sG rfl rfl (cV rfl) ?_
 refine eW 4 [] sG rfl rfl (cV rfl) ?_
 refine eW 5 [] sG rfl rfl (Qy.sub rfl rfl sE) ?_
 refine eW 6 [] sG rfl rfl (jA (α:=Int) T.sl24 rfl rfl sF sE) ?_
 refine eW 7 [0] sG rfl rfl (cJ T.one3 rfl (iC sF sE 0 rfl rfl)) ?_
 refine jF 2 ⟨rfl,rfl,rfl,trivial⟩ wJ sG rfl ?_
 refine eH 1 rfl T.fn196 rfl (Ks _ b2 _ _ _ _ sE sE) (sJ ⟨rfl,trivial⟩) ?_
 refine bD ?_
 refine jF 8 ⟨rfl,rfl,rfl,trivial⟩ wJ sG rfl ?_
 refine eK 1 rfl T.fn195 rfl (Fh _ b2 _ u d ce q wa _ wd _ _ _ ht3 sE) (sJ ⟨rfl,rfl,trivial⟩) fun v1 G1 Ho1 hle1 hp=>?_
 obtain ⟨rfl,rfl,a1,d1,j1,ho1,rfl⟩:=hp
 refine bD ?_
 refine jB sG ⟨rfl,trivial⟩ wJ ?_
 refine mD 10 [] ?_
 have hbl:∀ m,(N++A++uX l.length wh (o.drop m)).length≤16384:=fun m=>by
  have:=Pj l.length wh o m
  rw [aC,aC] at hgl
  rw [aC,aC];omega
 have hi0:ce++sM ((l.length:Int)+0) (o[((l.length:Int) - 1).toNat]?.getD default) 1=N++A++uX l.length wh (o.drop (l.length - 1)):=by
  have e1:o.drop (l.length - 1)=[o[l.length - 1]?.getD default]:=by
   rw [dM sE,aA sE,eU sE];rfl
  rw [e1,ht2,eV,show ((l.length:Int) - 1).toNat=l.length - 1 by omega];rfl
 refine iI 15 rfl (show _=Value.int .i64 (((l.length - 1:Nat):Int) - 1) by congr 1;omega) ?_
 refine gL (ι:=Nat×List Sl.Instr×(Option Addr×Nat×List Value)) (fun (m,cf,(u,d,q))=>([(15,.int .i64 ((m:Int) - 1)),(5,Go.Value.int Go.IntKind.i64 (↑(List.length l):Int)),(6,Go.Value.pointer (Option.some (Go.Addr.mk b2 0 Option.none))),(1,Go.Value.slice oa (List.length o) oc),(4,Go.Value.pointer (Option.some (Go.Addr.mk b1 0 Option.none)))],[(1,some b2,.cells #[.int .i64 l.length,.slice u cf.length d,.slice wa l.length wd] 267),(2,u.map (·.block),Row 91 cf q),(0,Option.some b1,Go.Obj.cells #[Go.Value.int Go.IntKind.i64 0,Go.Value.int Go.IntKind.i64 0,Go.Value.slice Option.none 0 0,Go.Value.slice Option.none 0 0] 26)])) (fun (m,cf,(u,d,q))=>m≤l.length - 1∧cf=N++A++uX l.length wh (o.drop m)∧OwnA u d cf q) (fun (m,cf,(u,d,q))=>m) ((l.length - 1,_,(a1,d1,j1))) (⟨aH _,hi0,ho1⟩) ⟨rfl,rfl,rfl,rfl,rfl,trivial⟩ ⟨rfl,rfl,rfl,trivial⟩ fun ⟨m,cf,(u,d,q)⟩=>fun hk=>?_
 obtain ⟨hm1,hm2,hm3⟩:=hk
 rcases fZ m with hm0 | hm0
 · subst hm0
   refine aJ 17 [0] ?_
   refine eG rfl (lM rfl rfl sE) ?_
   refine aB 5 [1] ?_
   refine eG rfl (bO (cs:=[_,_,_,_]) T.st26 rfl rfl rfl) ?_
   refine aN 3 rfl T.zero26 fun b3=>?_
   refine aZ 11 [3] ?_
   refine dZ 4 (Row 3 ([]:List Int) []) ?_
   have hcf:cf=Ly l o:=by
    rw [hm2,oP]
    unfold Ly
    rw [hN,hWh,hA,bA]
   refine gL (ι:=Nat×(Option Addr×Nat×List Value)) (fun (t,(x,y,z))=>([(119,.int .i64 (t:Int)),(118,Go.Value.int Go.IntKind.i64 (↑(List.length l):Int)),(16,Go.Value.pointer (Option.some (Go.Addr.mk b3 0 Option.none))),(6,Go.Value.pointer (Option.some (Go.Addr.mk b2 0 Option.none))),(4,Go.Value.pointer (Option.some (Go.Addr.mk b1 0 Option.none)))],[(3,some b3,.cells #[.int .i64 l.length,.int .i64 (3*(l.length:Int)+1),.slice u cf.length d,.slice x (Ei l.length t).length y] 26),(4,x.map (·.block),Row 3 (Ei l.length t) z),(1,Option.some b2,Go.Obj.cells #[Go.Value.int Go.IntKind.i64 (↑(List.length l):Int),Go.Value.slice u (List.length cf) d,Go.Value.slice wa (List.length l) wd] 267),(2,Option.map (fun x=>Go.Addr.block x) u,Go.Sl.Row (α:=Go.Sl.Instr) 91 (cf) (q)),(0,Option.some b1,Go.Obj.cells #[Go.Value.int Go.IntKind.i64 0,Go.Value.int Go.IntKind.i64 0,Go.Value.slice Option.none 0 0,Go.Value.slice Option.none 0 0] 26)])) (fun (t,(x,y,z))=>t≤l.length∧OwnA x y (Ei l.length t) z) (fun (t,(x,y,z))=>l.length - t) ((0,(none,0,[]))) (⟨aM _,eD⟩) ⟨rfl,rfl,rfl,rfl,rfl,trivial⟩ ⟨rfl,rfl,rfl,rfl,rfl,trivial⟩ fun ⟨t,(x,y,z)⟩=>fun hk=>?_
   obtain ⟨hx1,hx2⟩:=hk
   have hol:(Ei l.length t).length=t:=IK _ _
   rcases aK t l.length with htl | htl
   · refine bJ 17 [1] ?_
     refine gQ [0,2,1,4,3] [(3,8),(4,6),(2,6)] T.mixed rfl ?_
     refine eW 0 [] sG rfl rfl (fI T.fa26_3 rfl) ?_
     refine eW 1 [3] sG rfl rfl (jT 3 T.one24 rfl rfl rfl) ?_
     refine eW 2 [] sG rfl rfl (cV rfl) ?_
     refine eW 3 [] sG rfl rfl (cV rfl) ?_
     refine jF 4 ⟨rfl,rfl,rfl,rfl,rfl,trivial⟩ wJ sG rfl ?_
     refine eH 1 rfl T.fn196 rfl (Ks _ b2 _ _ _ _ sE sE) (sJ ⟨rfl,trivial⟩) ?_
     refine bD ?_
     refine jF 5 ⟨rfl,rfl,rfl,rfl,rfl,trivial⟩ wJ sG rfl ?_
     refine dY (α:=Int) 5 [((↑(List.length l):Int)+(↑t:Int))] rfl T.sl24 T.el3 rfl rfl rfl rfl rfl fun b4=>?_
     refine bD ?_
     refine jF 6 ⟨rfl,rfl,rfl,rfl,rfl,trivial⟩ wJ sG rfl ?_
     refine gM (α:=Int) 4 rfl T.sl24 T.el3 rfl rfl rfl Ff (fE 5 rfl) xF xF fun a2 c2 junk2 ho2=>?_
     refine bD ?_
     refine eW 7 [] sG rfl rfl (fI T.fa26_3 rfl) ?_
     refine jF 8 ⟨rfl,rfl,rfl,trivial⟩ wJ sG rfl ?_
     refine Wl.store 3 T.one24 rfl rfl rfl rfl rfl ?_
     refine bD ?_
     refine jB sG ⟨rfl,rfl,trivial⟩ wJ ?_
     refine dX 6 [] ?_
     refine cN 119 rfl (show _=Value.int .i64 ((t+1:Nat):Int) from rfl) ?_
     refine fY 3 (.cells #[.int .i64 l.length,.int .i64 (3*(l.length:Int)+1),.slice u cf.length d,.slice a2 (Ei l.length (t+1)).length c2] 26) rfl (by rw [Gu];rfl) ?_
     refine fY 4 (Row 3 (Ei l.length (t+1)) junk2) rfl (by rw [Gu]) ?_
     refine fR ((t+1,(a2,c2,junk2))) ?_ ?_ rfl ⟨rfl,rfl,rfl,rfl,rfl,trivial⟩ ⟨rfl,rfl,rfl,rfl,rfl,trivial⟩
     · exact ⟨htl,by rw [Gu];exact ho2⟩
     show l.length - (t+1)<l.length - t
     omega
   have htl:t=l.length:=sE
   subst htl
   subst hcf
   refine bE 19 [0,3,0] ?_
   refine lY [2,4,0] sN (cK (.inr rfl) (Ho:=Hp.only _ [0,1]) rfl (.agg 2 rfl rfl T.agg26) (aT _ _) ?_)
   exact ⟨u,x,d,y,q,z,rfl,hm3,hx2,rfl⟩
 obtain ⟨i,rfl⟩:∃ i,m=i+1:=⟨m - 1,by omega⟩
 refine iI 15 rfl (show _=Value.int .i64 (i:Int) by congr 1;omega) ?_
 have hin:i<o.length:=sE
 have hdr:o.drop i=o[(i:Int).toNat]?.getD default :: o.drop (i+1):=by
  rw [dM hin,aE,aA hin];rfl
 have hok2:=o2 (o[(i:Int).toNat]?.getD default) (by rw [aE,aA hin];exact bI _)
 have hdl:(o.drop (i+1)).length=o.length - (i+1):=gE
 have hbk:cf++xC l.length wh (o[(i:Int).toNat]?.getD default) (o.drop (i+1)).length=N++A++uX l.length wh (o.drop i):=by
  rw [hm2,hdr,Vt _ _ _ sE];simp only [bA]
 have hb:(cf++xC l.length wh (o[(i:Int).toNat]?.getD default) (o.drop (i+1)).length).length≤1048576:=by
  rw [hbk];have:=hbl i;omega
 refine aJ 16 [1] ?_
 refine eG rfl (jA (α:=Int) T.sl24 rfl rfl sF sE) ?_
 refine eG rfl (cJ T.one3 rfl (iC sF sE 0 rfl rfl)) ?_
 refine aB 4 [] ?_
 refine gK 107 rfl (show _=Value.int .i64 ((o.drop (i+1)).length:Nat) by congr 1;rw [hdl];omega) ?_
 refine eK 1 rfl T.fn197 rfl (ah _ l.length b2 u d cf q wa wd wh _ (o.drop (i+1)).length hwl hm3 hw2 hl15 hok2 (by rw [hdl];omega) (by rw [hdl];omega) (hwok _ sE) hb) (sJ ⟨rfl,rfl,trivial⟩) fun v3 G3 Ho3 hle3 hp=>?_
 obtain ⟨rfl,rfl,a3,d3,j3,ho3,rfl⟩:=hp
 refine aR 8 [] ?_
 refine cN 15 rfl (show _=Value.int .i64 ((i:Int) - 1) from rfl) ?_
 refine fR ((i,_,(a3,d3,j3))) ?_ ?_ rfl ⟨rfl,rfl,rfl,rfl,rfl,trivial⟩ ⟨rfl,rfl,rfl,trivial⟩
 · exact ⟨by omega,hbk,ho3⟩
 show i<i+1
 omega
theorem IL {G:Imm} {b:Nat} {cs:List Value} {T:TypeId} {fz:Nat×Nat} (h:G b=some (.cells cs.toArray T fz)) (k:Nat) {v:Value} (hv:cs[k]?=some v):G.cell b k=some v:=by
 simp only [Imm.cell,h];simpa using hv
theorem ia (G:Imm) (a:Option Addr) (n c:Nat):Does Tryz.prog 146 [.slice a n c] G [] (fun v G' Ho=>∃ b,v=.func (.func 191) #[] #[.pointer (some ⟨b,0,none⟩)]∧Ho=[]∧G' b=some (.cells [.slice a n c].toArray 24)):=by
 refine fK Tryz.func146 rfl Tryz.ntmps146 rfl fun w=>?_
 refine aJ 2 [] ?_
 refine qM 0 rfl rfl rfl fun b1=>?_
 refine aL 5 [] ?_
 refine eG rfl (gT rfl rfl) ?_
 refine aR 4 [] ?_
 refine rD 0 rfl fun G' hle hb=>?_
 refine cK (.inr rfl) (Ho:=[]) rfl (.tmp rfl) trivial ?_
 exact ⟨_,rfl,rfl,hb⟩
def encI (x:Int):List Value:=[.int .i64 x]
theorem ib (G:Imm) (a:Option Addr) (c:Nat) (xs:List Int) (b:Nat) (hx:Arr G a xs) (hl:xs.length≤1099511627776) (hb:G b=some (.cells [.slice a xs.length c].toArray 24)) :
 Hq Tryz.prog 191 [.pointer (some ⟨b,0,none⟩)] G encI xs:=by
 intro ι J inv stop ly i0 hi0 hY
 have hcell:G.cell b 0=some (.slice a xs.length c):=IL hb 0 rfl
 refine fK Tryz.func191 rfl Tryz.ntmps191 rfl fun w=>?_
 refine Mi 1000 ?_
 refine aJ 2 [] ?_
 refine eG rfl (cJ T.one24 rfl sF) ?_
 refine aZ 5 [] ?_
 refine Xn (ι:=Nat×ι) 1000 (fun (m,s)=>([(7,.int .i64 (m:Int)),(6,Go.Value.int Go.IntKind.i64 (↑(List.length xs):Int)),(5,Go.Value.slice a (List.length xs) c),(0,Go.Value.func (Go.Fn.yield ly) #[] #[])],[])) (fun (m,s)=>J s) (fun (m,s)=>m≤xs.length∧inv m s) (fun (m,s)=>xs.length - m) ((0,i0)) (⟨aM _,hi0⟩) ⟨rfl,rfl,rfl,rfl,trivial⟩ trivial yY fun ⟨m,s⟩=>fun hk=>?_
 obtain ⟨hm1,hinv⟩:=hk
 refine bJ 6 [] ?_
 refine nK rfl (fun hc1=>?_) fun hc1=>?_
 refine aJ 6 [] ?_
 refine eG rfl (jA (α:=Int) T.sl24 rfl rfl sF sE) ?_
 refine eG rfl (cJ T.one3 rfl (iC sF sE 0 rfl rfl)) ?_
 refine aL 7 [] ?_
 rotate_left
 refine bE 4 [] ?_
 rotate_left
 · have hml:m<xs.length:=sE
   have hbx:xs[m]?=some (xs[(m:Int).toNat]?.getD default):=by
    rw [aE,aA hml];rfl
   refine Jv (A:=[]) 1000 rfl rfl rfl trivial yY rfl (hY m _ s hbx hinv) fun vy Gy Hy hly hp=>?_
   obtain ⟨rfl,s',rfl,hp⟩:=hp
   rcases hp with ⟨rfl,hinv'⟩ | ⟨rfl,hst⟩
   · refine aR 11 [0] ?_
     refine cN 7 rfl (show _=Value.int .i64 ((m+1:Nat):Int) from rfl) ?_
     refine Gt ((m+1,s')) ?_ ?_ rfl ⟨rfl,rfl,rfl,rfl,trivial⟩ trivial yY
     · exact ⟨hml,hinv'⟩
     show xs.length - (m+1)<xs.length - m
     omega
   refine aR 9 [1] ?_
   refine pE (k:=1000) (.inr rfl) rfl yY ⟨rfl,s',rfl,.inr hst⟩
 have hm:m=xs.length:=sE
 subst hm
 refine pE (k:=1000) (.inl rfl) rfl yY ⟨rfl,s,rfl,.inl hinv⟩
theorem ic (G:Imm) (a:Option Addr) (c:Nat) (xs:List Int) (b:Nat) (hx:Arr G a xs) (hl:xs.length≤1048576) (hb:G b=some (.cells [.slice a xs.length c].toArray 24)) :
 Does Tryz.prog 224 [.slice none 0 0,.func (.func 191) #[] #[.pointer (some ⟨b,0,none⟩)]] G [] (fun v G' Ho=>∃ (o:Option Addr) (d:Nat) (j:List Value),v=.slice o xs.length d∧OwnA o d xs j∧Ho=[(0,o.map (·.block),Row 3 xs j)]∧G'=G):=by
 refine nS Tryz.func224 rfl Tryz.ntmps224 rfl fun w=>?_
 refine aJ 2 [] ?_
 refine qM 0 rfl rfl rfl fun b1=>?_
 refine aZ 10 [] ?_
 refine dZ 1 (Row 3 ([]:List Int) []) ?_
 refine pS (ι:=List Int×(Option Addr×Nat×List Value)) 900 901 (fun (ys,(o,d,j))=>[(0,some b1,.cells #[.slice o ys.length d] 24),(1,o.map (·.block),Row 3 ys j)]) (fun k (ys,(o,d,j))=>ys=xs.take k∧OwnA o d ys j) (fun c (ys,(o,d,j))=>False) (([],(none,0,[]))) rfl T.fn191 (fun _=>rfl) rfl (ib _ a c xs b hx sE hb) (⟨rfl,eD⟩) (oU ⟨rfl,rfl,trivial⟩) ⟨rfl,fun _=>rfl⟩ (fun k x ⟨ys,(o,d,j)⟩ l dd q w0 hx hi=>?_) (fun ⟨ys,(o,d,j)⟩ dd hi=>?_) fun ⟨ys,(o,d,j)⟩ dd c hi=>?_
 · obtain ⟨hy,ho⟩:=hi
   have hkl:k<xs.length:=(bZ.1 hx).1
   have hyl:ys.length=k:=by rw [hy,bG];omega
   refine bE 3 [] ?_
   refine qZ 900 rfl ?_
   refine aJ 4 [0] ?_
   refine dY (α:=Int) 902 [(x)] rfl T.sl24 T.el3 rfl rfl rfl rfl rfl fun b2=>?_
   refine gM (α:=Int) 1 rfl T.sl24 T.el3 rfl rfl rfl Ff (fE 902 rfl) xF xF fun a1 c1 junk1 ho1=>?_
   refine aR 3 [0] ?_
   refine kQ none (.inl ⟨rfl,rfl⟩) 900 rfl ⟨rfl,((ys++[x],(a1,c1,junk1)),none),rfl,.inl ⟨rfl,rfl,?_⟩⟩ (oU ⟨rfl,rfl,rfl,rfl,trivial⟩)
   refine ⟨?_,ho1⟩
   rw [cB,hx,hy];rfl
 · obtain ⟨hy,ho⟩:=hi
   rw [bC] at hy
   subst hy
   refine dX 9 [0] ?_
   refine nJ (.inr rfl) 901 rfl ?_
   refine nT (.inr rfl) ?_
   refine qD (lY [1] sN (cK (.inr rfl) rfl (.tmp rfl) (lO 0 _) ?_))
   exact ⟨_,_,_,rfl,ho,rfl,rfl⟩
 exact hi.elim
theorem ie (G:Imm) (a:Option Addr) (c:Nat) (xs:List Int) (b:Nat) (hx:Arr G a xs) (hl:xs.length≤1048576) (hb:G b=some (.cells [.slice a xs.length c].toArray 24)) :
 Does Tryz.prog 189 [.func (.func 191) #[] #[.pointer (some ⟨b,0,none⟩)]] G [] (fun v G' Ho=>∃ (o:Option Addr) (d:Nat) (j:List Value),v=.slice o xs.length d∧OwnA o d xs j∧Ho=[(0,o.map (·.block),Row 3 xs j)]∧G'=G):=by
 refine fK Tryz.func189 rfl Tryz.ntmps189 rfl fun w=>?_
 refine aJ 8 [] ?_
 refine eK 0 rfl T.fn224 rfl (ic _ a c xs b hx hl hb) (sJ trivial) fun v1 G1 Ho1 hle1 hp=>?_
 obtain ⟨o1,d1,j1,rfl,ho1,rfl,rfl⟩:=hp
 refine aR 4 [] ?_
 refine cK (.inr rfl) (Ho:=Hp.only _ [0]) rfl (.tmp rfl) (aT _ _) ?_
 exact ⟨_,_,_,rfl,ho1,rfl,rfl⟩
def Fx (xs:List Int):List Int:=xs.mergeSort fun x y=>decide (x≤y)
theorem xX (xs:List Int):(Fx xs).length=xs.length:=List.length_mergeSort xs
theorem ig (G:Imm) (a:Option Addr) (c:Nat) (xs:List Int) (b:Nat) (hx:Arr G a xs) (hl:xs.length≤1048576) (hb:G b=some (.cells [.slice a xs.length c].toArray 24)) :
 Does Tryz.prog 145 [.func (.func 191) #[] #[.pointer (some ⟨b,0,none⟩)]] G [] (fun v G' Ho=>∃ (o:Option Addr) (d:Nat),v=.slice o (Fx xs).length d∧Arr G' o (Fx xs)∧(Fx xs).length≤d∧Ho=[]):=by
 refine fK Tryz.func145 rfl Tryz.ntmps145 rfl fun w=>?_
 refine aJ 8 [] ?_
 refine eK 0 rfl T.fn189 rfl (ie _ a c xs b hx hl hb) (sJ trivial) fun v1 G1 Ho1 hle1 hp=>?_
 obtain ⟨o1,d1,j1,rfl,ho1,rfl,rfl⟩:=hp
 refine aL 6 [] ?_
 rcases ho1 with ⟨rfl,rfl,rfl,rfl⟩ | ⟨bb,rfl,h2,h3,h4⟩
 · refine mG rfl T.fn190 rfl (aa _ _) ?_
   refine aR 9 [] ?_
   refine cK (.inr rfl) (Ho:=[]) rfl (.tmp rfl) trivial ?_
   exact ⟨none,0,by rw [xX],by rw [dT (xX [])];exact kE _,mW (xX []),rfl⟩
 refine eK 0 rfl T.fn190 rfl (gv _ bb d1 xs j1 sE) (sJ ⟨rfl,trivial⟩) fun v2 G2 Ho2 hle2 hp=>?_
 obtain ⟨rfl,rfl,rfl⟩:=hp
 refine aR 9 [] ?_
 have hoS:OwnA (some ⟨bb,0,none⟩) d1 (Fx xs) j1:=.inr ⟨bb,rfl,by rw [xX];exact h2,by rw [xX];exact h3,h4⟩
 refine cQ 0 rfl hoS fun G8 hle8 hA8=>?_
 refine cK (.inr rfl) (Ho:=[]) rfl (.tmp rfl) trivial ?_
 exact ⟨_,_,by rw [xX],hA8,by rw [xX];exact h3,rfl⟩
theorem Kv (n:Nat):(wI n).Pairwise (·<·):=by
 unfold wI
 rw [List.pairwise_map]
 exact List.Pairwise.imp (fun h=>by omega) List.pairwise_lt_range
theorem Mw (n:Nat) (x:Int):x∈wI n↔0≤x∧x<n:=by
 unfold wI
 rw [dJ]
 constructor
 · rintro ⟨k,hk,rfl⟩
   have:=iM.1 hk
   omega
 intro h
 exact ⟨x.toNat,iM.2 sE,by omega⟩
theorem CZ (o:List Int) (n:Nat):Fx o=wI n↔Ct o n:=by
 have hnd:(wI n).Nodup:=(Kv n).imp (fun h=>by omega)
 have hp:(Fx o).Perm o:=List.mergeSort_perm o _
 constructor
 · intro h
   rw [h] at hp
   refine ⟨by rw [←hp.length_eq,Mo],fun x hx=>(Mw n x).1 (hp.mem_iff.2 hx),hp.nodup_iff.1 hnd⟩
 rintro ⟨h1,h2,h3⟩
 have hm:∀ x,x∈o↔x∈wI n:=fun x=>by
  refine ⟨fun hx=>(Mw n x).2 (h2 x hx),fun hx=>eE fun hno=>?_⟩
  have:=List.Nodup.length_le_of_subset (qG.2 ⟨hno,h3⟩) (l₂:=wI n) (fun y hy=>by
   rcases iG.1 hy with rfl | hy
   · exact hx
   exact (Mw n y).2 (h2 y hy))
  rw [aW,Mo] at this;omega
 have hperm:(Fx o).Perm (wI n):=hp.trans ((List.perm_ext_iff_of_nodup h3 hnd).2 hm)
 exact List.Perm.eq_of_pairwise (le:=fun a b:Int=>a≤b) (fun a b _ _ h1 h2=>by omega) (IJ o) ((Kv n).imp (fun h=>by omega)) hperm
theorem ii (G:Imm) (a b:Option Addr) (c d:Nat) (xs ys:List Int) (hx:Arr G a xs) (hy:Arr G b ys) (hl:xs.length≤1048576) :
 Does Tryz.prog 86 [.slice a xs.length c,.slice b ys.length d] G [] (fun v G' Ho=>v=.bool (decide (xs=ys))∧G'=G∧Ho=[]):=by
 refine fK Tryz.func86 rfl Tryz.ntmps86 rfl fun w=>?_
 refine bJ 15 [] ?_
 refine nK rfl (fun hc1=>?_) fun hc1=>?_
 refine bE 7 [] ?_
 refine cK (.inr rfl) (Ho:=Hp.only _ []) rfl (.tmp rfl) (aT _ _) ?_
 rotate_left
 refine bJ 11 [] ?_
 rotate_left
 · refine ⟨?_,rfl,rfl⟩
   congr 1
   refine (bQ fun h=>hc1 ?_).symm
   rw [h]
 have hle:xs.length=ys.length:=eE fun h=>hc1 sE
 refine gL (ι:=Nat) (fun k=>([(13,.int .i64 (k:Int)),(12,Go.Value.int Go.IntKind.i64 (↑(List.length xs):Int)),(0,Go.Value.slice a (List.length xs) c),(1,Go.Value.slice b (List.length ys) d)],[])) (fun k=>k≤xs.length∧(∀ i,i<k→xs[i]?.getD default=ys[i]?.getD default)) (fun k=>xs.length - k) (0) (⟨aM _,fun i h=>absurd h sE⟩) ⟨rfl,rfl,rfl,rfl,trivial⟩ trivial fun k=>fun hk=>?_
 obtain ⟨hk1,hk2⟩:=hk
 rcases aK k xs.length with hkl | hkl
 · refine bJ 18 [1] ?_
   refine gQ [] [] T.mixed rfl ?_
   refine eW 0 [] sG rfl rfl (cV rfl) ?_
   refine eW 1 [] sG rfl rfl (cV rfl) ?_
   refine eW 2 [] sG rfl rfl (jA (α:=Int) T.sl24 rfl rfl sF sE) ?_
   refine eW 3 [] sG rfl rfl (cJ T.one3 rfl (iC sF sE 0 rfl rfl)) ?_
   refine eW 4 [] sG rfl rfl (cV rfl) ?_
   refine eW 5 [] sG rfl rfl (cV rfl) ?_
   refine eW 6 [] sG rfl rfl (jA (α:=Int) T.sl24 rfl rfl sF sE) ?_
   refine eW 7 [] sG rfl rfl (cJ T.one3 rfl (iC sF sE 0 rfl rfl)) ?_
   refine eW 8 [] sG rfl rfl (Qy.neq rfl rfl) ?_
   refine jB sG trivial wJ ?_
   refine cO ?_
   refine nK rfl (fun hc2=>?_) fun hc2=>?_
   refine bE 11 [] ?_
   refine cK (.inr rfl) (Ho:=Hp.only _ []) rfl (.tmp rfl) (aT _ _) ?_
   rotate_left
   refine bE 7 [] ?_
   rotate_left
   · refine ⟨?_,rfl,rfl⟩
     congr 1
     refine (bQ fun h=>hc2 ?_).symm
     rw [h]
   refine cN 13 rfl (show _=Value.int .i64 ((k+1:Nat):Int) from rfl) ?_
   refine fR (k+1) ?_ ?_ rfl ⟨rfl,rfl,rfl,rfl,trivial⟩ trivial
   · refine ⟨hkl,fun i hi=>?_⟩
     rcases aK i k with h | h
     · exact hk2 i h
     have e:i=k:=sE
     subst e
     exact eE fun h=>hc2 h
   show xs.length - (k+1)<xs.length - k
   omega
 refine bE 18 [0] ?_
 refine cK (.inr rfl) (Ho:=Hp.only _ []) rfl (.tmp rfl) (aT _ _) ?_
 refine ⟨?_,rfl,rfl⟩
 congr 1
 refine (cA ?_).symm
 apply fB hle
 intro i h1 h2
 have:=hk2 i sE
 rw [aA h1,aA h2] at this
 exact this
theorem ij (G:Imm) (a:Option Addr) (c:Nat) (l:List R2) (oa:Option Addr) (oc:Nat) (o:List Int) (ha:Arr G a l) (hoa:Arr G oa o) (hac:l.length≤c) (hocc:o.length≤oc) (hR:tL l) (hO:Ct o l.length) :
 Does Tryz.prog 91 [.slice a l.length c,.slice oa o.length oc] G [] (fun v G' Ho=>∃ (bc bo:Option Addr) (dc do_:Nat) (j1 j2:List Value),v=.tuple #[.agg #[.int .i64 (sR l o).ins,.int .i64 (sR l o).regs,.slice bc (sR l o).code.length dc,.slice bo (sR l o).outs.length do_],.int .i64 0]∧OwnA bc dc (sR l o).code j1∧OwnA bo do_ (sR l o).outs j2∧
  Ho=[(0,bc.map (·.block),Row 91 (sR l o).code j1),(1,bo.map (·.block),Row 3 (sR l o).outs j2)]):=by
 have hl15:=hR.2.1
 have hol:o.length≤1048576:=by rw [hO.1];omega
 refine fK Tryz.func91 rfl Tryz.ntmps91 rfl fun w=>?_
 refine aJ 2 [] ?_
 refine aN 0 rfl T.zero26 fun b1=>?_
 refine aL 7 [] ?_
 refine mG rfl T.fn144 rfl (VF _ _ _ l sF sE hac hR) ?_
 refine aB 5 [] ?_
 refine eK 1 rfl T.fn146 rfl (ia _ _ _ _) (sJ trivial) fun v1 G1 Ho1 hle1 hp=>?_
 obtain ⟨vb1,rfl,rfl,hvb1⟩:=hp
 replace ha:=ha.up hle1
 replace hoa:=hoa.up hle1
 refine pP rfl rfl ?_
 refine eK 1 rfl T.fn145 rfl (ig _ oa oc o vb1 hoa hol hvb1) (sJ trivial) fun v2 G2 Ho2 hle2 hp=>?_
 obtain ⟨so2,sd2,rfl,hs2,hsd2,rfl⟩:=hp
 replace ha:=ha.up hle2
 replace hoa:=hoa.up hle2
 refine aB 5 [] ?_
 refine eK 1 rfl T.fn92 rfl (c92 _ l.length sE) (sJ trivial) fun v3 G3 Ho3 hle3 hp=>?_
 obtain ⟨na3,nc3,rfl,hna3,hnc3,rfl⟩:=hp
 replace hs2:=hs2.up hle3
 replace ha:=ha.up hle3
 replace hoa:=hoa.up hle3
 refine pP rfl rfl ?_
 refine mG rfl T.fn86 rfl (ii _ so2 na3 _ _ (Fx o) (wI l.length) hs2 hna3 (by rw [xX];exact hol)) ?_
 refine pP rfl rfl ?_
 refine eG rfl (fF rfl) ?_
 refine aZ 3 [] ?_
 refine nK rfl (fun hc1=>?_) fun hc1=>?_
 refine aJ 2 [] ?_
 refine eG rfl (bO (cs:=[_,_,_,_]) T.st26 rfl rfl rfl) ?_
 refine aR 6 [0] ?_
 rotate_left
 refine aJ 6 [] ?_
 rotate_left
 skip
 have hso:=CZ o l.length
 have hne:Fx o=wI l.length:=hso.2 hO
 skip
 · exact absurd hne hc1
 refine eK 1 rfl T.fn147 rfl (gz _ a c l oa oc o ha hoa hac hocc hR hO) (sJ trivial) fun v4 G4 Ho4 hle4 hp=>?_
 obtain ⟨bc4,bo4,dc4,dd4,j4,z4,rfl,ho4,hp4,rfl⟩:=hp
 refine aR 5 [0] ?_
 refine lY [1,2,0] sN (fS (.inr rfl) (Ho:=Hp.only _ [0,1]) rfl (.agg 2 rfl rfl T.agg26) (.tmp rfl) (aT _ _) ?_)
 exact ⟨_,_,_,_,_,_,rfl,ho4,hp4,rfl⟩
theorem Kw (n:Nat):Ct (wI n) n:=⟨Mo n,fun x hx=>(Mw n x).1 hx,(Kv n).imp (fun h=>by omega)⟩
theorem ik (G:Imm) (a:Option Addr) (c:Nat) (l:List R2) (ha:Arr G a l) (hac:l.length≤c) (hR:tL l) :
 Does Tryz.prog 44 [.slice a l.length c] G [] (fun v G' Ho=>∃ (bc bo:Option Addr) (dc do_:Nat) (j1 j2:List Value),v=.tuple #[.agg #[.int .i64 (sR l (wI l.length)).ins,.int .i64 (sR l (wI l.length)).regs,.slice bc (sR l (wI l.length)).code.length dc,.slice bo (sR l (wI l.length)).outs.length do_],.int .i64 0]∧OwnA bc dc (sR l (wI l.length)).code j1∧OwnA bo do_ (sR l (wI l.length)).outs j2∧
  Ho=[(0,bc.map (·.block),Row 91 (sR l (wI l.length)).code j1),(1,bo.map (·.block),Row 3 (sR l (wI l.length)).outs j2)]):=by
 have hl15:=hR.2.1
 refine fK Tryz.func44 rfl Tryz.ntmps44 rfl fun w=>?_
 refine aJ 2 [] ?_
 refine aN 0 rfl T.zero26 fun b1=>?_
 refine aL 8 [] ?_
 refine eK 1 rfl T.fn92 rfl (c92 _ l.length sE) (sJ trivial) fun v1 G1 Ho1 hle1 hp=>?_
 obtain ⟨na1,nc1,rfl,hna1,hnc1,rfl⟩:=hp
 replace ha:=ha.up hle1
 refine eK 1 rfl T.fn91 rfl (ij _ a c l na1 nc1 (wI l.length) ha hna1 hac hnc1 hR (Kw l.length)) (sJ trivial) fun v2 G2 Ho2 hle2 hp=>?_
 obtain ⟨bc2,bo2,dc2,dd2,j2,z2,rfl,ho2,hp2,rfl⟩:=hp
 replace hna1:=hna1.up hle2
 replace ha:=ha.up hle2
 refine aR 7 [0] ?_
 refine lY [1,2,0] sN (fS (.inr rfl) (Ho:=Hp.only _ [0,1]) rfl (.agg 2 rfl rfl T.agg26) (.tmp rfl) (aT _ _) ?_)
 exact ⟨_,_,_,_,_,_,rfl,ho2,hp2,rfl⟩
theorem TN {t:Tab} {regs:Int} {i:Sl.Instr} (n:Int) (o:List Sl.Instr) (hs:Sound t regs) (hm:sP i regs=true) :
 Sound (sX (t,o) n i).1 regs∧((sX (t,o) n i).2=o∨∃ j,(sX (t,o) n i).2=o++[j]∧sP j regs=true):=by
 obtain ⟨m1,m2,m3,m4,m5⟩:=tE hm
 obtain ⟨s1,s2⟩:=If hs n i m3
 have hh:=Bg t n i
 have hset:∀ k:Nat,Sound { (reckonP t n i).2 with held:=(reckonP t n i).2.held.set k (reckonP t n i).1.1 } regs:=fun k =>
  ⟨EE s1.len,fun x hx=>by
   rcases eN hx with h | h
   · exact s1.held x h
   rw [h];exact s2,s1.known⟩
 by_cases hsame:(reckonP t n i).2.held[(askedP (reckonP t n i).2.held i).to.toNat]?.getD default=(reckonP t n i).1.1
 · rw [Fs hsame]
   exact ⟨s1,.inl rfl⟩
 by_cases hmv:0≤holder (reckonP t n i).2.held (reckonP t n i).1.1
 · rw [Ft hsame hmv]
   exact ⟨hset _,.inr ⟨_,rfl,Eu (.inl rfl) m2 ⟨hmv,by have:=(Bh hmv).1;rw [s1.len] at this;exact this⟩⟩⟩
 rw [Fu hsame hmv]
 refine ⟨hset _,.inr ⟨_,rfl,?_⟩⟩
 rw [hh]
 have:=(HH (l:=t.held) (i:=i) (by rw [hs.len];exact hm)).2.2
 rw [hs.len] at this
 exact this
theorem Vu {p:PV} (h:sH p=true):∀ k:Nat,k≤p.code.length→Sound (tK p k).1 p.regs∧(tK p k).2.length≤k∧∀ i∈(tK p k).2,sP i p.regs=true
 | 0,_=>⟨Lu ⟨(sK h).1,(sK h).2.1⟩,aH _,fun i hi=>by cases hi⟩
 | k+1,hk=>by
   obtain ⟨h1,h2,h3⟩:=Vu h k sE
   have hm:sP (p.code[(k:Int).toNat]?.getD default) p.regs=true:=by
    rw [aE,aA sE]
    exact (sK h).2.2.2.2.2.2.2 _ (bI _)
   obtain ⟨s1,s2⟩:=TN (k:Int) (tK p k).2 h1 hm
   show Sound (sX (tK p k) k _).1 p.regs∧(sX (tK p k) k _).2.length≤k+1∧∀ i∈(sX (tK p k) k _).2,sP i p.regs=true
   rcases s2 with e | ⟨j,e,hj⟩
   · refine ⟨s1,?_,fun i hi=>?_⟩
     · rw [show sX (tK p k) k _=sX ((tK p k).1,(tK p k).2) k _ from rfl,e];omega
     rw [show sX (tK p k) k _=sX ((tK p k).1,(tK p k).2) k _ from rfl,e] at hi;exact h3 i hi
   refine ⟨s1,?_,fun i hi=>?_⟩
   · rw [show sX (tK p k) k _=sX ((tK p k).1,(tK p k).2) k _ from rfl,e,aC];simp only [aW,cH];omega
   rw [show sX (tK p k) k _=sX ((tK p k).1,(tK p k).2) k _ from rfl,e] at hi
   rcases gW.1 hi with hi | hi
   · exact h3 i hi
   rw [eQ.1 hi];exact hj
theorem AC {p:PV} (h:sH p=true):sH (xG p)=true:=by
 obtain ⟨r1,r2,r3,r4,r5,r6,r7,r8⟩:=sK h
 obtain ⟨h1,h2,h3⟩:=Vu h _ (aH _)
 have hl:(xG p).outs.length=p.outs.length:=by show (vL _ _).length=_;unfold vL;rw [aP]
 refine Kj ⟨r1,r2,r3,aV h2 r4,by rw [hl];exact r5,by rw [hl];exact r6⟩ (fun r hr=>?_) h3
 obtain ⟨x,hx,rfl⟩:=dJ.1 (show r∈vL p (tK p p.code.length).1.held from hr)
 have:=yQ (l:=(tK p p.code.length).1.held) (r:=x) (by rw [h1.len];exact r7 x hx)
 rw [h1.len] at this
 exact ⟨this.1,this.2.1⟩
theorem AD {G:Imm} {b:Nat} {cs:List Value} {T:TypeId} {fz:Nat×Nat} (h:G b=some (.cells cs.toArray T fz)) (k:Nat) {v:Value} (hv:cs[k]?=some v):G.cell b k=some v:=by
 simp only [Imm.cell,h];simpa using hv
theorem FD {G:Imm} {b:Nat} {cs:List Value} {T:TypeId} {fz:Nat×Nat} (h:G b=some (.cells cs.toArray T fz)):G.row b 0 cs:=by
 intro i v hi;simp only [Imm.cell,h,dC];simpa using hi
def Pk (xs:List Sl.Instr):List (Int×Sl.Instr):=(List.range xs.length).map fun j=>(((xs.length - 1 - j:Nat):Int),xs[xs.length - 1 - j]?.getD default)
def aj (x:Int×Sl.Instr):List Value:=[.int .i64 x.1,.agg (Cells.enc x.2).toArray]
theorem Cg (xs:List Sl.Instr):(Pk xs).length=xs.length:=by simp [Pk]
theorem Kx (xs:List Sl.Instr) {j:Nat} (h:j<xs.length):(Pk xs)[j]?=some (((xs.length - 1 - j:Nat):Int),xs[xs.length - 1 - j]?.getD default):=by simp [Pk,h]
def uU (l:List Bool) (rs:List Int):List Bool:=rs.foldl (fun l r=>l.set r.toNat true) l
theorem wU (l:List Bool) (rs:List Int):(uU l rs).length=l.length:=by
 unfold uU
 induction rs generalizing l with
 | nil=>rfl
 | cons r rs ih=>simp only [List.foldl_cons];rw [ih,aG]
theorem Bj (l:List Bool) (rs:List Int) {k:Nat} (h:k<rs.length):uU l (rs.take (k+1))=(uU l (rs.take k)).set (rs[((k:Nat):Int).toNat]?.getD default).toNat true:=by
 unfold uU
 rw [cB,List.foldl_append,aE,aA h]
 rfl
def xJ (s:List Bool×List Bool) (k:Int) (i:Sl.Instr):List Bool×List Bool:=
 if s.1[i.to.toNat]?.getD default=true then (uU (s.1.set i.to.toNat false) (sS i),s.2.set k.toNat true) else s
def yT (p:PV):Nat→List Bool×List Bool
 | 0=>(uU (List.replicate p.regs.toNat false) p.outs,List.replicate p.code.length false)
 | j+1=>xJ (yT p j) ((p.code.length - 1 - j:Nat):Int) (p.code[p.code.length - 1 - j]?.getD default)
def sL (p:PV):List Bool:=(yT p p.code.length).2
theorem vY (p:PV) (j:Nat):(yT p j).1.length=p.regs.toNat∧(yT p j).2.length=p.code.length:=by
 induction j with
 | zero=>simp [yT,wU]
 | succ j ih =>
   simp only [yT,xJ]
   split
   · simp [wU,ih]
   exact ih
theorem Mx {i:Sl.Instr} {regs:Int} (h:sP i regs=true):∀ r∈sS i,0≤r∧r<regs:=by
 unfold sP at h
 simp only [aU,eJ,aS] at h
 exact h.2
def vI (p:PV):Nat→List Sl.Instr
 | 0=>[]
 | k+1=>if (sL p)[((k:Nat):Int).toNat]?.getD default=true∧¬((p.code[((k:Nat):Int).toNat]?.getD default).op=1∧(p.code[((k:Nat):Int).toNat]?.getD default).to=(p.code[((k:Nat):Int).toNat]?.getD default).a)
  then vI p k++[p.code[((k:Nat):Int).toNat]?.getD default] else vI p k
theorem Gw (p:PV) (k:Nat):(vI p k).length≤k:=by
 induction k with
 | zero=>simp [vI]
 | succ k ih =>
   simp only [vI]
   split
   · rw [aC];simp only [aW,cH];omega
   omega
def zS (p:PV):PV:=⟨p.ins,p.regs,vI p p.code.length,p.outs⟩
def vU (i:Sl.Instr):Prop:=i.op=1∧i.to=i.a
instance (i:Sl.Instr):Decidable (vU i):=inferInstanceAs (Decidable (_∧_))
theorem Ha (p:PV):∀ k,k≤p.code.length→∀ i∈vI p k,i∈p.code
 | 0,_,i,h=>by simp [vI] at h
 | k+1,hk,i,h=>by
   have hlt:k<p.code.length:=sE
   have hel:p.code[(k:Int).toNat]?.getD default∈p.code:=by rw [aE,aA hlt,dK];exact bI _
   simp only [vI] at h
   split at h
   · rw [gW,eQ] at h
     rcases h with h | h
     · exact Ha p k sE i h
     rw [h];exact hel
   exact Ha p k sE i h
theorem AE {q:PV} (h:1≤q.ins∧q.ins≤q.regs∧q.regs≤128∧q.code.length≤16384∧1≤q.outs.length∧q.outs.length≤128) (ho:∀ r∈q.outs,0≤r∧r<q.regs) (hc:∀ i∈q.code,sP i q.regs=true):sH q=true:=by
 have h1:wP q=true:=by
  unfold wP
  rw [aU,aS,eJ]
  exact ⟨by omega,fun r hr=>by rw [aS];exact ho r hr⟩
 have h2:Bw q=none:=by
  unfold Bw
  rw [gI]
  intro i hi
  rw [hc i hi];rfl
 unfold sH uD
 rw [aD (by rw [h1];decide),h2];rfl
theorem Pm {p:PV} (h:sH p=true):sH (zS p)=true:=by
 obtain ⟨r1,r2,r3,r4,r5,r6,r7,r8⟩:=sK h
 have hl:=Gw p p.code.length
 exact AE ⟨r1,r2,r3,by show (vI p p.code.length).length≤16384;omega,r5,r6⟩ r7 (fun i hi=>r8 i (Ha p _ (aH _) i hi))
def nf (p:PV):List Sl.Instr→List Bool×List Bool
 | []=>(uU (List.replicate p.regs.toNat false) p.outs,[])
 | i :: l=>if (nf p l).1[i.to.toNat]?.getD default=true then (uU ((nf p l).1.set i.to.toNat false) (sS i),true :: (nf p l).2) else ((nf p l).1,false :: (nf p l).2)
theorem OA (p:PV) (l:List Sl.Instr):(nf p l).1.length=p.regs.toNat∧(nf p l).2.length=l.length:=by
 induction l with
 | nil=>simp [nf,wU]
 | cons i l ih =>
   simp only [nf]
   split
   · simp [wU,ih]
   simp [ih]
theorem Td (p:PV):∀ j,j≤p.code.length→yT p j=((nf p (p.code.drop (p.code.length - j))).1,List.replicate (p.code.length - j) false++(nf p (p.code.drop (p.code.length - j))).2)
 | 0,_=>by simp [yT,nf]
 | j+1,hj=>by
   have ih:=Td p j sE
   obtain ⟨k,hk⟩:∃ k,k=p.code.length - (j+1):=⟨_,rfl⟩
   have hk1:p.code.length - j=k+1:=sE
   have hk2:p.code.length - 1 - j=k:=sE
   have hlt:k<p.code.length:=sE
   rw [hk1] at ih
   rw [←hk]
   have hd:p.code.drop k=p.code[k]?.getD default :: p.code.drop (k+1):=by
    rw [aA hlt,dK];exact dM hlt
   show xJ (yT p j) ((p.code.length - 1 - j:Nat):Int) (p.code[p.code.length - 1 - j]?.getD default)=_
   rw [hk2,ih,hd]
   generalize p.code[k]?.getD default=i
   generalize p.code.drop (k+1)=l
   unfold xJ
   simp only [nf]
   rw [List.replicate_succ']
   split
   · simp only [aE]
     rw [bA,qI _ _ tR]
     simp
   simp
theorem Te (p:PV):sL p=(nf p p.code).2:=by
 unfold sL
 rw [Td p p.code.length (aH _)]
 simp
def Vv (x:Sl.Instr×Bool):Option Sl.Instr:=if x.2=true∧¬vU x.1 then some x.1 else none
theorem Pn {i:Sl.Instr} {b:Bool} (h:b=true∧¬vU i):Vv (i,b)=some i:=aF h
theorem Hb {i:Sl.Instr} {b:Bool} (h:¬(b=true∧¬vU i)):Vv (i,b)=none:=aD h
def Ix (p:PV) (l:List Sl.Instr):List Sl.Instr:=(l.zip (nf p l).2).filterMap Vv
theorem Po (p:PV):∀ k,k≤p.code.length→vI p k=((p.code.take k).zip ((sL p).take k)).filterMap Vv
 | 0,_=>by simp [vI]
 | k+1,hk=>by
   have hlt:k<p.code.length:=sE
   have hnl:(sL p).length=p.code.length:=(vY p _).2
   have hlt2:k<(sL p).length:=sE
   have e1:p.code.take (k+1)=p.code.take k++[p.code[(k:Int).toNat]?.getD default]:=by
    rw [cB,aE,aA hlt];rfl
   have e2:(sL p).take (k+1)=(sL p).take k++[(sL p)[(k:Int).toNat]?.getD default]:=by
    rw [cB,aE,aA hlt2];rfl
   rw [e1,e2,List.zip_append (by simp;omega),List.filterMap_append,←Po p k sE]
   simp only [mM,List.zip_nil_right,List.filterMap_cons,List.filterMap_nil]
   by_cases h:(sL p)[((k:Nat):Int).toNat]?.getD default=true∧¬vU (p.code[((k:Nat):Int).toNat]?.getD default)
   · rw [Pn h];exact aF h
   rw [Hb h]
   show vI p (k+1)=vI p k++[]
   rw [bR];exact aD h
theorem IM (p:PV):(zS p).code=Ix p p.code:=by
 show vI p p.code.length=_
 have hnl:(sL p).length=p.code.length:=(vY p _).2
 rw [Po p _ (aH _),bC,←hnl,bC,Te]
 rfl
def zG (outs:List Int) (r:Int):List (Sl.Instr×Bool)→Bool
 | []=>decide (r∈outs)
 | (i,b) :: l=>(b && decide (r∈sS i)) || (!decide (i.to=r) && zG outs r l)
theorem Hc:∀ (rs:List Int) (l:List Bool) (k:Nat),k<l.length→(∀ r∈rs,0≤r)→(uU l rs)[k]?.getD default=(l[k]?.getD default || decide ((k:Int)∈rs))
 | [],l,k,hk,_=>by simp [uU]
 | r :: rs,l,k,hk,hr=>by
   have ih:=Hc rs (l.set r.toNat true) k (by simpa using hk) (fun x hx=>hr x (by simp [hx]))
   have e:uU l (r :: rs)=uU (l.set r.toNat true) rs:=rfl
   rw [e,ih,cC]
   have h0:=hr r tR
   by_cases h:r.toNat=k
   · have h1:(k:Int)=r:=sE
     have h2:(k:Int)∈r :: rs:=by rw [h1];simp
     rw [aF h,aF (by omega),cA h2]
     simp
   have h1:(k:Int)≠r:=sE
   rw [aD h]
   simp [h1]
theorem OB {i:Sl.Instr} {regs:Int} (h:sP i regs=true):∀ r∈sS i,0≤r:=fun r hr=>(Mx h r hr).1
theorem Pp {A:List Bool} {i:Sl.Instr} {regs:Int} (hA:(A.length:Int)=regs) (hm:sP i regs=true) {r:Int} (hr:0≤r∧r<regs) :
 (uU (A.set i.to.toNat false) (sS i))[r.toNat]?.getD default=(decide (r∈sS i) || (!decide (i.to=r) && A[r.toNat]?.getD default)):=by
 have hto:0≤i.to∧i.to<regs:=by rw [tB] at hm;exact ⟨hm.1.2.2.1,hm.1.2.2.2.1⟩
 rw [Hc _ _ _ (by rw [aG];omega) (OB hm),cC]
 have e1:((r.toNat:Nat):Int)=r:=sE
 rw [e1]
 by_cases h:i.to=r
 · subst h
   rw [aF rfl,aF (by omega)]
   simp
 rw [aD (by omega)]
 simp [h,Bool.or_comm]
theorem Tf {regs:Int} (h0:0≤regs) {outs:List Int} (ho:∀ r∈outs,0≤r∧r<regs) {r:Int} (hr:0≤r∧r<regs):(uU (List.replicate regs.toNat false) outs)[r.toNat]?.getD default=decide (r∈outs):=by
 rw [Hc _ _ _ (by simp;omega) (fun x hx=>(ho x hx).1)]
 have e1:((r.toNat:Nat):Int)=r:=sE
 rw [e1]
 have:(List.replicate regs.toNat false)[r.toNat]?.getD default=false:=by
  rw [eL];split <;> rfl
 rw [this,Bool.false_or]
theorem OC {p:PV} (h0:0≤p.regs) (ho:∀ r∈p.outs,0≤r∧r<p.regs):∀ (l:List Sl.Instr),(∀ i∈l,sP i p.regs=true)→∀ r,0≤r∧r<p.regs→(nf p l).1[r.toNat]?.getD default=zG p.outs r (l.zip (nf p l).2)
 | [],_,r,hr=>by simpa [nf,zG] using Tf h0 ho hr
 | i :: l,hl,r,hr=>by
   have ih:=OC h0 ho l (fun j hj=>hl j (by simp [hj]))
   have hm:=hl i tR
   have hto:0≤i.to∧i.to<p.regs:=by rw [tB] at hm;exact ⟨hm.1.2.2.1,hm.1.2.2.2.1⟩
   have hlen:((nf p l).1.length:Int)=p.regs:=by rw [(OA p l).1];omega
   by_cases h:(nf p l).1[i.to.toNat]?.getD default=true
   · have e:nf p (i :: l)=(uU ((nf p l).1.set i.to.toNat false) (sS i),true :: (nf p l).2):=by simp only [nf];rw [aF h]
     rw [e,Pp hlen hm hr,ih r hr]
     simp [zG]
   have e:nf p (i :: l)=((nf p l).1,false :: (nf p l).2):=by simp only [nf];rw [aD h]
   rw [e]
   show (nf p l).1[r.toNat]?.getD default=zG p.outs r ((i,false) :: l.zip (nf p l).2)
   simp only [zG,Bool.false_and,Bool.false_or]
   by_cases ht:i.to=r
   · subst ht
     simpa using h
   rw [ih r hr];simp [ht]
def rf (p:PV):List Sl.Instr→List Bool
 | []=>[]
 | i :: l=>zG p.outs i.to (l.zip (rf p l)) :: rf p l
theorem VL {p:PV} (h0:0≤p.regs) (ho:∀ r∈p.outs,0≤r∧r<p.regs):∀ (l:List Sl.Instr),(∀ i∈l,sP i p.regs=true)→rf p l=(nf p l).2
 | [],_=>by simp [rf,nf]
 | i :: l,hl=>by
   have ih:=VL h0 ho l (fun j hj=>hl j (by simp [hj]))
   have hm:=hl i tR
   have hto:0≤i.to∧i.to<p.regs:=by rw [tB] at hm;exact ⟨hm.1.2.2.1,hm.1.2.2.2.1⟩
   have hg:=OC h0 ho l (fun j hj=>hl j (by simp [hj])) i.to hto
   simp only [rf]
   rw [ih,←hg]
   by_cases h:(nf p l).1[i.to.toNat]?.getD default=true
   · have e:nf p (i :: l)=(uU ((nf p l).1.set i.to.toNat false) (sS i),true :: (nf p l).2):=by simp only [nf];rw [aF h]
     rw [e,h]
   have e:nf p (i :: l)=((nf p l).1,false :: (nf p l).2):=by simp only [nf];rw [aD h]
   have h':(nf p l).1[i.to.toNat]?.getD default=false:=by simpa using h
   rw [e,h']
theorem IN {p:PV} (h:sH p=true):sL p=rf p p.code:=by
 obtain ⟨r1,r2,r3,r4,r5,r6,r7,r8⟩:=sK h
 rw [Te,VL sE r7 p.code r8]
theorem FE (p:PV):∀ (l:List Sl.Instr) (m:Nat),(rf p l).drop m=rf p (l.drop m)
 | [],m=>by simp [rf]
 | i :: l,0=>tR
 | i :: l,m+1=>by
   show (_ :: rf p l).drop (m+1)=rf p ((i :: l).drop (m+1))
   rw [oF,oF]
   exact FE p l m
def zQ (p:PV) (r:Int) (j:Nat):Bool:=zG p.outs r ((p.code.drop j).zip (rf p (p.code.drop j)))
theorem Pq (p:PV) (r:Int) {j:Nat} (h:p.code.length≤j):zQ p r j=decide (r∈p.outs):=by
 unfold zQ;rw [eU h];rfl
theorem VM (p:PV) {j:Nat} (h:j<p.code.length):rf p (p.code.drop j)=zQ p (p.code[j]?.getD default).to (j+1) :: rf p (p.code.drop (j+1)):=by
 rw [dM h,aA h,dK];rfl
theorem Mb (p:PV) (r:Int) {j:Nat} (h:j<p.code.length):zQ p r j=((zQ p (p.code[j]?.getD default).to (j+1) && decide (r∈sS (p.code[j]?.getD default))) || (!decide ((p.code[j]?.getD default).to=r) && zQ p r (j+1))):=by
 have h1:=VM p h
 unfold zQ
 rw [h1,dM h,mM,aA h,dK]
 rfl
theorem Fy {α:Type} [Inhabited α] {l m:List α} {k:Nat} (hl:k<l.length) (hm:k<m.length) (h:l.take k=m.take k) (he:l[((k:Nat):Int).toNat]?.getD default=m[((k:Nat):Int).toNat]?.getD default):l.take (k+1)=m.take (k+1):=by
 rw [aE,aA hl,aA hm] at he
 rw [cB,cB,h,aA hl,aA hm]
 simp only [dK] at he
 rw [he]
theorem il (G:Imm) (p q:PV) (ac ao bc bo:Option Addr) (cc co dc do_:Nat) (hc:Arr G ac p.code) (ho:Arr G ao p.outs) (hc':Arr G bc q.code) (ho':Arr G bo q.outs) (h1:p.code.length≤1099511627776) (h2:p.outs.length≤1099511627776) :
 Does Tryz.prog 60 [.agg #[.int .i64 p.ins,.int .i64 p.regs,.slice ac p.code.length cc,.slice ao p.outs.length co],.agg #[.int .i64 q.ins,.int .i64 q.regs,.slice bc q.code.length dc,.slice bo q.outs.length do_]] G []
  (fun v G' Ho=>v=.bool (decide (p=q))∧G'=G∧Ho=[]):=by
 refine D0 Tryz.func60 Tryz.ntmps60 fun w=>?_
 refine aJ 2 [] ?_
 refine dQ 0 fun b1=>?_
 refine dQ 1 fun b2=>?_
 refine aL 12 [0,1] ?_
 apply dP 6 12 18 rfl
 intro hg1
 refine aB 11 [0,1] ?_
 exact dA 6 0
 intro hg1
 refine aB 6 [] ?_
 exact dA 6 0
 refine aB 1 [] ?_
 apply dP 8 19 27 rfl
 intro hg1
 refine aB 15 [0,1] ?_
 exact dA 8 0
 intro hg1
 refine aB 8 [] ?_
 exact dA 8 0
 refine aB 1 [] ?_
 apply dP 8 28 36 rfl
 intro hg1
 refine aB 15 [0,1] ?_
 exact dA 8 0
 intro hg1
 refine aB 8 [] ?_
 exact dA 8 0
 refine aZ 2 [] ?_
 refine cT (fun hc1=>?_) fun hc1=>?_
 refine bE 7 [] ?_
 refine cP ?_
 rotate_left
 refine bJ 9 [] ?_
 rotate_left
 · refine ⟨?_,rfl,rfl⟩
   have:p≠q:=by rintro rfl;omega
   simp [this]
 simp only [not_or,ne_eq,eP] at hc1
 obtain ⟨⟨⟨e1,e2⟩,e3⟩,e4⟩:=hc1
 refine gY (ι:=Nat) (fun k=>([(5,.int .i64 (k:Int)),(3,.pointer (some ⟨b2,0,none⟩)),(2,.pointer (some ⟨b1,0,none⟩))],[(1,some b2,.cells #[.int .i64 q.ins,.int .i64 q.regs,.slice bc q.code.length dc,.slice bo q.outs.length do_] 26),(0,some b1,.cells #[.int .i64 p.ins,.int .i64 p.regs,.slice ac p.code.length cc,.slice ao p.outs.length co] 26)])) (fun k=>k≤p.code.length∧p.code.take k=q.code.take k) (fun k=>p.code.length - k) (0) (⟨aM _,rfl⟩) fun k=>fun hk=>?_
 obtain ⟨hk1,hk2⟩:=hk
 refine bJ 10 [0] ?_
 refine cT (fun hc1=>?_) fun hc1=>?_
 refine bJ 5 [] ?_
 refine cX [0,1] [] T.mixed [[0],[1,0],[2]] ?_
 refine mQ (α:=Sl.Instr) 3 T.sl23 ?_
 refine Gm.le 4 T.agg91 ?_
 refine dE [[5],[6,1],[7]] ?_
 refine mQ (α:=Sl.Instr) 8 T.sl23 ?_
 refine Gm.le 9 T.agg91 ?_
 refine dN 10 [] rfl (Lp T.ai91 rfl rfl) ?_
 refine cZ ?_
 refine cO ?_
 refine cT (fun hc2=>?_) fun hc2=>?_
 refine bE 11 [] ?_
 refine cP ?_
 rotate_left
 refine bE 8 [] ?_
 rotate_left
 refine bJ 12 [] ?_
 rotate_left
 · refine ⟨?_,rfl,rfl⟩
   have:p≠q:=by rintro rfl;exact hc2 rfl
   simp [this]
 · refine cL (k+1) ?_ ?_
   · exact ⟨by omega,Fy sE sE hk2 (eP.1 hc2)⟩
   omega
 have hcode:p.code=q.code:=by
  have:k=p.code.length:=sE
  subst this
  rw [bC,dL sE] at hk2
  exact hk2
 clear hk1 hk2 hc1
 refine gY (ι:=Nat) (fun k=>([(6,.int .i64 (k:Int)),(3,.pointer (some ⟨b2,0,none⟩)),(2,.pointer (some ⟨b1,0,none⟩))],[(1,some b2,.cells #[.int .i64 q.ins,.int .i64 q.regs,.slice bc q.code.length dc,.slice bo q.outs.length do_] 26),(0,some b1,.cells #[.int .i64 p.ins,.int .i64 p.regs,.slice ac p.code.length cc,.slice ao p.outs.length co] 26)])) (fun k=>k≤p.outs.length∧p.outs.take k=q.outs.take k) (fun k=>p.outs.length - k) (0) (⟨aM _,rfl⟩) fun k=>fun hk=>?_
 obtain ⟨hk1,hk2⟩:=hk
 refine bJ 10 [0] ?_
 refine cT (fun hc1=>?_) fun hc1=>?_
 refine bJ 5 [] ?_
 refine cX [0,1] [] T.mixed [[0],[1,0],[2]] ?_
 refine mQ (α:=Int) 3 T.sl24 ?_
 refine qU 4 [0] 0 T.one3 ?_
 refine dE [[5],[6,1],[7]] ?_
 refine mQ (α:=Int) 8 T.sl24 ?_
 refine qU 9 [0] 0 T.one3 ?_
 refine dE [[10]] ?_
 refine cZ ?_
 refine cO ?_
 refine cT (fun hc2=>?_) fun hc2=>?_
 refine bE 11 [] ?_
 refine cP ?_
 rotate_left
 refine bE 8 [] ?_
 rotate_left
 refine bE 11 [] ?_
 refine cP ?_
 rotate_left
 · refine ⟨?_,rfl,rfl⟩
   have:p≠q:=by rintro rfl;exact hc2 rfl
   simp [this]
 · refine cL (k+1) ?_ ?_
   · exact ⟨by omega,Fy sE sE hk2 (eP.1 hc2)⟩
   omega
 refine ⟨?_,rfl,rfl⟩
 have houts:p.outs=q.outs:=by
  have:k=p.outs.length:=sE
  subst this
  rw [bC,dL sE] at hk2
  exact hk2
 have:p=q:=by cases p;cases q;simp_all
 simp [this]
theorem c15 (G:Imm) (k1 k2:Int) (pl:List R2) (pa qa:Option Addr) (pc qc:Nat) (xp yp zp:PV) (xac xao yac yao zac zao uac uao vac vao wac wao:Option Addr) (xcc xoc ycc yoc zcc zoc ucc uoc vcc voc wcc woc:Nat) (hpa:Arr G pa pl) (hqa:Arr G qa pl) (hpl:pl.length≤1048576) (hxc:Arr G xac xp.code) (hxo:Arr G xao xp.outs) (hyc:Arr G yac yp.code) (hyo:Arr G yao yp.outs) (hzc:Arr G zac zp.code) (hzo:Arr G zao zp.outs) (huc:Arr G uac xp.code) (huo:Arr G uao xp.outs) (hvc:Arr G vac yp.code) (hvo:Arr G vao yp.outs) (hwc:Arr G wac zp.code) (hwo:Arr G wao zp.outs) (hx1:xp.code.length≤1048576) (hx2:xp.outs.length≤1048576) (hy1:yp.code.length≤1048576) (hy2:yp.outs.length≤1048576) (hz1:zp.code.length≤1048576) (hz2:zp.outs.length≤1048576) :
 Does Tryz.prog 15 [.agg #[.int .i64 k1,.int .i64 k2,.slice pa pl.length pc,.int .i64 xp.ins,.int .i64 xp.regs,.slice xac xp.code.length xcc,.slice xao xp.outs.length xoc,.int .i64 yp.ins,.int .i64 yp.regs,.slice yac yp.code.length ycc,.slice yao yp.outs.length yoc,.int .i64 zp.ins,.int .i64 zp.regs,.slice zac zp.code.length zcc,.slice zao zp.outs.length zoc],.agg #[.int .i64 k1,.int .i64 k2,.slice qa pl.length qc,.int .i64 xp.ins,.int .i64 xp.regs,.slice uac xp.code.length ucc,.slice uao xp.outs.length uoc,.int .i64 yp.ins,.int .i64 yp.regs,.slice vac yp.code.length vcc,.slice vao yp.outs.length voc,.int .i64 zp.ins,.int .i64 zp.regs,.slice wac zp.code.length wcc,.slice wao zp.outs.length woc]] G []
  (fun v G' Ho=>v=.bool (decide (1=1))∧G'=G∧Ho=[]):=by
 refine D0 Tryz.func15 Tryz.ntmps15 fun w=>?_
 refine aJ 2 [] ?_
 refine dQ 0 fun b1=>?_
 refine dQ 1 fun b2=>?_
 refine aL 12 [0,1] ?_
 refine oM 11 ?_
 refine aB 12 [0,1] ?_
 refine oM 18 ?_
 refine aZ 27 [0,1,0] ?_
 refine gY (ι:=Nat) (fun k=>([(5,.int .i64 (k:Int)),(3,.pointer (some ⟨b2,0,none⟩)),(2,.pointer (some ⟨b1,0,none⟩))],[(1,some b2,.cells #[.int .i64 k1,.int .i64 k2,.slice qa (List.length pl) qc,.int .i64 xp.ins,.int .i64 xp.regs,.slice uac xp.code.length ucc,.slice uao xp.outs.length uoc,.int .i64 yp.ins,.int .i64 yp.regs,.slice vac yp.code.length vcc,.slice vao yp.outs.length voc,.int .i64 zp.ins,.int .i64 zp.regs,.slice wac zp.code.length wcc,.slice wao zp.outs.length woc] 28),(0,some b1,.cells #[.int .i64 k1,.int .i64 k2,.slice pa (List.length pl) pc,.int .i64 xp.ins,.int .i64 xp.regs,.slice xac xp.code.length xcc,.slice xao xp.outs.length xoc,.int .i64 yp.ins,.int .i64 yp.regs,.slice yac yp.code.length ycc,.slice yao yp.outs.length yoc,.int .i64 zp.ins,.int .i64 zp.regs,.slice zac zp.code.length zcc,.slice zao zp.outs.length zoc] 28)])) (fun k=>k≤pl.length) (fun k=>pl.length - k) (0) (aM _) fun k=>fun (hk:k≤pl.length)=>?_
 refine bJ 10 [0] ?_
 refine cT (fun hc1=>?_) fun hc1=>?_
 refine bJ 5 [] ?_
 refine cX [0,1] [] T.mixed [[0],[1,0],[2]] ?_
 refine mQ (α:=R2) 3 T.sl22 ?_
 refine Gm.le 4 T.agg52 ?_
 refine dE [[5],[6,1],[7]] ?_
 refine mQ (α:=R2) 8 T.sl22 ?_
 refine Gm.le 9 T.agg52 ?_
 refine dN 10 [] rfl (DV [_,_] [_,_] T.ai52 rfl rfl rfl rfl) ?_
 refine cZ ?_
 refine cO ?_
 refine cT (fun hc2=>?_) fun hc2=>?_
 refine bE 11 [] ?_
 refine cP ?_
 rotate_left
 refine bE 8 [] ?_
 rotate_left
 refine aJ 8 [] ?_
 refine aO (fU 0 T.agg26 rfl rfl rfl rfl) ?_
 refine aB 1 [] ?_
 refine aO (fU 1 T.agg26 rfl rfl rfl rfl) ?_
 refine cI rfl (il _ _ _ _ _ _ _ _ _ _ _ sF sF sF sF sE sE) ?_
 refine aB 1 [] ?_
 apply bW 6 50 56 rfl
 intro hg1
 refine aB 3 [] ?_
 refine aO (fU 0 T.agg26 rfl rfl rfl rfl) ?_
 refine aB 3 [] ?_
 refine aO (fU 1 T.agg26 rfl rfl rfl rfl) ?_
 refine aB 1 [] ?_
 refine cI rfl (il _ _ _ _ _ _ _ _ _ _ _ sF sF sF sF sE sE) ?_
 refine aB 1 [] ?_
 exact dA 6 0
 intro hg1
 refine aB 6 [] ?_
 exact dA 6 0
 refine aB 1 [] ?_
 apply bW 6 57 63 rfl
 intro hg1
 refine aB 3 [] ?_
 refine aO (fU 0 T.agg26 rfl rfl rfl rfl) ?_
 refine aB 3 [] ?_
 refine aO (fU 1 T.agg26 rfl rfl rfl rfl) ?_
 refine aB 1 [] ?_
 refine cI rfl (il _ _ _ _ _ _ _ _ _ _ _ sF sF sF sF sE sE) ?_
 refine aB 1 [] ?_
 exact dA 6 0
 intro hg1
 refine aB 6 [] ?_
 exact dA 6 0
 refine aR 4 [] ?_
 refine cP ?_
 rotate_left
 · exact absurd rfl sF
 · refine cL (k+1) ?_ ?_
   · omega
   omega
 exact ⟨by simp,rfl,rfl⟩
theorem ak (G:Imm) (p:PV) (ac ao:Option Addr) (cc co:Nat) (hc:Arr G ac p.code) (ho:Arr G ao p.outs) (h1:p.code.length≤1099511627776) (h2:p.outs.length≤1099511627776) :
 Does Tryz.prog 186 [.agg #[.int .i64 p.ins,.int .i64 p.regs,.slice ac p.code.length cc,.slice ao p.outs.length co]] G [] (fun v G' Ho=>v=.bool (decide (sH p=true))∧G'=G∧Ho=[]):=by
 refine D0 Tryz.func186 Tryz.ntmps186 fun w=>?_
 refine aJ 2 [] ?_
 refine dQ 0 fun b1=>?_
 refine aL 6 [0] ?_
 refine cI rfl (YA _ _ _ _ _ _ sF sF sE sE) ?_
 refine aR 15 [] ?_
 refine cP ?_
 refine ⟨?_,rfl,rfl⟩
 cases h:(uD p).2 <;> simp [sH,h]
def Vw (t:Tab) (bt bk bf:Nat) (a:Option Addr) (c:Nat) (junk:List Value):Hp:=
 [(0,some bt,.cells #[.slice a t.held.length c,.map (some bk),.map (some bf),.int .i64 t.next] 168),(1,a.map (·.block),Row 3 t.held junk),(2,some bk,mapObj t.known),(3,some bf,mapObj t.first)]
theorem c97 (G:Imm) (p:PV) (ac ao:Option Addr) (cc co:Nat) (hr:0≤p.ins∧p.ins≤p.regs∧p.regs≤128) :
 Does Tryz.prog 97 [.agg #[.int .i64 p.ins,.int .i64 p.regs,.slice ac p.code.length cc,.slice ao p.outs.length co]] G [] (fun v G' Ho=>∃ bt bk bf a c junk,v=.pointer (some ⟨bt,0,none⟩)∧
  OwnA a c (start p) junk∧Ho=Vw ⟨start p,[],[],p.ins+1⟩ bt bk bf a c junk∧G'=G):=by
 refine D0 Tryz.func97 Tryz.ntmps97 fun w=>?_
 refine dZ 1 (Row 3 ([]:List Int) []) ?_
 refine aJ 2 [] ?_
 refine dQ 2 fun b1=>?_
 refine aL 5 [] ?_
 refine Wl.makeMap (κ:=K4) 3 rfl fun b2=>?_
 refine Wl.makeMap (κ:=K4) 4 rfl fun b3=>?_
 refine aB 3 [2] ?_
 refine aO (bO (cs:=[_,_,_,_]) T.st168 rfl rfl rfl) ?_
 refine dQ 5 fun b4=>?_
 refine aZ 12 [2] ?_
 have hsl:(start p).length=p.regs.toNat:=by simp [start]
 refine gY (ι:=Nat×List Int×Option Addr×Nat×List Value) (fun (k,xs,a,c,junk)=>([(14,.int .i64 (k:Int)),(13,.int .i64 p.regs),(3,.pointer (some (Addr.mk b4 0 none))),(2,.pointer none),(1,.pointer (some ⟨b1,0,none⟩))],[(1,a.map (·.block),Row 3 xs junk),(5,some b4,.cells #[.slice a xs.length c,.map (some b2),.map (some b3),.int .i64 (p.ins+1)] 168),(4,some b3,Go.Sl.mapObj (κ:=Go.Sl.K4) ([])),(3,some b2,Go.Sl.mapObj (κ:=Go.Sl.K4) ([])),(2,some b1,.cells #[.int .i64 p.ins,.int .i64 p.regs,.slice ac p.code.length cc,.slice ao p.outs.length co] 26)])) (fun (k,xs,a,c,junk)=>k≤p.regs.toNat∧xs=(start p).take k∧OwnA a c xs junk) (fun (k,xs,a,c,junk)=>p.regs.toNat - k) ((0,[],none,0,[])) (⟨aM _,rfl,eD⟩) fun ⟨k,xs,a,c,junk⟩=>fun hk=>?_
 obtain ⟨hk1,hxs,ho⟩:=hk
 have hlen:xs.length=k:=by rw [hxs,bG];omega
 refine bJ 6 [] ?_
 refine cT (fun hc1=>?_) fun hc1=>?_
 refine bJ 10 [] ?_
 refine cX [2,3,4,5,1] [(5,13),(1,10)] T.mixed [[0],[1],[2],[3],[4,5],[5],[6],[7,2]] ?_
 refine dN 8 [] rfl (Qy.min rfl rfl) ?_
 refine bV 9 ?_
 refine dY (α:=Int) 6 [(if Go.Proofs.YtfdcckcadfhpeaaGreatDoor.PV.ins p<(↑k:Int) then Go.Proofs.YtfdcckcadfhpeaaGreatDoor.PV.ins p else (↑k:Int))] rfl T.sl24 T.el3 rfl rfl rfl rfl rfl fun b5=>?_
 refine cG 10 ?_
 refine jS (α:=Int) 1 T.sl24 T.el3 (fE 6 rfl) fun a1 c1 junk1 ho1=>?_
 refine bD ?_
 refine dE [[11],[12]] ?_
 refine bV 13 ?_
 refine aB 1 [5] ?_
 refine eZ ?_
 refine dX 6 [] ?_
 rotate_left
 refine bE 12 [] ?_
 refine lY [5,1,3,4] sN (cK (.inr rfl) rfl (.tmp rfl) (lO 0 _) ?_)
 rotate_left
 · refine cL ((k+1,_,a1,c1,junk1)) ?_ ?_
   · have hst:(start p).take (k+1)=(start p).take k++[if p.ins<(k:Int) then p.ins else (k:Int)]:=by
      rw [cB]
      have hkl:k<p.regs.toNat:=sE
      simp [start,hkl]
     refine ⟨by omega,?_,ho1⟩
     rw [hst,hxs]
   show p.regs.toNat - (k+1)<p.regs.toNat - k
   omega
 have hk:k=p.regs.toNat:=sE
 have htk:xs=start p:=by rw [hxs];exact dL sE
 rw [htk] at ho ⊢
 exact ⟨b4,b2,b3,a,c,junk,rfl,ho,rfl,rfl⟩
theorem TO (G:Imm) (t:Tab) (bt bk bf:Nat) (a:Option Addr) (c:Nat) (junk:List Value) (v:Int) (ho:OwnA a c t.held junk) (hl:t.held.length≤128) :
 Does Tryz.prog 100 [.pointer (some ⟨bt,0,none⟩),.int .i64 v] G (Vw t bt bk bf a c junk) (fun r G' Ho=>r=.int .i64 (holder t.held v)∧G'=G∧Ho=Vw t bt bk bf a c junk):=by
 refine D0 Tryz.func100 Tryz.ntmps100 fun w=>?_
 refine bJ 5 [] ?_
 refine mH ?_
 refine bJ 15 [0] ?_
 refine gY (ι:=Nat) (fun k=>([(12,.int .i64 (k:Int)),(11,.int .i64 (↑(List.length (Tab.held t)):Int)),(10,.slice a (List.length (Tab.held t)) c),(1,.int .i64 v)],[(0,some bt,.cells #[.slice a (List.length (Tab.held t)) c,Go.Value.map (some bk),Go.Value.map (some bf),.int .i64 (Tab.next t)] 168),(1,Option.map (fun x=>Go.Addr.block x) a,Row (α:=Int) 3 (Tab.held t) (junk)),(2,some bk,Go.Sl.mapObj (κ:=Go.Sl.K4) (Tab.known t)),(3,some bf,Go.Sl.mapObj (κ:=Go.Sl.K4) (Tab.first t))])) (fun k=>k≤t.held.length∧(t.held.take k).all (fun x=>!decide (x=v))=true) (fun k=>t.held.length - k) (0) (⟨aM _,rfl⟩) fun k=>fun hk=>?_
 obtain ⟨hk1,hk2⟩:=hk
 refine bJ 6 [] ?_
 refine cT (fun hc1=>?_) fun hc1=>?_
 refine aJ 7 [] ?_
 refine gX (α:=Int) T.sl24 ?_
 refine mS 1 0 T.one3 ?_
 refine aZ 12 [] ?_
 refine cT (fun hc2=>?_) fun hc2=>?_
 refine bE 8 [] ?_
 rotate_left
 refine bE 14 [] ?_
 refine iR ?_
 refine mB [0,1,2,3] ?_
 rotate_left
 refine bE 11 [] ?_
 refine iR ?_
 refine mB [0,1,2,3] ?_
 rotate_left
 · refine cL (k+1) ?_ ?_
   · refine ⟨by omega,?_⟩
     rw [Ic _ sE,hk2]
     simpa using hc2
   omega
 · refine ⟨?_,rfl,rfl⟩
   have:=Yi (p:=fun x=>!decide (x=v)) (l:=t.held) (k:=k) sE hk2 (by simpa using hc2)
   simp only [Bool.not_not] at this
   simp [holder,this]
 refine ⟨?_,rfl,rfl⟩
 have hk:k=t.held.length:=sE
 subst hk
 rw [bC] at hk2
 have:=Ry hk2
 simp only [Bool.not_not] at this
 simp [holder,this]
theorem am (G:Imm) (t:Tab) (bt bk bf:Nat) (a:Option Addr) (c:Nat) (junk:List Value) (i:Sl.Instr) (ho:OwnA a c t.held junk) (hl:t.held.length≤128) (hm:sP i t.held.length=true) :
 Does Tryz.prog 151 [.pointer (some ⟨bt,0,none⟩),.agg (Cells.enc i).toArray] G (Vw t bt bk bf a c junk) (fun r G' Ho=>r=OneVal.val (keyOf t.held i)∧G'=G∧Ho=Vw t bt bk bf a c junk):=by
 rw [tB] at hm
 obtain ⟨⟨hop1,hop2,hto1,hto2,ha1,ha2⟩,hb⟩:=hm
 have hb:i.op=3∨i.op=4→0≤i.b∧i.b<t.held.length:=fun h=>by rw [aF h] at hb;omega
 have two:=Yj i
 refine D0 Tryz.func151 Tryz.ntmps151 fun w=>?_
 refine aJ 2 [] ?_
 refine dQ 4 fun b1=>?_
 refine aN 5 rfl T.zero230 fun b2=>?_
 refine aZ 3 [] ?_
 refine cX [3,2,1,0,4,5] [] T.mixed [[0],[1,4],[2],[3],[4],[5,0],[6],[7,4]] ?_
 refine fH (α:=Int) 8 T.sl24 ?_
 refine dN 9 [1,0] rfl (fG 1 0 T.one3 rfl rfl sF sE rfl rfl) ?_
 refine dE [[10],[11,4]] ?_
 refine dN 12 [] rfl (bO (cs:=[_,_,_,_]) T.st230 rfl rfl rfl) ?_
 refine bV 13 ?_
 refine aN 6 rfl T.zero230 fun b3=>?_
 refine cG 14 ?_
 refine aB 1 [6] ?_
 refine eZ ?_
 refine nE 5 [4] ?_
 refine bX 7 rfl (HF _ _) fun v1 G1 Ho1 hle1 hp=>?_
 obtain ⟨ad1,cd1,junk1,rfl,hoa1,rfl,rfl⟩:=hp
 refine aZ 4 [] ?_
 refine cT (fun hc1=>?_) fun hc1=>?_
 refine cX [3,2,1,0,4,5,6,8] [(6,9)] T.mixed [[0],[1],[2],[3,0],[4],[5,4]] ?_
 refine fH (α:=Int) 6 T.sl24 ?_
 refine dN 7 [1,0] rfl (fG 1 0 T.one3 rfl rfl sF sE rfl rfl) ?_
 refine dE [[8]] ?_
 refine bV 9 ?_
 refine aB 1 [6] ?_
 refine eZ ?_
 refine nE 8 [4] ?_
 apply bW 6 35 41 rfl
 intro hg1
 refine aB 11 [6,6] ?_
 exact dA 6 0
 intro hg1
 refine aB 6 [] ?_
 exact dA 6 0
 refine aZ 2 [] ?_
 refine cT (fun hc2=>?_) fun hc2=>?_
 refine bE 18 [6,6,6,6,6,5] ?_
 refine cK (.inr rfl) (Ho:=Hp.only _ [0,1,2,3]) rfl (.agg 5 rfl rfl T.agg230) (aT _ _) ?_
 rotate_left
 refine bE 9 [6,5] ?_
 refine cK (.inr rfl) (Ho:=Hp.only _ [0,1,2,3]) rfl (.agg 5 rfl rfl T.agg230) (aT _ _) ?_
 rotate_left
 refine aJ 9 [4] ?_
 refine oM 35 ?_
 refine aR 18 [0,6,5] ?_
 refine cK (.inr rfl) (Ho:=Hp.only _ [0,1,2,3]) rfl (.agg 5 rfl rfl T.agg230) (aT _ _) ?_
 rotate_left
 · refine ⟨?_,rfl,rfl⟩
   have h:keyOf t.held i=⟨i.op,t.held[i.b.toNat]?.getD default,t.held[i.a.toNat]?.getD default,i.c⟩:=by
    unfold keyOf;rw [aF (by omega)];exact aF hc2
   rw [h];rfl
 · refine ⟨?_,rfl,rfl⟩
   have h:keyOf t.held i=⟨i.op,t.held[i.a.toNat]?.getD default,t.held[i.b.toNat]?.getD default,i.c⟩:=by
    unfold keyOf;rw [aF (by omega)];exact aD hc2
   rw [h];rfl
 refine ⟨?_,rfl,rfl⟩
 have h:keyOf t.held i=⟨i.op,t.held[i.a.toNat]?.getD default,-1,i.c⟩:=by
  unfold keyOf;rw [aD (by omega)]
 rw [h];rfl
theorem XJ (G:Imm) (a:Option Addr) (c:Nat) (xs:List Int) (hx:Arr G a xs) (hl:xs.length≤1099511627776) :
 Does Tryz.prog 53 [.slice a xs.length c] G [] (fun v G' Ho=>∃ b d j,v=.slice b xs.length d∧OwnA b d xs j∧Ho=[(0,b.map (·.block),Row 3 xs j)]∧G'=G):=by
 refine D0 Tryz.func53 Tryz.ntmps53 fun w=>?_
 refine aJ 9 [] ?_
 refine aO (jI T.sl24 rfl rfl) ?_
 refine aZ 2 [] ?_
 refine cT (fun hc1=>?_) fun hc1=>?_
 refine bE 7 [] ?_
 rotate_left
 refine aJ 4 [] ?_
 refine rA 0 rfl T.sl24 fun b1=>?_
 refine aB 1 [] ?_
 rotate_left
 · subst hc1
   have hn:xs=[]:=by
    rcases hx.2 with h | ⟨b,o,h,_⟩
    · exact dT h
    cases h
   subst hn
   refine Ju 0 (Row 3 ([]:List Int) []) ?_
   refine mB [0] ?_
   exact ⟨none,0,[],rfl,eD,rfl,rfl⟩
 refine nU 0 (Row 3 ([]:List Int) []) rfl rfl ?_
 refine gM (α:=Int) 0 rfl T.sl24 T.el3 rfl rfl rfl (fM tR) (lC sF) (by simp only [cH];omega) (by simp only [cH,maxLen];omega) fun a1 c1 junk1 ho1=>?_
 refine aR 4 [] ?_
 refine mB [0] ?_
 exact ⟨_,_,_,rfl,ho1,rfl,rfl⟩
theorem im (G:Imm) (xs ys:List Int) (a b:Option Addr) (c d:Nat) (hx:Arr G a xs) (hy:Arr G b ys) (h1:xs.length≤1099511627776) (h2:ys.length≤1099511627776) :
 Does Tryz.prog 86 [.slice a xs.length c,.slice b ys.length d] G [] (fun v G' Ho=>v=.bool (decide (xs=ys))∧G'=G∧Ho=[]):=by
 refine D0 Tryz.func86 Tryz.ntmps86 fun w=>?_
 refine bJ 15 [] ?_
 refine cT (fun hc1=>?_) fun hc1=>?_
 refine bE 7 [] ?_
 refine cP ?_
 rotate_left
 refine bJ 11 [] ?_
 rotate_left
 · have:xs≠ys:=by rintro rfl;exact hc1 rfl
   exact ⟨by simp [this],rfl,rfl⟩
 have hl:xs.length=ys.length:=sE
 clear hc1
 refine gY (ι:=Nat) (fun k=>([(13,.int .i64 (k:Int)),(12,.int .i64 (xs.length:Int)),(0,.slice a (List.length xs) c),(1,.slice b (List.length ys) d)],[])) (fun k=>k≤xs.length∧xs.take k=ys.take k) (fun k=>xs.length - k) (0) (⟨aM _,rfl⟩) fun k=>fun hk=>?_
 obtain ⟨hk1,hk2⟩:=hk
 refine bJ 6 [] ?_
 refine cT (fun hc1=>?_) fun hc1=>?_
 refine bJ 11 [] ?_
 refine cX [] [] T.mixed [[0],[1]] ?_
 refine mQ (α:=Int) 2 T.sl24 ?_
 refine qU 3 [] 0 T.one3 ?_
 refine dE [[4],[5]] ?_
 refine mQ (α:=Int) 6 T.sl24 ?_
 refine qU 7 [] 0 T.one3 ?_
 refine dE [[8]] ?_
 refine cZ ?_
 refine cO ?_
 refine cT (fun hc2=>?_) fun hc2=>?_
 refine bE 11 [] ?_
 refine cP ?_
 rotate_left
 refine bE 7 [] ?_
 rotate_left
 refine bE 11 [] ?_
 refine cP ?_
 rotate_left
 · have:xs≠ys:=by rintro rfl;exact hc2 rfl
   exact ⟨by simp [this],rfl,rfl⟩
 · refine cL (k+1) ?_ ?_
   · exact ⟨by omega,Ie sE sE hk2 (eP.1 hc2)⟩
   omega
 have hk:k=xs.length:=sE
 subst hk
 rw [bC,hl,bC] at hk2
 exact ⟨by simp [hk2],rfl,rfl⟩
theorem c85 (G:Imm) (xs ys:List Sl.Instr) (a b:Option Addr) (c d:Nat) (hx:Arr G a xs) (hy:Arr G b ys) (h1:xs.length≤1099511627776) (h2:ys.length≤1099511627776) :
 Does Tryz.prog 85 [.slice a xs.length c,.slice b ys.length d] G [] (fun v G' Ho=>v=.bool (decide (xs=ys))∧G'=G∧Ho=[]):=by
 refine D0 Tryz.func85 Tryz.ntmps85 fun w=>?_
 refine bJ 15 [] ?_
 refine cT (fun hc1=>?_) fun hc1=>?_
 refine bE 7 [] ?_
 refine cP ?_
 rotate_left
 refine bJ 11 [] ?_
 rotate_left
 · have:xs≠ys:=by rintro rfl;exact hc1 rfl
   exact ⟨by simp [this],rfl,rfl⟩
 have hl:xs.length=ys.length:=sE
 clear hc1
 refine gY (ι:=Nat) (fun k=>([(13,.int .i64 (k:Int)),(12,.int .i64 (xs.length:Int)),(0,.slice a (List.length xs) c),(1,.slice b (List.length ys) d)],[])) (fun k=>k≤xs.length∧xs.take k=ys.take k) (fun k=>xs.length - k) (0) (⟨aM _,rfl⟩) fun k=>fun hk=>?_
 obtain ⟨hk1,hk2⟩:=hk
 refine bJ 6 [] ?_
 refine cT (fun hc1=>?_) fun hc1=>?_
 refine bJ 11 [] ?_
 refine cX [] [] T.mixed [[0],[1]] ?_
 refine mQ (α:=Instr) 2 T.sl23 ?_
 refine Gm.le 3 T.agg91 ?_
 refine dE [[4],[5]] ?_
 refine mQ (α:=Instr) 6 T.sl23 ?_
 refine Gm.le 7 T.agg91 ?_
 refine dN 8 [] rfl (Lp T.ai91 rfl rfl) ?_
 refine cZ ?_
 refine cO ?_
 refine cT (fun hc2=>?_) fun hc2=>?_
 refine bE 11 [] ?_
 refine cP ?_
 rotate_left
 refine bE 7 [] ?_
 rotate_left
 refine bE 11 [] ?_
 refine cP ?_
 rotate_left
 · have:xs≠ys:=by rintro rfl;exact hc2 rfl
   exact ⟨by simp [this],rfl,rfl⟩
 · refine cL (k+1) ?_ ?_
   · exact ⟨by omega,Ie sE sE hk2 (eP.1 hc2)⟩
   omega
 have hk:k=xs.length:=sE
 subst hk
 rw [bC,hl,bC] at hk2
 exact ⟨by simp [hk2],rfl,rfl⟩
theorem c42 (G:Imm) (p q:PV) (ac ao bc bo:Option Addr) (cc co dc do_:Nat) (hc:Arr G ac p.code) (ho:Arr G ao p.outs) (hc':Arr G bc q.code) (ho':Arr G bo q.outs) (h1:p.code.length≤1099511627776) (h2:p.outs.length≤1099511627776)
 (h3:q.code.length≤1099511627776) (h4:q.outs.length≤1099511627776) :
 Does Tryz.prog 42 [.agg #[.int .i64 p.ins,.int .i64 p.regs,.slice ac p.code.length cc,.slice ao p.outs.length co],.agg #[.int .i64 q.ins,.int .i64 q.regs,.slice bc q.code.length dc,.slice bo q.outs.length do_]] G []
  (fun v G' Ho=>v=.bool (decide (p=q))∧G'=G∧Ho=[]):=by
 refine D0 Tryz.func42 Tryz.ntmps42 fun w=>?_
 refine aJ 2 [] ?_
 refine dQ 0 fun b1=>?_
 refine dQ 1 fun b2=>?_
 refine aL 11 [0,1] ?_
 apply bW 6 10 16 rfl
 intro hg1
 refine aB 11 [0,1] ?_
 exact dA 6 0
 intro hg1
 refine aB 6 [] ?_
 exact dA 6 0
 refine aB 1 [] ?_
 apply bW 6 17 23 rfl
 intro hg1
 refine aB 9 [0,1] ?_
 refine cI rfl (c85 _ _ _ _ _ _ _ sF sF sE sE) ?_
 refine aB 1 [] ?_
 exact dA 6 0
 intro hg1
 refine aB 6 [] ?_
 exact dA 6 0
 refine aB 1 [] ?_
 apply bW 6 24 30 rfl
 intro hg1
 refine aB 9 [0,1] ?_
 refine cI rfl (im _ _ _ _ _ _ _ sF sF sE sE) ?_
 refine aB 1 [] ?_
 exact dA 6 0
 intro hg1
 refine aB 6 [] ?_
 exact dA 6 0
 refine aR 4 [] ?_
 refine cP ?_
 refine ⟨?_,rfl,rfl⟩
 cases p;cases q
 simp [and_assoc]
end Go.Proofs.YtfdcckcadfhpeaaGreatDoor
namespace Go.Proofs.YtfdcckcadfhpeaaGreatDoor.T
open Go Go.Sl
end Go.Proofs.YtfdcckcadfhpeaaGreatDoor.T
namespace Go.Proofs.YtfdcckcadfhpeaaGreatDoor
open Go Go.Sl
theorem io (G:Imm) (hT:TabOk G) (c:Int) (hb:-512≤c∧c≤512):Does Tryz.prog 148 [.int .i64 c] G [] (fun v G' Ho=>v=.tuple #[.int .i64 (vR c),.bool (decide (vR c≠0))]∧G'=G∧Ho=[]):=by
 refine D0 Tryz.func148 Tryz.ntmps148 fun w=>?_
 refine aJ 12 [] ?_
 apply dP 6 6 12 rfl
 intro hg1
 refine aB 7 [] ?_
 refine aO (lD rfl rfl) ?_
 refine aB 3 [] ?_
 exact dA 6 0
 intro hg1
 refine aB 6 [] ?_
 exact dA 6 0
 refine aZ 2 [] ?_
 refine cT (fun hc1=>?_) fun hc1=>?_
 refine bE 8 [] ?_
 refine gR ?_
 rotate_left
 refine aJ 5 [] ?_
 refine aO (fN rfl T.u199 rfl) ?_
 rotate_left
 · have hp:vR c=0:=by
    rcases hc1 with h | h
    · exact Jx h
    rcases pZ c 2 with h2 | h2
    · exact Jx h2
    exact eE fun hn=>h ((Es ⟨h2,hb.2⟩).2 hn)
   rw [hp];exact ⟨rfl,rfl,rfl⟩
 simp only [not_or,ne_eq,eP] at hc1
 have hp:vR c≠0:=(Es ⟨by omega,hb.2⟩).1 hc1.2
 have hw:IntKind.u64.wrap c=c:=by rcases Bu hp with rfl | rfl | rfl | rfl | rfl | rfl | rfl | rfl | rfl <;> rfl
 refine gK 14 rfl (show _=Value.int .u64 c by rw [hw]) ?_
 refine cI rfl (YQ _ sF _ sF) ?_
 refine aR 5 [] ?_
 refine gR ?_
 exact ⟨by simp [hp],rfl,rfl⟩
theorem AF (G:Imm) (op to a c:Int):Does Tryz.prog 149 [.int .i64 op,.int .i64 to,.int .i64 a,.int .i64 c] G [] (fun v G' Ho=>v=.agg (Cells.enc (⟨op,to,a,0,c⟩:Sl.Instr)).toArray∧G'=G∧Ho=[]):=by
 refine D0 Tryz.func149 Tryz.ntmps149 fun w=>?_
 refine aJ 2 [] ?_
 refine aN 0 rfl T.zero91 fun b1=>?_
 refine aL 8 [] ?_
 refine aO (bO (cs:=[_,_,_,_,_]) T.st91 rfl rfl rfl) ?_
 refine aR 4 [0] ?_
 refine cK (.inr rfl) (Ho:=Hp.only _ []) rfl (.agg 0 rfl rfl T.agg91) (aT _ _) ?_
 exact ⟨rfl,rfl,rfl⟩
theorem an (G:Imm) (c:Int):Does Tryz.prog 198 [.int .i64 c] G [] (fun v G' Ho=>v=.bool (decide (-512≤c∧c≤512))∧G'=G∧Ho=[]):=by
 refine D0 Tryz.func198 Tryz.ntmps198 fun w=>?_
 refine aJ 10 [] ?_
 apply bW 3 5 8 rfl
 intro hg1
 refine aB 5 [] ?_
 exact dA 3 0
 intro hg1
 refine aB 3 [] ?_
 exact dA 3 0
 refine aR 4 [] ?_
 refine cP ?_
 exact ⟨rfl,rfl,rfl⟩
def tM (i:Sl.Instr):Sl.Instr:=
 if i.op=3 then (if i.a=i.b then ⟨7,i.to,i.a,0,1⟩ else i)
 else if i.op=5∨i.op=6 then
  (if i.c=1 then ⟨1,i.to,i.a,0,0⟩ else if i.c=-1 then ⟨2,i.to,i.a,0,0⟩ else if vR i.c≠0 then (if i.op=5 then ⟨7,i.to,i.a,0,vR i.c⟩ else ⟨8,i.to,i.a,0,vR i.c⟩) else i)
 else i
theorem c95 (G:Imm) (hT:TabOk G) (i:Sl.Instr) (hb:-512≤i.c∧i.c≤512):Does Tryz.prog 95 [.agg (Cells.enc i).toArray] G [] (fun v G' Ho=>v=.agg (Cells.enc (tM i)).toArray∧G'=G∧Ho=[]):=by
 refine D0 Tryz.func95 Tryz.ntmps95 fun w=>?_
 refine aJ 2 [] ?_
 refine dQ 0 fun b1=>?_
 refine aN 1 rfl T.zero91 fun b2=>?_
 refine aL 6 [0] ?_
 refine cI rfl (io _ sF _ sE) ?_
 refine aZ 21 [0] ?_
 refine cT (fun hc1=>?_) fun hc1=>?_
 refine bJ 9 [0,0] ?_
 refine cT (fun hc2=>?_) fun hc2=>?_
 refine aJ 6 [0,0] ?_
 refine cI rfl (AF _ _ _ _ _) ?_
 refine aR 6 [1] ?_
 refine cK (.inr rfl) (Ho:=Hp.only _ []) rfl (.agg 1 rfl rfl T.agg91) (aT _ _) ?_
 rotate_left
 refine bE 10 [0,1] ?_
 refine cK (.inr rfl) (Ho:=Hp.only _ []) rfl (.agg 1 rfl rfl T.agg91) (aT _ _) ?_
 rotate_left
 refine bJ 7 [] ?_
 refine cT (fun hc2=>?_) fun hc2=>?_
 refine bJ 12 [1,0] ?_
 refine cT (fun hc3=>?_) fun hc3=>?_
 refine aJ 6 [0,0] ?_
 refine cI rfl (AF _ _ _ _ _) ?_
 refine aR 7 [1] ?_
 refine cK (.inr rfl) (Ho:=Hp.only _ []) rfl (.agg 1 rfl rfl T.agg91) (aT _ _) ?_
 rotate_left
 refine bJ 8 [0] ?_
 refine cT (fun hc4=>?_) fun hc4=>?_
 refine aJ 6 [0,0] ?_
 refine cI rfl (AF _ _ _ _ _) ?_
 refine aR 7 [1] ?_
 refine cK (.inr rfl) (Ho:=Hp.only _ []) rfl (.agg 1 rfl rfl T.agg91) (aT _ _) ?_
 rotate_left
 refine aJ 4 [] ?_
 apply bW 4 48 52 rfl
 intro hg1
 refine aB 7 [0] ?_
 exact dA 4 0
 intro hg1
 refine aB 4 [] ?_
 exact dA 4 0
 refine aZ 3 [] ?_
 refine cT (fun hc5=>?_) fun hc5=>?_
 refine aJ 7 [0,0] ?_
 refine cI rfl (AF _ _ _ _ _) ?_
 refine aR 7 [1] ?_
 refine cK (.inr rfl) (Ho:=Hp.only _ []) rfl (.agg 1 rfl rfl T.agg91) (aT _ _) ?_
 rotate_left
 refine bE 18 [0,0,1] ?_
 refine cK (.inr rfl) (Ho:=Hp.only _ []) rfl (.agg 1 rfl rfl T.agg91) (aT _ _) ?_
 rotate_left
 refine bJ 5 [] ?_
 refine cT (fun hc3=>?_) fun hc3=>?_
 refine bJ 9 [0] ?_
 refine cT (fun hc4=>?_) fun hc4=>?_
 refine aJ 6 [0,0] ?_
 refine cI rfl (AF _ _ _ _ _) ?_
 refine aR 7 [1] ?_
 refine cK (.inr rfl) (Ho:=Hp.only _ []) rfl (.agg 1 rfl rfl T.agg91) (aT _ _) ?_
 rotate_left
 refine bJ 8 [0] ?_
 refine cT (fun hc5=>?_) fun hc5=>?_
 refine aJ 6 [0,0] ?_
 refine cI rfl (AF _ _ _ _ _) ?_
 refine aR 7 [1] ?_
 refine cK (.inr rfl) (Ho:=Hp.only _ []) rfl (.agg 1 rfl rfl T.agg91) (aT _ _) ?_
 rotate_left
 refine aJ 4 [] ?_
 apply bW 4 48 52 rfl
 intro hg1
 refine aB 7 [0] ?_
 exact dA 4 0
 intro hg1
 refine aB 4 [] ?_
 exact dA 4 0
 refine aZ 10 [0] ?_
 refine cT (fun hc6=>?_) fun hc6=>?_
 refine aJ 7 [0,0] ?_
 refine cI rfl (AF _ _ _ _ _) ?_
 refine aR 7 [1] ?_
 refine cK (.inr rfl) (Ho:=Hp.only _ []) rfl (.agg 1 rfl rfl T.agg91) (aT _ _) ?_
 rotate_left
 refine bE 11 [0,1] ?_
 refine cK (.inr rfl) (Ho:=Hp.only _ []) rfl (.agg 1 rfl rfl T.agg91) (aT _ _) ?_
 rotate_left
 refine bE 10 [0,1] ?_
 refine cK (.inr rfl) (Ho:=Hp.only _ []) rfl (.agg 1 rfl rfl T.agg91) (aT _ _) ?_
 rotate_left
 all_goals refine ⟨?_,rfl,rfl⟩
 all_goals simp_all [tM]
def aq (c:Int):Prop:=-512≤c∧c≤512
instance (c:Int):Decidable (aq c):=inferInstanceAs (Decidable (_∧_))
def uV (f c s d:Int):Int×Int×Bool:=
 if f=1 then (s,d,true)
 else if f=2 then (if s=1 then (2,0,true) else if s=2 then (1,0,true) else if s=5∨s=6 then (s,-d,true) else (0,0,false))
 else if f=5 then (if s=2 then (5,-c,true) else if s=5∧-512≤c*d∧c*d≤512 then (5,c*d,true) else if s=6∧c.tmod d=0 then (5,c.tdiv d,true) else if s=6∧d.tmod c=0 then (6,d.tdiv c,true) else (0,0,false))
 else if f=6 then (if s=2 then (6,-c,true) else if s=6∧-512≤c*d∧c*d≤512 then (6,c*d,true) else (0,0,false))
 else if f=7 then (if s=7∧c+d≤64 then (7,c+d,true) else if s≠8 then (0,0,false) else if c=d then (1,0,true) else if d<c then (7,c - d,true) else (8,d - c,true))
 else if f=8 then (if s=8∧c+d≤64 then (8,c+d,true) else (0,0,false))
 else (0,0,false)
theorem yU {op c:Int} (h:sT op c=true):-512≤c∧c≤512:=by
 unfold sT at h
 repeat' split at h
 all_goals simp only [aS] at h
 all_goals omega
theorem xS {op c:Int} (h:sT op c=true) (ho:op=5∨op=6):c≠0:=by
 unfold sT at h
 rw [aF ho,aS] at h
 exact h.1
theorem IP {c d:Int} (hc:-512≤c∧c≤512) (hd:-512≤d∧d≤512):-9223372036854775808≤c*d∧c*d≤9223372036854775807:=by
 have h1:c.natAbs≤512:=sE
 have h2:d.natAbs≤512:=sE
 have h3:(c*d).natAbs≤512*512:=by rw [eX];exact fQ h1 h2
 omega
theorem Ey {c d:Int} (hc:-512≤c∧c≤512):-512≤c.tdiv d∧c.tdiv d≤512:=by
 have h3:(c.tdiv d).natAbs≤c.natAbs:=by rw [mK];exact Nat.div_le_self _ _
 omega
theorem ir (G:Imm) (f c s d:Int) (hc:sT f c=true) (hd:sT s d=true):Does Tryz.prog 150 [.int .i64 f,.int .i64 c,.int .i64 s,.int .i64 d] G [] (fun v G' Ho=>v=.tuple #[.int .i64 (uV f c s d).1,.int .i64 (uV f c s d).2.1,.bool (uV f c s d).2.2]∧G'=G∧Ho=[]):=by
 have hc2:=yU hc
 have hd2:=yU hd
 have hm:=IP hc2 hd2
 have hq1:=Ey (d:=d) hc2
 have hq2:=Ey (d:=c) hd2
 have hcz:=xS hc
 have hdz:=xS hd
 refine D0 Tryz.func150 Tryz.ntmps150 fun w=>?_
 refine bJ 20 [] ?_
 refine cT (fun hc1=>?_) fun hc1=>?_
 refine bE 12 [] ?_
 refine kM ?_
 rotate_left
 refine bJ 6 [] ?_
 refine cT (fun hc3=>?_) fun hc3=>?_
 refine bJ 12 [] ?_
 refine cT (fun hc4=>?_) fun hc4=>?_
 refine bE 11 [] ?_
 refine kM ?_
 rotate_left
 refine bJ 6 [] ?_
 refine cT (fun hc5=>?_) fun hc5=>?_
 refine bE 11 [] ?_
 refine kM ?_
 rotate_left
 refine bJ 7 [] ?_
 refine cT (fun hc6=>?_) fun hc6=>?_
 refine aJ 7 [1] ?_
 refine aO (qO rfl sE) ?_
 refine aR 9 [] ?_
 refine kM ?_
 rotate_left
 refine bJ 5 [] ?_
 refine cT (fun hc7=>?_) fun hc7=>?_
 refine aJ 4 [] ?_
 refine aO (qO rfl sE) ?_
 refine aR 9 [] ?_
 refine kM ?_
 rotate_left
 refine bE 12 [] ?_
 refine kM ?_
 rotate_left
 refine bJ 6 [] ?_
 refine cT (fun hc4=>?_) fun hc4=>?_
 refine bJ 8 [] ?_
 refine cT (fun hc5=>?_) fun hc5=>?_
 refine aJ 3 [] ?_
 refine aO (qO rfl sE) ?_
 refine aR 9 [] ?_
 refine kM ?_
 rotate_left
 refine aJ 5 [] ?_
 apply bW 5 39 44 rfl
 intro hg1
 refine aB 5 [] ?_
 refine aO (lM rfl rfl sE) ?_
 refine aB 1 [] ?_
 refine cI rfl (an _ _) ?_
 refine aB 1 [] ?_
 exact dA 5 0
 intro hg1
 refine aB 5 [] ?_
 exact dA 5 0
 refine aZ 3 [] ?_
 refine cT (fun hc6=>?_) fun hc6=>?_
 refine aJ 4 [] ?_
 refine aO (lM rfl rfl sE) ?_
 refine aR 9 [] ?_
 refine kM ?_
 rotate_left
 refine aJ 5 [] ?_
 apply bW 5 51 56 rfl
 intro hg1
 refine aB 5 [] ?_
 refine aO (rU rfl rfl sE) ?_
 refine aB 3 [] ?_
 exact dA 5 0
 intro hg1
 refine aB 5 [] ?_
 exact dA 5 0
 refine aZ 3 [] ?_
 refine cT (fun hc7=>?_) fun hc7=>?_
 refine dF ?_
 refine cX [] [] T.mixed [[0],[1]] ?_
 refine dN 2 [] rfl (nW rfl rfl sE sE) ?_
 refine dE [[3],[4],[5]] ?_
 refine cZ ?_
 refine dX 5 [] ?_
 refine kM ?_
 rotate_left
 refine aJ 5 [] ?_
 apply bW 5 63 68 rfl
 intro hg1
 refine aB 5 [] ?_
 refine aO (rU rfl rfl sE) ?_
 refine aB 3 [] ?_
 exact dA 5 0
 intro hg1
 refine aB 5 [] ?_
 exact dA 5 0
 refine aZ 3 [] ?_
 refine cT (fun hc8=>?_) fun hc8=>?_
 refine dF ?_
 refine cX [] [] T.mixed [[0],[1]] ?_
 refine dN 2 [] rfl (nW rfl rfl sE sE) ?_
 refine dE [[3],[4],[5]] ?_
 refine cZ ?_
 refine dX 5 [] ?_
 refine kM ?_
 rotate_left
 refine bE 12 [] ?_
 refine kM ?_
 rotate_left
 refine bJ 6 [] ?_
 refine cT (fun hc5=>?_) fun hc5=>?_
 refine bJ 8 [] ?_
 refine cT (fun hc6=>?_) fun hc6=>?_
 refine aJ 3 [] ?_
 refine aO (qO rfl sE) ?_
 refine aR 9 [] ?_
 refine kM ?_
 rotate_left
 refine aJ 5 [] ?_
 apply bW 5 82 87 rfl
 intro hg1
 refine aB 5 [] ?_
 refine aO (lM rfl rfl sE) ?_
 refine aB 1 [] ?_
 refine cI rfl (an _ _) ?_
 refine aB 1 [] ?_
 exact dA 5 0
 intro hg1
 refine aB 5 [] ?_
 exact dA 5 0
 refine aZ 3 [] ?_
 refine cT (fun hc7=>?_) fun hc7=>?_
 refine aJ 4 [] ?_
 refine aO (lM rfl rfl sE) ?_
 refine aR 9 [] ?_
 refine kM ?_
 rotate_left
 refine bE 12 [] ?_
 refine kM ?_
 rotate_left
 refine bJ 6 [] ?_
 refine cT (fun hc6=>?_) fun hc6=>?_
 refine aJ 6 [] ?_
 apply bW 5 99 104 rfl
 intro hg1
 refine aB 9 [] ?_
 exact dA 5 0
 intro hg1
 refine aB 5 [] ?_
 exact dA 5 0
 refine aZ 3 [] ?_
 refine cT (fun hc7=>?_) fun hc7=>?_
 refine bE 14 [] ?_
 refine kM ?_
 rotate_left
 refine bJ 7 [] ?_
 refine cT (fun hc8=>?_) fun hc8=>?_
 refine bE 12 [] ?_
 refine kM ?_
 rotate_left
 refine bJ 8 [] ?_
 refine cT (fun hc9=>?_) fun hc9=>?_
 refine bE 11 [] ?_
 refine kM ?_
 rotate_left
 refine bJ 8 [] ?_
 refine cT (fun hc10=>?_) fun hc10=>?_
 refine bE 14 [] ?_
 refine kM ?_
 rotate_left
 refine bE 14 [] ?_
 refine kM ?_
 rotate_left
 refine bJ 6 [] ?_
 refine cT (fun hc7=>?_) fun hc7=>?_
 refine aJ 5 [] ?_
 apply bW 5 126 131 rfl
 intro hg1
 refine aB 9 [] ?_
 exact dA 5 0
 intro hg1
 refine aB 5 [] ?_
 exact dA 5 0
 refine aZ 2 [] ?_
 refine cT (fun hc8=>?_) fun hc8=>?_
 refine bE 13 [] ?_
 refine kM ?_
 rotate_left
 refine bE 11 [] ?_
 refine kM ?_
 rotate_left
 refine bE 11 [] ?_
 refine kM ?_
 rotate_left
 all_goals refine ⟨?_,rfl,rfl⟩
 all_goals clear hc hd hm hq1 hq2 hcz hdz hc2 hd2
 all_goals simp_all [uV]
 all_goals repeat' split
 all_goals first
  | exact ⟨rfl,rfl,rfl⟩
  | (rename_i h;exfalso;omega)
  | (rename_i h;exfalso;first | exact hc7 h.1 h.2 | exact hc8 h.1 h.2)
theorem Tj (c:Int):0≤vR c∧vR c≤9:=by
 unfold vR
 repeat' split
 all_goals omega
theorem zH {i:Sl.Instr} (h:sT i.op i.c=true):sT (tM i).op (tM i).c=true:=by
 have hp:=Tj i.c
 unfold tM
 repeat' split
 all_goals first | exact h | (simp [sT];try omega)
theorem wV {op c:Int} (h:sT op c=true) (ho:op=7∨op=8):1≤c∧c≤64:=by
 unfold sT at h
 rw [aD (by omega),aF ho,aS] at h
 exact h
theorem OD {c d:Int} (hc:c≠0) (h:c.tmod d=0):c.tdiv d≠0:=by
 intro h0
 have e:=Int.mul_tdiv_add_tmod c d
 rw [h0,h,bL] at e
 omega
theorem Au {op c:Int} (ho:op=5∨op=6) (h0:c≠0) (h:-512≤c∧c≤512):sT op c=true:=by
 unfold sT;rw [aF ho,aS];exact ⟨h0,h⟩
theorem Iy {op c:Int} (ho:op=7∨op=8) (h:1≤c∧c≤64):sT op c=true:=by
 unfold sT;rw [aD (by omega),aF ho,aS];exact h
theorem Fa {f c s d:Int} (hc:sT f c=true) (hd:sT s d=true):sT (uV f c s d).1 (uV f c s d).2.1=true∨(uV f c s d).2.2=false:=by
 have hc2:=yU hc
 have hd2:=yU hd
 have hq1:=Ey (d:=d) hc2
 have hq2:=Ey (d:=c) hd2
 have hcz:=xS hc
 have hdz:=xS hd
 have hcs:=wV hc
 have hds:=wV hd
 unfold uV
 by_cases h1:f=1
 · rw [aF h1];exact .inl hd
 rw [aD h1]
 by_cases h2:f=2
 · rw [aF h2]
   split
   · exact .inl rfl
   split
   · exact .inl rfl
   split
   · rename_i h;exact .inl (Au h (by have:=hdz h;show -d≠0;omega) (by show -512≤-d∧-d≤512;omega))
   exact .inr rfl
 rw [aD h2]
 by_cases h5:f=5
 · have hc0:=hcz (.inl h5)
   rw [aF h5]
   split
   · exact .inl (Au (.inl rfl) (by show -c≠0;omega) (by show -512≤-c∧-c≤512;omega))
   split
   · rename_i h;exact .inl (Au (.inl rfl) (Int.mul_ne_zero hc0 (hdz (.inl h.1))) h.2)
   split
   · rename_i h;exact .inl (Au (.inl rfl) (OD hc0 h.2) hq1)
   split
   · rename_i h;exact .inl (Au (.inr rfl) (OD (hdz (.inr h.1)) h.2) hq2)
   exact .inr rfl
 rw [aD h5]
 by_cases h6:f=6
 · have hc0:=hcz (.inr h6)
   rw [aF h6]
   split
   · exact .inl (Au (.inr rfl) (by show -c≠0;omega) (by show -512≤-c∧-c≤512;omega))
   split
   · rename_i h;exact .inl (Au (.inr rfl) (Int.mul_ne_zero hc0 (hdz (.inr h.1))) h.2)
   exact .inr rfl
 rw [aD h6]
 by_cases h7:f=7
 · have h3:=hcs (.inl h7)
   rw [aF h7]
   split
   · rename_i h;have h4:=hds (.inl h.1);exact .inl (Iy (.inl rfl) (by show 1≤c+d∧c+d≤64;omega))
   split
   · exact .inr rfl
   rename_i h8
   have h4:=hds (.inr sE)
   split
   · exact .inl rfl
   split
   · exact .inl (Iy (.inl rfl) (by show 1≤c - d∧c - d≤64;omega))
   exact .inl (Iy (.inr rfl) (by show 1≤d - c∧d - c≤64;omega))
 rw [aD h7]
 by_cases h8:f=8
 · have h3:=hcs (.inr h8)
   rw [aF h8]
   split
   · rename_i h;have h4:=hds (.inr h.1);exact .inl (Iy (.inr rfl) (by show 1≤c+d∧c+d≤64;omega))
   exact .inr rfl
 rw [aD h8];exact .inr rfl
section
attribute [local irreducible] tM uV vR sT
def uB (a b:Sl.Instr):Sl.Instr×Bool:=
 if b.op=3∨b.op=4∨b.a≠a.to∨b.to≠a.to then (⟨0,0,0,0,0⟩,false)
 else if (uV a.op a.c b.op b.c).2.2=true then (tM ⟨(uV a.op a.c b.op b.c).1,b.to,a.a,0,(uV a.op a.c b.op b.c).2.1⟩,true) else (⟨0,0,0,0,0⟩,false)
theorem c96 (G:Imm) (hT:TabOk G) (a b:Sl.Instr) (ha:sT a.op a.c=true) (hb:sT b.op b.c=true) :
 Does Tryz.prog 96 [.agg (Cells.enc a).toArray,.agg (Cells.enc b).toArray] G [] (fun v G' Ho=>v=.tuple #[.agg (Cells.enc (uB a b).1).toArray,.bool (uB a b).2]∧G'=G∧Ho=[]):=by
 have ht:=Fa ha hb
 refine D0 Tryz.func96 Tryz.ntmps96 fun w=>?_
 refine aJ 2 [] ?_
 refine dQ 0 fun b1=>?_
 refine dQ 1 fun b2=>?_
 refine aN 2 rfl T.zero91 fun b3=>?_
 refine aL 10 [1] ?_
 apply dP 4 12 16 rfl
 intro hg1
 refine aB 7 [1] ?_
 exact dA 4 0
 intro hg1
 refine aB 4 [] ?_
 exact dA 4 0
 refine aB 1 [] ?_
 apply dP 6 17 23 rfl
 intro hg1
 refine aB 11 [1,0] ?_
 exact dA 6 0
 intro hg1
 refine aB 6 [] ?_
 exact dA 6 0
 refine aB 1 [] ?_
 apply dP 6 24 30 rfl
 intro hg1
 refine aB 11 [1,0] ?_
 exact dA 6 0
 intro hg1
 refine aB 6 [] ?_
 exact dA 6 0
 refine aZ 2 [] ?_
 refine cT (fun hc1=>?_) fun hc1=>?_
 refine aJ 2 [] ?_
 refine aO (bO (cs:=[_,_,_,_,_]) T.st91 rfl rfl rfl) ?_
 refine aR 6 [2] ?_
 refine fS (.inr rfl) (Ho:=Hp.only _ []) rfl (.agg 2 rfl rfl T.agg91) (.tmp rfl) (aT _ _) ?_
 rotate_left
 refine aJ 12 [0,0,1,1] ?_
 refine cI rfl (ir _ _ _ _ _ sF sF) ?_
 refine aZ 16 [] ?_
 refine kZ rfl (fun hc2=>?_) fun hc2=>?_
 refine aJ 2 [] ?_
 refine aO (bO (cs:=[_,_,_,_,_]) T.st91 rfl rfl rfl) ?_
 refine aR 6 [2] ?_
 refine fS (.inr rfl) (Ho:=Hp.only _ []) rfl (.agg 2 rfl rfl T.agg91) (.tmp rfl) (aT _ _) ?_
 rotate_left
 refine aJ 10 [1,0] ?_
 refine cI rfl (AF _ _ _ _ _) ?_
 rotate_left
 · refine ⟨?_,rfl,rfl⟩
   rw [uB,aF (by omega)];rfl
 · refine ⟨?_,rfl,rfl⟩
   rw [uB,aD (by omega),aD (by simpa using hc2)];rfl
 have hok:(uV a.op a.c b.op b.c).2.2=true:=by simpa using hc2
 have hcf:sT (uV a.op a.c b.op b.c).1 (uV a.op a.c b.op b.c).2.1=true:=by
  rcases ht with h | h
  · exact h
  rw [h] at hok;cases hok
 refine cI rfl (c95 _ hT ⟨(uV a.op a.c b.op b.c).1,b.to,a.a,0,(uV a.op a.c b.op b.c).2.1⟩ (yU hcf)) ?_
 refine aR 5 [2] ?_
 refine fS (.inr rfl) (Ho:=Hp.only _ []) rfl (.agg 2 rfl rfl T.agg91) (.tmp rfl) (aT _ _) ?_
 refine ⟨?_,rfl,rfl⟩
 rw [uB,aD (by omega),aF hok]
theorem Av {i:Sl.Instr} {r:Int} (h:sP i r=true):sT i.op i.c=true:=by
 unfold sP at h
 rw [aU,aU] at h
 exact h.1.2
end
section
attribute [local irreducible] uV sT
def tw (m:Nat):Int:=((2 ^ m:Nat):Int)
theorem XK {c:Int} (h:vR c≠0):∃ m:Nat,1≤m∧m≤9∧c=tw m∧vR c=m:=by
 rcases Bu h with rfl | rfl | rfl | rfl | rfl | rfl | rfl | rfl | rfl
 · exact ⟨1,by decide⟩
 · exact ⟨2,by decide⟩
 · exact ⟨3,by decide⟩
 · exact ⟨4,by decide⟩
 · exact ⟨5,by decide⟩
 · exact ⟨6,by decide⟩
 · exact ⟨7,by decide⟩
 · exact ⟨8,by decide⟩
 exact ⟨9,by decide⟩
attribute [local irreducible] vR
attribute [local irreducible] tM
end
def Fz (i:Sl.Instr):Bool:=decide (i.op=1∧i.to=i.a)
def xD:List Sl.Instr→Sl.Instr→List Sl.Instr
 | [],b=>if Fz b=true then [] else [b]
 | a :: s,b=>if Fz b=true then a :: s else if (uB a b).2=true then xD s (uB a b).1 else b :: a :: s
def Bk (L:List Sl.Instr) (b:Sl.Instr):List Sl.Instr:=(xD L.reverse b).reverse
def Pr (l:List Sl.Instr):List Sl.Instr:=l.foldl (fun s i=>xD s (tM i)) []
def yK (p:PV) (k:Nat):List Sl.Instr:=(Pr (p.code.take k)).reverse
def zI (p:PV):PV:=⟨p.ins,p.regs,(Pr p.code).reverse,p.outs⟩
theorem Ps {L:List Sl.Instr} {b:Sl.Instr} (h:Fz b=true):Bk L b=L:=by
 unfold Bk
 cases hL:L.reverse with
 | nil=>rw [xD,aF h,←hL,qQ]
 | cons a s=>rw [xD,aF h,←hL,qQ]
theorem IQ {b:Sl.Instr} (h:¬Fz b=true):Bk [] b=[b]:=by
 unfold Bk;rw [List.reverse_nil,xD,aD h];rfl
theorem Pt {M:List Sl.Instr} {a b:Sl.Instr} (h:¬Fz b=true) (hm:(uB a b).2=true):Bk (M++[a]) b=Bk M (uB a b).1:=by
 unfold Bk;rw [List.reverse_append,List.reverse_singleton,List.singleton_append,xD,aD h,aF hm]
theorem Pu {M:List Sl.Instr} {a b:Sl.Instr} (h:¬Fz b=true) (hm:¬(uB a b).2=true):Bk (M++[a]) b=M++[a]++[b]:=by
 unfold Bk;rw [List.reverse_append,List.reverse_singleton,List.singleton_append,xD,aD h,aD hm]
 simp
theorem AG {p:PV} {k:Nat} (h:k<p.code.length):yK p (k+1)=Bk (yK p k) (tM (p.code[((k:Nat):Int).toNat]?.getD default)):=by
 unfold yK Bk Pr
 rw [qQ,cB,aE,aA h,List.foldl_append]
 rfl
theorem Pv (p:PV):yK p p.code.length=(zI p).code:=by unfold yK zI;rw [bC]
theorem AH (p:PV):yK p 0=[]:=rfl
theorem AI:∀ (s:List Sl.Instr) (b:Sl.Instr),(xD s b).length≤s.length+1
 | [],b=>by unfold xD;split <;> simp
 | a :: s,b=>by
   unfold xD
   split
   · simp
   split
   · have:=AI s (uB a b).1;simp only [aW];omega
   simp
theorem Vx (l:List Sl.Instr) (s:List Sl.Instr):(l.foldl (fun s i=>xD s (tM i)) s).length≤s.length+l.length:=by
 induction l generalizing s with
 | nil=>simp
 | cons x l ih=>have h1:=ih (xD s (tM x));have h2:=AI s (tM x);simp only [List.foldl_cons,aW];omega
theorem Pw (p:PV) (k:Nat):(yK p k).length≤k:=by
 have:=Vx (p.code.take k) []
 unfold yK Pr
 simp only [List.length_reverse,cH,bG] at *
 omega
theorem AJ (p:PV):(zI p).code.length≤p.code.length:=by rw [←Pv];exact Pw p _
theorem Px {q:Sl.Instr→Prop} (hm:∀ a b,q a→q b→(uB a b).2=true→q (uB a b).1):∀ (s:List Sl.Instr) (b:Sl.Instr),(∀ i∈s,q i)→q b→∀ i∈xD s b,q i
 | [],b,_,hb=>by
   unfold xD;split
   · simp
   · simpa using hb
 | a :: s,b,hs,hb=>by
   unfold xD
   split
   · exact hs
   split
   · rename_i h
     exact Px hm s _ (fun i hi=>hs i (aY _ hi)) (hm a b (hs a bF) hb h)
   intro i hi
   rcases iG.1 hi with rfl | hi
   · exact hb
   exact hs i hi
theorem Py {q:Sl.Instr→Prop} (hm:∀ a b,q a→q b→(uB a b).2=true→q (uB a b).1) (hp:∀ i,q i→q (tM i)) (l:List Sl.Instr) (h:∀ i∈l,q i):∀ i∈Pr l,q i:=by
 have aux:∀ (l s:List Sl.Instr),(∀ i∈l,q i)→(∀ i∈s,q i)→∀ i∈l.foldl (fun s i=>xD s (tM i)) s,q i:=by
  intro l
  induction l with
  | nil=>intro s _ hs;exact hs
  | cons x l ih =>
    intro s hl hs
    exact ih _ (fun i hi=>hl i (aY _ hi)) (Px hm s _ hs (hp x (hl x bF)))
 exact aux l [] h (fun i hi=>by simp at hi)
def FG (i:Sl.Instr):Prop:=sT i.op i.c=true
theorem Iz {a b:Sl.Instr} (ha:FG a) (hb:FG b) (h:(uB a b).2=true):FG (uB a b).1:=by
 have ht:=Fa (f:=a.op) (c:=a.c) (s:=b.op) (d:=b.c) ha hb
 unfold uB at h ⊢
 split at h
 · cases h
 rename_i hn
 rw [aD hn]
 split at h
 · rename_i hy
   rw [aF hy]
   rcases ht with ht | ht
   · exact zH (i:=⟨_,b.to,a.a,0,_⟩) ht
   rw [hy] at ht;cases ht
 cases h
theorem DA {p:PV} (h:∀ i∈p.code,FG i) (k:Nat):∀ i∈yK p k,FG i:=fun i hi=>by
 unfold yK at hi
 exact Py (q:=FG) (fun a b ha hb h=>Iz ha hb h) (fun i hi=>zH hi) _ (fun i hi=>h i (nQ hi)) i (rY.1 hi)
section
attribute [local irreducible] tM uB Bk yK
theorem Ej {p:PV} (hR:sH p=true):∀ i∈p.code,sP i p.regs=true:=by
 have h:(uD p).2=false:=by simpa [sH] using hR
 unfold uD at h
 split at h
 · cases h
 split at h
 · cases h
 rename_i hb
 unfold Bw at hb
 rw [gI] at hb
 intro i hi
 simpa using hb i hi
theorem IR {p:PV} (hR:sH p=true):∀ i∈p.code,FG i:=fun i hi=>Av (Ej hR i hi)
theorem OE {l:List Sl.Instr} {k:Nat} (h:k<l.length):l[((k:Nat):Int).toNat]?.getD default∈l:=by
 rw [aE,aA h];exact bI h
theorem AK (M:List Sl.Instr) (t:Sl.Instr) (m:List Value):Row 91 (M++[t]) m=Row 91 M (Cells.enc t++m):=by
 unfold Row;rw [vD];simp [sY]
theorem FH {a:Option Addr} {c:Nat} {M:List Sl.Instr} {t:Sl.Instr} {m:List Value} (h:OwnA a c (M++[t]) m):OwnA a c M (Cells.enc t++m):=by
 rcases h with ⟨_,h,_⟩ | ⟨b,h1,h2,h3,h4⟩
 · simp at h
 refine .inr ⟨b,h1,?_,?_,h4⟩
 · rw [aC,iU,iS] at h2
   rw [aC,Cells.len];omega
 simp at h3;omega
theorem subA_zero {α:Type} [Cells α] {a:Option Addr} {c e sz:Nat} {xs:List α} {j:List Value} (h:OwnA a e xs j):subA a c 0 sz=a:=by
 unfold subA
 split
 · rfl
 rcases h with ⟨h1,_⟩ | ⟨b,h1,_⟩
 · rw [h1];rfl
 rw [h1];simp [Addr.add]
theorem iu (G:Imm) (hT:TabOk G) (p:PV) (ac ao:Option Addr) (cc co:Nat) (hc:Arr G ac p.code) (ho:Arr G ao p.outs) (h1:p.code.length≤1048576) (h2:p.outs.length≤1048576) (hR:sH p=true) :
 Does Tryz.prog 47 [.agg #[.int .i64 p.ins,.int .i64 p.regs,.slice ac p.code.length cc,.slice ao p.outs.length co]] G [] (fun v G' Ho =>
  ∃ bc bo dc do_ j1 j2,v=.tuple #[.agg #[.int .i64 p.ins,.int .i64 p.regs,.slice bc (zI p).code.length dc,.slice bo p.outs.length do_],.int .i64 0]∧
   OwnA bc dc (zI p).code j1∧OwnA bo do_ p.outs j2∧Ho=[(0,bc.map (·.block),Row 91 (zI p).code j1),(1,bo.map (·.block),Row 3 p.outs j2)]∧G'=G):=by
 have hcheck:(uD p).2=false:=by simpa [sH] using hR
 have hok:=IR hR
 refine D0 Tryz.func47 Tryz.ntmps47 fun w=>?_
 refine dZ 0 (Row 91 ([]:List Sl.Instr) []) ?_
 refine aJ 2 [] ?_
 refine dQ 1 fun b1=>?_
 refine aN 2 rfl T.zero26 fun b2=>?_
 refine aZ 3 [] ?_
 refine mH ?_
 refine aJ 3 [1] ?_
 refine cI rfl (YA _ _ _ _ _ _ sF sF sE sE) ?_
 refine aZ 14 [] ?_
 refine cT (fun hc1=>?_) fun hc1=>?_
 refine aJ 2 [] ?_
 refine aO (bO (cs:=[_,_,_,_]) T.st26 rfl rfl rfl) ?_
 refine aR 7 [2] ?_
 refine iR ?_
 rotate_left
 refine bJ 20 [1] ?_
 rotate_left
 · rw [hcheck] at hc1;exact absurd rfl hc1
 refine gL (ι:=Nat×List Sl.Instr×(Option Addr×Nat×List Value)) (fun (k,xs,(b,d,j))=>([(24,.int .i64 (k:Int)),(6,.slice b xs.length d),(23,.int .i64 (↑p.code.length:Int)),(22,.slice ac p.code.length cc),(3,.int .i64 0),(2,.pointer (some ⟨b2,0,none⟩)),(1,.pointer (some ⟨b1,0,none⟩))],[(0,b.map (·.block),Row 91 xs j),(2,some b2,.cells #[.int .i64 0,.int .i64 0,.slice none 0 0,.slice none 0 0] 26),(1,some b1,.cells #[.int .i64 p.ins,.int .i64 p.regs,.slice ac p.code.length cc,.slice ao p.outs.length co] 26)])) (fun (k,xs,(b,d,j))=>k≤p.code.length∧xs=yK p k∧OwnA b d xs j) (fun (k,xs,(b,d,j))=>p.code.length - k) ((0,[],(none,0,[]))) (⟨aM _,by rw [AH],eD⟩) ⟨rfl,rfl,rfl,rfl,rfl,rfl,rfl,trivial⟩ ⟨rfl,rfl,rfl,trivial⟩ fun ⟨k,xs,(b,d,j)⟩=>fun hk=>?_
 obtain ⟨hk1,hxs,hob⟩:=hk
 have hxl:xs.length≤k:=by rw [hxs];exact Pw p k
 rcases aK k p.code.length with hlt | hge
 · clear hc1
   have hst:=AG (p:=p) hlt
   have hx0:=hok _ (OE hlt)
   have hx1:=yU hx0
   have hx2:=zH hx0
   have hxo:=DA hok k
   rw [←hxs] at hxo hst
   refine aJ 13 [1] ?_
   refine fP (α:=Instr) T.sl23 ?_
   refine lB T.agg91 ?_
   refine aN 3 rfl T.zero91 fun b3=>?_
   refine aZ 3 [3] ?_
   refine mH ?_
   refine aJ 3 [3] ?_
   refine cI rfl (c95 _ sF _ sF) ?_
   refine aN 4 rfl T.zero91 fun b4=>?_
   refine aZ 8 [4] ?_
   refine gL (ι:=List Sl.Instr×Sl.Instr×(Option Addr×Nat×List Value)) (fun (M,bi,(a,e,m))=>([(6,.slice a M.length e),(22,.slice ac p.code.length cc),(23,.int .i64 (p.code.length:Int)),(9,.pointer (some (Addr.mk b4 0 none))),(24,.int .i64 (↑k:Int)),(3,.int .i64 0),(2,.pointer (some ⟨b2,0,none⟩)),(1,.pointer (some ⟨b1,0,none⟩))],[(0,a.map (·.block),Row 91 M m),(4,some b4,.cells (Cells.enc bi).toArray 91),(3,some b3,.cells (List.toArray (Cells.enc (Option.getD p.code[Int.toNat (↑k:Int)]? default))) 91),(2,some b2,.cells #[.int .i64 0,.int .i64 0,.slice none 0 0,.slice none 0 0] 26),(1,some b1,.cells #[.int .i64 p.ins,.int .i64 p.regs,.slice ac p.code.length cc,.slice ao p.outs.length co] 26)])) (fun (M,bi,(a,e,m))=>yK p (k+1)=Bk M bi∧OwnA a e M m∧(∀ i∈M,FG i)∧FG bi∧M.length≤k) (fun (M,bi,(a,e,m))=>M.length) ((xs,_,(b,d,j))) (⟨hst,hob,hxo,hx2,hxl⟩) ⟨rfl,rfl,rfl,rfl,rfl,rfl,rfl,rfl,trivial⟩ ⟨rfl,rfl,rfl,rfl,rfl,trivial⟩ fun ⟨M,bi,(a,e,m)⟩=>fun hk=>?_
   obtain ⟨hpu,hoM,hMo,hbo,hMk⟩:=hk
   have hbo':sT bi.op bi.c=true:=hbo
   rcases List.eq_nil_or_concat M with rfl | ⟨M',t,rfl⟩
   · have hl0:(([]:List Sl.Instr).length:Int)=0:=rfl
     refine aJ 8 [4] ?_
     apply bW 6 33 39 rfl
     intro hg1
     refine aB 11 [4,4] ?_
     exact dA 6 0
     intro hg1
     refine aB 6 [] ?_
     exact dA 6 0
     refine aZ 2 [] ?_
     refine cT (fun hc1=>?_) fun hc1=>?_
     refine bE 6 [] ?_
     refine Ru ?_
     refine dX 6 [] ?_
     rotate_left
     refine aJ 20 [1,4] ?_
     refine dY (α:=Instr) 5 [(bi)] rfl T.sl23 T.el91 rfl rfl rfl rfl rfl fun b5=>?_
     refine jS (α:=Instr) 0 T.sl23 T.el91 (fE 5 rfl) fun a1 c1 junk1 ho1=>?_
     refine aR 2 [] ?_
     refine sD ?_
     refine dX 6 [] ?_
     rotate_left
     · refine cL ((k+1,[],(a,e,m))) ?_ ?_
       · exact ⟨by omega,by rw [hpu,Ps (cA hc1)],hoM⟩
       show p.code.length - (k+1)<p.code.length - k
       omega
     refine cL ((k+1,_,(a1,c1,junk1))) ?_ ?_
     · exact ⟨by omega,by rw [hpu,IQ (fun h=>hc1 (gP h))];rfl,ho1⟩
     show p.code.length - (k+1)<p.code.length - k
     omega
   rw [List.concat_eq_append] at *
   have hlen:(M'++[t]).length=M'.length+1:=tR
   have hto:FG t:=hMo t tR
   have hget:(M'++[t])[(((M'++[t]).length:Int) - 1).toNat]?.getD default=t:=by
    have e:(((M'++[t]).length:Int) - 1).toNat=M'.length:=sE
    rw [e];simp
   have hto':sT ((M'++[t])[(((M'++[t]).length:Int) - 1).toNat]?.getD default).op ((M'++[t])[(((M'++[t]).length:Int) - 1).toNat]?.getD default).c=true:=by rw [hget];exact hto
   have hcap:=hoM.le
   have hcut:(((M'++[t]).length:Int) - 1).toNat=M'.length:=sE
   have hM'o:∀ i∈M',FG i:=fun i hi=>hMo i (by simp [hi])
   refine aJ 8 [4] ?_
   apply bW 6 33 39 rfl
   intro hg1
   refine aB 11 [4,4] ?_
   exact dA 6 0
   intro hg1
   refine aB 6 [] ?_
   exact dA 6 0
   refine aZ 2 [] ?_
   refine cT (fun hc1=>?_) fun hc1=>?_
   refine bE 6 [] ?_
   refine Ru ?_
   refine dX 6 [] ?_
   rotate_left
   refine bJ 14 [0] ?_
   refine cX [1,2,3,4,0] [(0,12),(4,12),(3,12),(2,12),(1,12)] T.mixed [[0],[1],[2],[3]] ?_
   refine fH (α:=Instr) 4 T.sl23 ?_
   refine dN 5 [0] rfl (pK 0 T.agg91 rfl rfl sF sE) ?_
   refine dE [[6,4]] ?_
   refine nD 7 11 ?_ ?_
   refine cI rfl (c96 _ sF _ _ sF sF) ?_
   refine bD ?_
   refine dE [[8],[9],[10]] ?_
   refine bV 11 ?_
   refine aN 5 rfl T.zero91 fun b5=>?_
   refine cG 12 ?_
   refine aB 1 [5] ?_
   refine bD ?_
   refine dE [[13]] ?_
   refine cZ ?_
   refine mD 8 [] ?_
   refine kZ rfl (fun hc2=>?_) fun hc2=>?_
   refine aJ 9 [4] ?_
   refine dY (α:=Instr) 6 [(bi)] rfl T.sl23 T.el91 rfl rfl rfl rfl rfl fun b6=>?_
   refine jS (α:=Instr) 0 T.sl23 T.el91 (fE 6 rfl) fun a1 c1 junk1 ho1=>?_
   refine aR 2 [] ?_
   refine sD ?_
   refine dX 6 [] ?_
   rotate_left
   refine aJ 8 [] ?_
   refine aO (pU T.sl23 rfl rfl sE) ?_
   refine aR 8 [5,4] ?_
   rotate_left
   refine aN 5 rfl T.zero91 fun b5=>?_
   refine cG 7 ?_
   refine cI rfl (c96 _ sF _ _ sF sF) ?_
   refine bD ?_
   refine dE [[8],[9],[10]] ?_
   refine bV 12 ?_
   refine aB 1 [5] ?_
   refine bD ?_
   refine dE [[13]] ?_
   refine cZ ?_
   refine mD 8 [] ?_
   refine kZ rfl (fun hc2=>?_) fun hc2=>?_
   refine aJ 9 [4] ?_
   refine dY (α:=Instr) 6 [(bi)] rfl T.sl23 T.el91 rfl rfl rfl rfl rfl fun b6=>?_
   refine jS (α:=Instr) 0 T.sl23 T.el91 (fE 6 rfl) fun a1 c1 junk1 ho1=>?_
   refine aR 2 [] ?_
   refine sD ?_
   refine dX 6 [] ?_
   rotate_left
   refine aJ 8 [] ?_
   refine aO (pU T.sl23 rfl rfl sE) ?_
   refine aR 8 [5,4] ?_
   rotate_left
   · refine cL ((k+1,M'++[t],(a,e,m))) ?_ ?_
     · exact ⟨by omega,by rw [hpu,Ps (cA hc1)],hoM⟩
     show p.code.length - (k+1)<p.code.length - k
     omega
   · rw [hget] at hc2
     refine cL ((k+1,_,(a1,c1,junk1))) ?_ ?_
     · exact ⟨by omega,by rw [hpu,Pu (fun h=>hc1 (gP h)) (by simpa using hc2)],ho1⟩
     show p.code.length - (k+1)<p.code.length - k
     omega
   · rw [hget] at hc2 ⊢
     have hmt:(uB t bi).2=true:=by simpa using hc2
     refine fY 0 (Row 91 M' (Cells.enc t++m)) rfl (AK M' t m) ?_
     refine cN 6 rfl (show _=Value.slice a M'.length e by rw [hcut,subA_zero hoM]) ?_
     refine cL ((M',(uB t bi).1,(a,e,Cells.enc t++m))) ?_ ?_
     · exact ⟨by rw [hpu,Pt (fun h=>hc1 (gP h)) hmt],FH hoM,hM'o,Iz hto hbo hmt,by omega⟩
     show M'.length<(M'++[t]).length
     omega
   · rw [hget] at hc2
     refine cL ((k+1,_,(a1,c1,junk1))) ?_ ?_
     · exact ⟨by omega,by rw [hpu,Pu (fun h=>hc1 (gP h)) (by simpa using hc2)],ho1⟩
     show p.code.length - (k+1)<p.code.length - k
     omega
   rw [hget] at hc2 ⊢
   have hmt:(uB t bi).2=true:=by simpa using hc2
   refine fY 0 (Row 91 M' (Cells.enc t++m)) rfl (AK M' t m) ?_
   refine cN 6 rfl (show _=Value.slice a M'.length e by rw [hcut,subA_zero hoM]) ?_
   refine cL ((M',(uB t bi).1,(a,e,Cells.enc t++m))) ?_ ?_
   · exact ⟨by rw [hpu,Pt (fun h=>hc1 (gP h)) hmt],FH hoM,hM'o,Iz hto hbo hmt,by omega⟩
   show M'.length<(M'++[t]).length
   omega
 have hk:k=p.code.length:=sE
 subst hk
 rw [Pv] at hxs
 subst hxs
 refine bJ 13 [0] ?_
 refine cX [1,2,0] [(2,9)] T.mixed [[0],[1,1],[2],[3,1],[4],[5],[6,1]] ?_
 refine bV 7 ?_
 refine bX 3 rfl (XJ _ _ _ _ sF sE) fun v1 G1 Ho1 hle1 hp=>?_
 obtain ⟨lb1,ld1,lj1,rfl,hlb1,rfl,rfl⟩:=hp
 refine bD ?_
 refine dN 8 [] rfl (bO (cs:=[_,_,_,_]) T.st26 rfl rfl rfl) ?_
 refine bV 9 ?_
 refine aB 1 [2] ?_
 refine bD ?_
 refine dE [[10]] ?_
 refine cZ ?_
 refine dX 2 [] ?_
 refine iR ?_
 refine lY [0,3,2] sN (fS (.inr rfl) (Ho:=Hp.only _ [0,1]) rfl (.agg 2 rfl rfl T.agg26) (.tmp rfl) (aT _ _) ?_)
 exact ⟨_,_,_,_,_,_,rfl,hob,hlb1,rfl,rfl⟩
end
theorem Tk {i:Sl.Instr} {r:Int} (h:sP i r=true):sP (tM i) r=true:=by
 have hc:=zH (i:=i) (Av h)
 rw [tB] at h
 obtain ⟨⟨h1,h2,h3,h4,h5,h6⟩,h7⟩:=h
 have hp:=Tj i.c
 by_cases e3:i.op=3
 · have e:tM i=if i.a=i.b then ⟨7,i.to,i.a,0,1⟩ else i:=by rw [tM,aF e3]
   rw [e]
   split
   · rw [tB];simp;omega
   rw [tB];exact ⟨⟨h1,h2,h3,h4,h5,h6⟩,h7⟩
 by_cases h5':i.op=5∨i.op=6
 · have e:tM i=(if i.c=1 then ⟨1,i.to,i.a,0,0⟩ else if i.c=-1 then ⟨2,i.to,i.a,0,0⟩ else if vR i.c≠0 then (if i.op=5 then ⟨7,i.to,i.a,0,vR i.c⟩ else ⟨8,i.to,i.a,0,vR i.c⟩) else i):=by rw [tM,aD e3,aF h5']
   rw [e]
   split
   · rw [tB];simp;omega
   split
   · rw [tB];simp;omega
   split
   · split
     · rw [tB];simp;omega
     rw [tB];simp;omega
   rw [tB];exact ⟨⟨h1,h2,h3,h4,h5,h6⟩,h7⟩
 have e:tM i=i:=by rw [tM,aD e3,aD h5']
 rw [e,tB];exact ⟨⟨h1,h2,h3,h4,h5,h6⟩,h7⟩
theorem IS {f c s d:Int} (hs:1≤s∧s≤8∧¬(s=3∨s=4)) (ho:(uV f c s d).2.2=true):1≤(uV f c s d).1∧(uV f c s d).1≤8∧¬((uV f c s d).1=3∨(uV f c s d).1=4):=by
 unfold uV at ho ⊢
 repeat' split
 all_goals first
  | exact hs
  | (simp only [];omega)
  | simp_all
theorem OF {a b:Sl.Instr} {r:Int} (ha:sP a r=true) (hb:sP b r=true) (h:(uB a b).2=true):sP (uB a b).1 r=true:=by
 have ht:=Fa (f:=a.op) (c:=a.c) (s:=b.op) (d:=b.c) (Av ha) (Av hb)
 rw [tB] at ha hb
 obtain ⟨⟨a1,a2,a3,a4,a5,a6⟩,a7⟩:=ha
 obtain ⟨⟨b1,b2,b3,b4,b5,b6⟩,b7⟩:=hb
 unfold uB at h ⊢
 split at h
 · cases h
 rename_i hn
 rw [aD hn]
 split at h
 · rename_i hy
   rw [aF hy]
   refine Tk ?_
   rcases ht with ht | ht
   · have hop:1≤(uV a.op a.c b.op b.c).1∧(uV a.op a.c b.op b.c).1≤8∧¬((uV a.op a.c b.op b.c).1=3∨(uV a.op a.c b.op b.c).1=4):=IS sE hy
     rw [tB]
     refine ⟨⟨hop.1,hop.2.1,b3,b4,a5,a6⟩,?_⟩
     rw [aD hop.2.2]
     refine ⟨rfl,?_⟩
     unfold sT at ht
     repeat' split at ht
     all_goals simp_all
   rw [hy] at ht;cases ht
 cases h
theorem IT {p:PV} (hh:wP p=true) (hm:∀ i∈p.code,sP i p.regs=true):sH p=true:=by
 have hb:Bw p=none:=by
  unfold Bw
  rw [gI]
  intro i hi
  simp [hm i hi]
 unfold sH uD
 rw [hh,hb];rfl
theorem DB {p:PV} (hR:sH p=true):wP p=true:=by
 have h:(uD p).2=false:=by simpa [sH] using hR
 unfold uD at h
 split at h
 · cases h
 rename_i hn;simpa using hn
theorem Pz {p:PV} (hR:sH p=true):sH (zI p)=true:=by
 have hh:=DB hR
 have hl:=AJ p
 refine IT ?_ ?_
 · unfold wP at hh ⊢
   rw [aU,aS] at hh ⊢
   obtain ⟨⟨h1,h2,h3,h4,h5,h6⟩,h7⟩:=hh
   exact ⟨⟨h1,h2,h3,by omega,h5,h6⟩,h7⟩
 intro i hi
 exact Py (q:=fun i=>sP i p.regs=true) (fun a b ha hb h=>OF ha hb h) (fun i h=>Tk h) p.code (Ej hR) i (rY.1 hi)
section
attribute [local irreducible] tM uB Bk yK zI sH
end
theorem c98 (G:Imm) (t:Tab) (bt bk bf:Nat) (a:Option Addr) (c:Nat) (junk:List Value) (n:Int) (i:Sl.Instr) (ho:OwnA a c t.held junk) (hl:t.held.length≤128) (hm:sP i t.held.length=true)
 (hkf:∀ k,mget t.known k=none→mget t.first k=none) (hn:0≤t.next∧t.next≤1000000) :
 Does Tryz.prog 98 [.pointer (some ⟨bt,0,none⟩),.int .i64 n,.agg (Cells.enc i).toArray] G (Vw t bt bk bf a c junk)
  (fun r G' Ho=>r=.tuple #[.int .i64 (reckonP t n i).1.1,.int .i64 (reckonP t n i).1.2]∧G'=G∧Ho=Vw (reckonP t n i).2 bt bk bf a c junk):=by
 have hm':=hm
 rw [tB] at hm'
 obtain ⟨⟨hop1,hop2,hto1,hto2,ha1,ha2⟩,-⟩:=hm'
 refine D0 Tryz.func98 Tryz.ntmps98 fun w=>?_
 rcases hk0:mget t.known (keyOf t.held i) with _ | v
 · have hf0:=hkf _ hk0
   refine aJ 2 [] ?_
   refine dQ 4 fun b1=>?_
   refine aZ 12 [4] ?_
   refine cT (fun hc1=>?_) fun hc1=>?_
   refine dF ?_
   refine cX [3,2,1,0,4] [] T.mixed [[0],[1],[2],[3,0],[4],[5,4]] ?_
   refine fH (α:=Int) 6 T.sl24 ?_
   refine dN 7 [1,0] rfl (fG 1 0 T.one3 rfl rfl sF sE rfl rfl) ?_
   refine dE [[8],[9]] ?_
   refine cZ ?_
   refine dX 3 [] ?_
   refine pD [0,1,2,3] ?_
   rotate_left
   refine aJ 6 [4] ?_
   refine eH 0 rfl T.fn151 rfl (am _ _ _ _ _ _ _ _ _ sF sE sF) (sJ ⟨rfl,rfl,rfl,rfl,trivial⟩) ?_
   refine aN 5 rfl T.zero230 fun b2=>?_
   refine aZ 5 [5] ?_
   refine cX [3,2,1,0,4,5] [] T.mixed [[0],[1],[2],[3,0],[4,5]] ?_
   refine dN 5 [2] rfl (Nm 2 T.mp166 rfl rfl rfl) ?_
   refine dE [[6],[7],[8],[9],[10]] ?_
   refine cZ ?_
   refine mD 7 [] ?_
   refine kZ rfl (fun hc2=>?_) fun hc2=>?_
   refine dF ?_
   refine cX [3,2,1,0,4,5] [(2,20),(3,20),(2,18),(3,18),(2,17),(3,17),(2,15),(3,15)] T.mixed [[0],[1],[2],[3,0],[4,5],[5],[6],[7],[8,0],[9,5],[10],[11],[12],[13,0],[14]] ?_
   refine bV 15 ?_
   refine Wl.mapEntry 2 rfl T.mp166 rfl rfl rfl sF ?_
   refine bD ?_
   refine dE [[16]] ?_
   refine bV 17 ?_
   refine rE 2 rfl rfl rfl rfl ?_
   refine cG 18 ?_
   refine Wl.mapEntry 3 rfl T.mp166 rfl rfl rfl sF ?_
   refine bD ?_
   refine dE [[19]] ?_
   refine bV 20 ?_
   refine rE 3 rfl rfl rfl rfl ?_
   refine eZ ?_
   refine mD 13 [0,0] ?_
   refine cX [1,4,5,2,3,0] [] T.mixed [[0],[1],[2],[3,0],[4,5]] ?_
   refine dN 5 [2] rfl (kA 2 T.mp166 rfl rfl rfl) ?_
   refine dE [[6],[7],[8],[9,0],[10,5]] ?_
   refine dN 11 [3] rfl (kA 3 T.mp166 rfl rfl rfl) ?_
   refine dE [[12],[13]] ?_
   refine cZ ?_
   refine dX 2 [] ?_
   refine pD [0,1,2,3] ?_
   rotate_left
   refine bJ 3 [] ?_
   refine cX [3,2,1,0,4,5] [] T.mixed [[0],[1],[2],[3,0],[4,5]] ?_
   refine dN 5 [2] rfl (kA 2 T.mp166 rfl rfl rfl) ?_
   refine dE [[6],[7],[8],[9,0],[10,5]] ?_
   refine dN 11 [3] rfl (kA 3 T.mp166 rfl rfl rfl) ?_
   refine dE [[12],[13]] ?_
   refine cZ ?_
   refine dX 2 [] ?_
   refine pD [0,1,2,3] ?_
   rotate_left
   · have h:reckonP t n i=((t.held[i.a.toNat]?.getD default,-1),t):=by unfold reckonP;rw [aF hc1]
     rw [h];exact ⟨rfl,rfl,rfl⟩
   · have h:reckonP t n i=((t.next,n),{ t with known:=t.known++[(keyOf t.held i,t.next)],first:=t.first++[(keyOf t.held i,n)],next:=t.next+1 }):=by unfold reckonP;rw [aD hc1,hk0]
     rw [h,Sa hk0,Sa hf0];exact ⟨rfl,rfl,rfl⟩
   rw [hk0] at hc2;cases hc2
 refine aJ 2 [] ?_
 refine dQ 4 fun b1=>?_
 refine aZ 12 [4] ?_
 refine cT (fun hc1=>?_) fun hc1=>?_
 refine dF ?_
 refine cX [3,2,1,0,4] [] T.mixed [[0],[1],[2],[3,0],[4],[5,4]] ?_
 refine fH (α:=Int) 6 T.sl24 ?_
 refine dN 7 [1,0] rfl (fG 1 0 T.one3 rfl rfl sF sE rfl rfl) ?_
 refine dE [[8],[9]] ?_
 refine cZ ?_
 refine dX 3 [] ?_
 refine pD [0,1,2,3] ?_
 rotate_left
 refine aJ 6 [4] ?_
 refine eH 0 rfl T.fn151 rfl (am _ _ _ _ _ _ _ _ _ sF sE sF) (sJ ⟨rfl,rfl,rfl,rfl,trivial⟩) ?_
 refine aN 5 rfl T.zero230 fun b2=>?_
 refine aZ 5 [5] ?_
 refine cX [3,2,1,0,4,5] [] T.mixed [[0],[1],[2],[3,0],[4,5]] ?_
 refine dN 5 [2] rfl (Nm 2 T.mp166 rfl rfl rfl) ?_
 refine dE [[6],[7],[8],[9],[10]] ?_
 refine cZ ?_
 refine mD 7 [] ?_
 refine kZ rfl (fun hc2=>?_) fun hc2=>?_
 refine dF ?_
 refine cX [3,2,1,0,4,5] [(2,20),(3,20),(2,18),(3,18),(2,17),(3,17),(2,15),(3,15)] T.mixed [[0],[1],[2],[3,0],[4,5],[5],[6],[7],[8,0],[9,5],[10],[11],[12],[13,0],[14]] ?_
 refine bV 15 ?_
 rotate_left
 refine bJ 3 [] ?_
 refine cX [3,2,1,0,4,5] [] T.mixed [[0],[1],[2],[3,0],[4,5]] ?_
 refine dN 5 [2] rfl (kA 2 T.mp166 rfl rfl rfl) ?_
 refine dE [[6],[7],[8],[9,0],[10,5]] ?_
 refine dN 11 [3] rfl (kA 3 T.mp166 rfl rfl rfl) ?_
 refine dE [[12],[13]] ?_
 refine cZ ?_
 refine dX 2 [] ?_
 refine pD [0,1,2,3] ?_
 rotate_left
 · have h:reckonP t n i=((t.held[i.a.toNat]?.getD default,-1),t):=by unfold reckonP;rw [aF hc1]
   rw [h];exact ⟨rfl,rfl,rfl⟩
 · rw [hk0] at hc2;cases hc2
 have h:reckonP t n i=((v,(mget t.first (keyOf t.held i)).getD 0),t):=by unfold reckonP;rw [aD hc1,hk0]
 rw [h,hk0];exact ⟨rfl,rfl,rfl⟩
theorem c99 (G:Imm) (t:Tab) (bt bk bf:Nat) (a:Option Addr) (c:Nat) (junk:List Value) (i:Sl.Instr) (ho:OwnA a c t.held junk) (hl:t.held.length≤128) (hm:sP i t.held.length=true) :
 Does Tryz.prog 99 [.pointer (some ⟨bt,0,none⟩),.agg (Cells.enc i).toArray] G (Vw t bt bk bf a c junk) (fun r G' Ho=>r=.agg (Cells.enc (askedP t.held i)).toArray∧G'=G∧Ho=Vw t bt bk bf a c junk):=by
 rw [tB] at hm
 obtain ⟨⟨hop1,hop2,hto1,hto2,ha1,ha2⟩,hb⟩:=hm
 have hb:i.op=3∨i.op=4→0≤i.b∧i.b<t.held.length:=fun h=>by rw [aF h] at hb;omega
 have two:=Yj i
 refine D0 Tryz.func99 Tryz.ntmps99 fun w=>?_
 refine aJ 2 [] ?_
 refine dQ 4 fun b1=>?_
 refine aN 5 rfl T.zero91 fun b2=>?_
 refine aL 5 [4] ?_
 refine bX 6 rfl (HF _ _) fun v1 G1 Ho1 hle1 hp=>?_
 obtain ⟨ad1,cd1,junk1,rfl,hoa1,rfl,rfl⟩:=hp
 refine aZ 6 [] ?_
 refine cX [3,2,1,0,4,5,7] [(4,11)] T.mixed [[0],[1],[2],[3],[4,0],[5],[6,4]] ?_
 refine fH (α:=Int) 7 T.sl24 ?_
 refine dN 8 [1,0] rfl (fG 1 0 T.one3 rfl rfl sF sE rfl rfl) ?_
 refine bV 9 ?_
 refine eH 0 rfl T.fn100 rfl (TO _ _ _ _ _ _ _ _ _ sF sE) (sJ ⟨rfl,rfl,rfl,rfl,trivial⟩) ?_
 refine bD ?_
 refine dE [[10]] ?_
 refine bV 11 ?_
 refine aB 1 [4] ?_
 refine eZ ?_
 refine mD 7 [] ?_
 refine cT (fun hc1=>?_) fun hc1=>?_
 refine cX [3,2,1,0,5,7,4] [(4,11)] T.mixed [[0],[1],[2],[3],[4,0],[5],[6,4]] ?_
 refine fH (α:=Int) 7 T.sl24 ?_
 refine dN 8 [1,0] rfl (fG 1 0 T.one3 rfl rfl sF sE rfl rfl) ?_
 refine bV 9 ?_
 refine eH 0 rfl T.fn100 rfl (TO _ _ _ _ _ _ _ _ _ sF sE) (sJ ⟨rfl,rfl,rfl,rfl,trivial⟩) ?_
 refine bD ?_
 refine dE [[10]] ?_
 refine bV 11 ?_
 refine aB 1 [4] ?_
 refine eZ ?_
 refine dX 8 [4,5] ?_
 refine cK (.inr rfl) (Ho:=Hp.only _ [0,1,2,3]) rfl (.agg 5 rfl rfl T.agg91) (aT _ _) ?_
 rotate_left
 refine bE 9 [4,5] ?_
 refine cK (.inr rfl) (Ho:=Hp.only _ [0,1,2,3]) rfl (.agg 5 rfl rfl T.agg91) (aT _ _) ?_
 rotate_left
 · refine ⟨?_,rfl,rfl⟩
   have h:askedP t.held i=⟨i.op,i.to,holder t.held (t.held[i.a.toNat]?.getD default),holder t.held (t.held[i.b.toNat]?.getD default),i.c⟩:=by
    unfold askedP;rw [aF (by omega)]
   rw [h];rfl
 refine ⟨?_,rfl,rfl⟩
 have h:askedP t.held i=⟨i.op,i.to,holder t.held (t.held[i.a.toNat]?.getD default),i.b,i.c⟩:=by
  unfold askedP;rw [aD (by omega)]
 rw [h];rfl
section
variable {t:Tab} {out:List Sl.Instr} {n:Int} {i:Sl.Instr}
end
theorem iv (G:Imm) (p:PV) (ac ao:Option Addr) (cc co:Nat) (hc:Arr G ac p.code) (ho:Arr G ao p.outs) (h1:p.code.length≤1099511627776) (h2:p.outs.length≤1099511627776) (hR:sH p=true) :
 Does Tryz.prog 48 [.agg #[.int .i64 p.ins,.int .i64 p.regs,.slice ac p.code.length cc,.slice ao p.outs.length co]] G [] (fun v G' Ho =>
  ∃ bc bo dc do_ j1 j2,v=.tuple #[.agg #[.int .i64 p.ins,.int .i64 p.regs,.slice bc (xG p).code.length dc,.slice bo (xG p).outs.length do_],.int .i64 0]∧
   OwnA bc dc (xG p).code j1∧OwnA bo do_ (xG p).outs j2∧Ho=[(0,bc.map (·.block),Row 91 (xG p).code j1),(1,bo.map (·.block),Row 3 (xG p).outs j2)]∧G'=G):=by
 obtain ⟨r1,r2,r3,r4,r5,r6,r7,r8⟩:=sK hR
 have hcheck:(uD p).2=false:=by simpa [sH] using hR
 refine D0 Tryz.func48 Tryz.ntmps48 fun w=>?_
 refine dZ 0 (Row 91 ([]:List Sl.Instr) []) (dZ 1 (Row 3 ([]:List Int) []) ?_)
 refine aJ 2 [] ?_
 refine dQ 2 fun b1=>?_
 refine aN 3 rfl T.zero26 fun b2=>?_
 refine aL 7 [2] ?_
 refine cI rfl (YA _ _ _ _ _ _ sF sF sE sE) ?_
 refine aZ 13 [] ?_
 refine cT (fun hc1=>?_) fun hc1=>?_
 refine aJ 2 [] ?_
 refine aO (bO (cs:=[_,_,_,_]) T.st26 rfl rfl rfl) ?_
 refine aR 7 [3] ?_
 rotate_left
 refine aJ 5 [2] ?_
 refine bX 4 rfl (c97 _ _ _ _ _ _ sE) fun v1 G1 Ho1 hle1 hp=>?_
 obtain ⟨bt1,bk1,bf1,ta1,tc1,tj1,rfl,hto1,rfl,rfl⟩:=hp
 refine aL 9 [2,2] ?_
 refine aO (bO (cs:=[_,_,_,_]) T.st26 rfl rfl rfl) ?_
 refine aN 8 rfl T.zero26 fun b3=>?_
 refine aZ 13 [8,2] ?_
 rotate_left
 · rw [hcheck] at hc1;exact absurd rfl hc1
 refine gL (ι:=Nat×Tab×List Sl.Instr×(Option Addr×Nat×List Value)×(Option Addr×Nat×List Value)) (fun (k,t,out,(a,c,junk),(a',c',junk'))=>([(34,.int .i64 (k:Int)),(33,.int .i64 (↑p.code.length:Int)),(32,.slice ac p.code.length cc),(7,.pointer (some (Addr.mk b3 0 none))),(6,.pointer (some (Addr.mk bt1 0 none))),(3,.int .i64 0),(2,.pointer (some ⟨b2,0,none⟩)),(1,.pointer (some ⟨b1,0,none⟩))],[(4,some bt1,.cells #[.slice a t.held.length c,.map (some bk1),.map (some bf1),.int .i64 t.next] 168),(5,a.map (·.block),Row 3 t.held junk),(6,some bk1,mapObj t.known),(7,some bf1,mapObj t.first),(8,some b3,.cells #[.int .i64 p.ins,.int .i64 p.regs,.slice a' out.length c',.slice none 0 0] 26),(0,a'.map (·.block),Row 91 out junk'),(3,some b2,.cells #[.int .i64 0,.int .i64 0,.slice none 0 0,.slice none 0 0] 26),(2,some b1,.cells #[.int .i64 p.ins,.int .i64 p.regs,.slice ac p.code.length cc,.slice ao p.outs.length co] 26),(1,none,Row (α:=Int) 3 ([]) ([]))])) (fun (k,t,out,(a,c,junk),(a',c',junk'))=>k≤p.code.length∧(t,out)=tK p k∧OwnA a c t.held junk∧OwnA a' c' out junk'∧(t.held.length:Int)=p.regs∧out.length≤k∧(∀ x,mget t.known x=none→mget t.first x=none)∧0≤t.next∧t.next≤p.ins+1+k) (fun (k,t,out,(a,c,junk),(a',c',junk'))=>p.code.length - k) ((0,⟨start p,[],[],p.ins+1⟩,[],(ta1,tc1,tj1),(none,0,[]))) (⟨aM _,rfl,hto1,eD,by simp [start];omega,aM _,fun _ _=>rfl,by show 0≤p.ins+1;omega,by show p.ins+1≤p.ins+1+0;omega⟩) ⟨rfl,rfl,rfl,rfl,rfl,rfl,rfl,rfl,trivial⟩ ⟨rfl,rfl,rfl,rfl,rfl,rfl,rfl,rfl,rfl,trivial⟩ fun ⟨k,t,out,(a,c,junk),(a',c',junk')⟩=>fun hk=>?_
 obtain ⟨hk1,hpass,hoa,hoa',hlen,hout,hkf,hn0,hn1⟩:=hk
 rcases aK k p.code.length with hlt | hge
 · have hm:sP (p.code[(k:Int).toNat]?.getD default) t.held.length=true:=by
    rw [hlen];refine r8 _ ?_
    rw [aE,aA hlt];simp
   have hrh:=Bg t k (p.code[(k:Int).toNat]?.getD default)
   have hra:OwnA a c (reckonP t k (p.code[(k:Int).toNat]?.getD default)).2.held junk:=by rw [hrh];exact hoa
   have hrl:(reckonP t k (p.code[(k:Int).toNat]?.getD default)).2.held.length=t.held.length:=by rw [hrh]
   have hrm:sP (p.code[(k:Int).toNat]?.getD default) (reckonP t k (p.code[(k:Int).toNat]?.getD default)).2.held.length=true:=by rw [hrl];exact hm
   have hto:0≤(askedP (reckonP t k (p.code[(k:Int).toNat]?.getD default)).2.held (p.code[(k:Int).toNat]?.getD default)).to∧
    (askedP (reckonP t k (p.code[((k:Nat):Int).toNat]?.getD default)).2.held (p.code[((k:Nat):Int).toNat]?.getD default)).to<(reckonP t k (p.code[((k:Nat):Int).toNat]?.getD default)).2.held.length:=by
    rw [tB] at hm;unfold askedP;rw [hrl];exact ⟨hm.1.2.2.1,hm.1.2.2.2.1⟩
   refine aJ 14 [1] ?_
   refine fP (α:=Instr) T.sl23 ?_
   refine lB T.agg91 ?_
   refine aN 9 rfl T.zero91 fun b4=>?_
   refine aL 9 [9,9] ?_
   refine eK 4 rfl T.fn98 rfl (c98 _ _ _ _ _ _ _ _ _ _ sF sE sF sF sE) (sJ ⟨rfl,rfl,rfl,rfl,trivial⟩) fun v2 G2 Ho2 hle2 hp=>?_
   obtain ⟨rfl,rfl,rfl⟩:=hp
   refine aL 11 [9] ?_
   refine eH 4 rfl T.fn99 rfl (c99 _ _ _ _ _ _ _ _ _ sF sE sF) (sJ ⟨rfl,rfl,rfl,rfl,trivial⟩) ?_
   refine aZ 5 [9] ?_
   refine cX [1,2,3,0,8,7,6,5,4,9] [] T.mixed [[0],[1],[2],[3,4],[4],[5,9]] ?_
   refine fH (α:=Int) 6 T.sl24 ?_
   refine dN 7 [0,5] rfl (fG 5 0 T.one3 rfl rfl sF sE rfl rfl) ?_
   refine dE [[8],[9]] ?_
   refine cZ ?_
   refine cO ?_
   refine cT (fun hc2=>?_) fun hc2=>?_
   refine bE 8 [] ?_
   rotate_left
   refine aJ 7 [] ?_
   refine eH 4 rfl T.fn100 rfl (TO _ _ _ _ _ _ _ _ _ sF sE) (sJ ⟨rfl,rfl,rfl,rfl,trivial⟩) ?_
   refine aZ 9 [] ?_
   refine cT (fun hc3=>?_) fun hc3=>?_
   refine aJ 4 [9] ?_
   refine aO (bO (cs:=[_,_,_,_,_]) T.st91 rfl rfl rfl) ?_
   refine aL 8 [9,8,9] ?_
   refine dY (α:=Instr) 10 [⟨1,Go.Sl.Instr.to (Go.Proofs.YtfdcckcadfhpeaaGreatDoor.askedP (Go.Proofs.YtfdcckcadfhpeaaGreatDoor.Tab.held (Prod.snd (Go.Proofs.YtfdcckcadfhpeaaGreatDoor.reckonP t (↑k:Int) (Option.getD p.code[Int.toNat (↑k:Int)]? Inhabited.default)))) (Option.getD p.code[Int.toNat (↑k:Int)]? Inhabited.default)),Go.Proofs.YtfdcckcadfhpeaaGreatDoor.holder (Go.Proofs.YtfdcckcadfhpeaaGreatDoor.Tab.held (Prod.snd (Go.Proofs.YtfdcckcadfhpeaaGreatDoor.reckonP t (↑k:Int) (Option.getD p.code[Int.toNat (↑k:Int)]? Inhabited.default)))) (Prod.fst (Prod.fst (Go.Proofs.YtfdcckcadfhpeaaGreatDoor.reckonP t (↑k:Int) (Option.getD p.code[Int.toNat (↑k:Int)]? Inhabited.default)))),0,0⟩] rfl T.sl23 T.el91 rfl rfl rfl rfl rfl fun b5=>?_
   refine jS (α:=Instr) 0 T.sl23 T.el91 (fE 10 rfl) fun a1 c1 junk1 ho1=>?_
   refine aZ 4 [8] ?_
   refine cX [1,2,3,7,6,5,4,9,10,0,8] [(8,8),(0,8),(10,8),(9,8),(4,8),(5,8),(3,8),(2,8),(1,8)] T.mixed [[0],[1],[2],[3,4],[4],[5,9],[6]] ?_
   refine fH (α:=Int) 7 T.sl24 ?_
   refine bV 8 ?_
   refine cU (z:=_) 5 T.size3 rfl rfl rfl sF sE rfl fun ho2=>?_
   refine eZ ?_
   refine dX 6 [] ?_
   rotate_left
   refine aJ 7 [8,9] ?_
   refine dY (α:=Instr) 10 [(Go.Proofs.YtfdcckcadfhpeaaGreatDoor.askedP (Go.Proofs.YtfdcckcadfhpeaaGreatDoor.Tab.held (Prod.snd (Go.Proofs.YtfdcckcadfhpeaaGreatDoor.reckonP t (↑k:Int) (Option.getD p.code[Int.toNat (↑k:Int)]? Inhabited.default)))) (Option.getD p.code[Int.toNat (↑k:Int)]? Inhabited.default))] rfl T.sl23 T.el91 rfl rfl rfl rfl rfl fun b5=>?_
   refine jS (α:=Instr) 0 T.sl23 T.el91 (fE 10 rfl) fun a1 c1 junk1 ho1=>?_
   refine aZ 4 [8] ?_
   refine cX [1,2,3,7,6,5,4,9,10,0,8] [(8,8),(0,8),(10,8),(9,8),(4,8),(5,8),(3,8),(2,8),(1,8)] T.mixed [[0],[1],[2],[3,4],[4],[5,9],[6]] ?_
   refine fH (α:=Int) 7 T.sl24 ?_
   refine bV 8 ?_
   refine cU (z:=_) 5 T.size3 rfl rfl rfl sF sE rfl fun ho2=>?_
   refine eZ ?_
   refine dX 6 [] ?_
   rotate_left
   · generalize hI:p.code[((k:Nat):Int).toNat]?.getD default=I at *
     refine cL ((k+1,(reckonP t k I).2,out,(a,c,junk),(a',c',junk'))) ?_ ?_
     · refine ⟨by omega,?_,hra,hoa',by rw [hrl];exact hlen,by omega,Jz hkf,(xW hn0 k I).1,?_⟩
       · show _=sX (tK p k) k (p.code[(k:Int).toNat]?.getD default)
         rw [←hpass,hI,Fs hc2]
       have:=(xW hn0 k I).2
       omega
     show p.code.length - (k+1)<p.code.length - k
     omega
   · generalize hI:p.code[((k:Nat):Int).toNat]?.getD default=I at *
     refine fY 4 (.cells #[.slice a ((reckonP t k I).2.held.set (askedP (reckonP t k I).2.held I).to.toNat (reckonP t k I).1.1).length c,.map (some bk1),.map (some bf1),.int .i64 (reckonP t k I).2.next] 168) rfl Da ?_
     refine cL ((k+1,{ (reckonP t k I).2 with held:=(reckonP t k I).2.held.set (askedP (reckonP t k I).2.held I).to.toNat (reckonP t k I).1.1 },_,(a,c,junk),(a1,c1,junk1))) ?_ ?_
     · refine ⟨by omega,?_,ho2,ho1,?_,?_,Jz hkf,?_,?_⟩
       · show _=sX (tK p k) k (p.code[(k:Int).toNat]?.getD default)
         rw [←hpass,hI,Ft hc2 hc3]
       · show (((reckonP t k I).2.held.set _ _).length:Int)=_
         rw [aG,hrl];exact hlen
       · rw [aC];simp only [aW,cH];omega
       · exact (xW hn0 k I).1
       have:=(xW hn0 k I).2
       show (reckonP t k I).2.next≤_
       omega
     show p.code.length - (k+1)<p.code.length - k
     omega
   generalize hI:p.code[((k:Nat):Int).toNat]?.getD default=I at *
   refine fY 4 (.cells #[.slice a ((reckonP t k I).2.held.set (askedP (reckonP t k I).2.held I).to.toNat (reckonP t k I).1.1).length c,.map (some bk1),.map (some bf1),.int .i64 (reckonP t k I).2.next] 168) rfl Da ?_
   refine cL ((k+1,{ (reckonP t k I).2 with held:=(reckonP t k I).2.held.set (askedP (reckonP t k I).2.held I).to.toNat (reckonP t k I).1.1 },_,(a,c,junk),(a1,c1,junk1))) ?_ ?_
   · refine ⟨by omega,?_,ho2,ho1,?_,?_,Jz hkf,?_,?_⟩
     · show _=sX (tK p k) k (p.code[(k:Int).toNat]?.getD default)
       rw [←hpass,hI,Fu hc2 hc3]
     · show (((reckonP t k I).2.held.set _ _).length:Int)=_
       rw [aG,hrl];exact hlen
     · rw [aC];simp only [aW,cH];omega
     · exact (xW hn0 k I).1
     have:=(xW hn0 k I).2
     show (reckonP t k I).2.next≤_
     omega
   show p.code.length - (k+1)<p.code.length - k
   omega
 have hk:k=p.code.length:=sE
 subst hk
 refine bJ 22 [0,2] ?_
 refine gY (ι:=Nat×List Int×Option Addr×Nat×List Value) (fun (k,os,b,d,j)=>([(86,.int .i64 (k:Int)),(85,.int .i64 (↑p.outs.length:Int)),(84,.slice ao p.outs.length co),(7,.pointer (some (Addr.mk b3 0 none))),(6,.pointer (some (Addr.mk bt1 0 none))),(3,.int .i64 0),(2,.pointer (some ⟨b2,0,none⟩))],[(8,some b3,.cells #[.int .i64 p.ins,.int .i64 p.regs,.slice a' out.length c',.slice b os.length d] 26),(1,b.map (·.block),Row 3 os j),(4,some bt1,.cells #[.slice a (List.length (Tab.held t)) c,Go.Value.map (some bk1),Go.Value.map (some bf1),.int .i64 (Tab.next t)] 168),(5,Option.map (fun x=>Go.Addr.block x) a,Row (α:=Int) 3 (Tab.held t) (junk)),(6,some bk1,Go.Sl.mapObj (κ:=Go.Sl.K4) (Tab.known t)),(7,some bf1,Go.Sl.mapObj (κ:=Go.Sl.K4) (Tab.first t)),(0,Option.map (fun x=>Go.Addr.block x) a',Row (α:=Go.Sl.Instr) 91 (out) (junk')),(3,some b2,.cells #[.int .i64 0,.int .i64 0,.slice none 0 0,.slice none 0 0] 26),(2,some b1,.cells #[.int .i64 p.ins,.int .i64 p.regs,.slice ac p.code.length cc,.slice ao p.outs.length co] 26)])) (fun (k,os,b,d,j)=>k≤p.outs.length∧os=(vL p t.held).take k∧OwnA b d os j) (fun (k,os,b,d,j)=>p.outs.length - k) ((0,[],none,0,[])) (⟨aM _,rfl,eD⟩) fun ⟨k,os,b,d,j⟩=>fun hk=>?_
 obtain ⟨hk2,hos,hob⟩:=hk
 have hosl:os.length≤128:=by rw [hos,bG];omega
 rcases aK k p.outs.length with hlt | hge
 · have hr:0≤p.outs[(k:Int).toNat]?.getD default∧p.outs[(k:Int).toNat]?.getD default<t.held.length:=by
    rw [hlen];refine r7 _ ?_
    rw [aE,aA hlt];simp
   refine aJ 13 [1] ?_
   refine fP (α:=Int) T.sl24 ?_
   refine iY 0 T.one3 ?_
   refine aZ 3 [] ?_
   refine cX [2,3,0,7,6,5,4,1,8] [(8,14),(1,12),(5,12),(0,12)] T.mixed [[0],[1,8],[2],[3],[4],[5],[6,4],[7]] ?_
   refine fH (α:=Int) 8 T.sl24 ?_
   refine bV 9 ?_
   refine mS 5 0 T.one3 ?_
   refine cG 10 ?_
   refine eH 4 rfl T.fn100 rfl (TO _ _ _ _ _ _ _ _ _ sF sE) (sJ ⟨rfl,rfl,rfl,rfl,trivial⟩) ?_
   refine cG 11 ?_
   refine dY (α:=Int) 9 [(Go.Proofs.YtfdcckcadfhpeaaGreatDoor.holder (Go.Proofs.YtfdcckcadfhpeaaGreatDoor.Tab.held t) (Option.getD (Go.Proofs.YtfdcckcadfhpeaaGreatDoor.Tab.held t)[Int.toNat (Option.getD p.outs[Int.toNat (↑k:Int)]? Inhabited.default)]? Inhabited.default))] rfl T.sl24 T.el3 rfl rfl rfl rfl rfl fun b4=>?_
   refine cG 12 ?_
   refine jS (α:=Int) 1 T.sl24 T.el3 (fE 9 rfl) fun a1 c1 junk1 ho1=>?_
   refine bD ?_
   refine dE [[13]] ?_
   refine bV 14 ?_
   refine aB 1 [8] ?_
   refine eZ ?_
   refine dX 6 [] ?_
   refine cL ((k+1,_,a1,c1,junk1)) ?_ ?_
   · refine ⟨by omega,?_,ho1⟩
     have hst:(vL p t.held).take (k+1)=(vL p t.held).take k++[holder t.held (t.held[(p.outs[(k:Int).toNat]?.getD default).toNat]?.getD default)]:=by
      rw [cB]
      simp [vL,hlt]
     rw [hst,hos]
   show p.outs.length - (k+1)<p.outs.length - k
   omega
 refine bE 20 [0,8,3] ?_
 refine fS (.inr rfl) (Ho:=Hp.only _ [0,1]) rfl (.agg 3 rfl rfl T.agg26) (.tmp rfl) (aT _ _) ?_
 have ht:t=(tK p p.code.length).1:=congrArg Prod.fst hpass
 have hou:out=(xG p).code:=congrArg Prod.snd hpass
 have hos':os=(xG p).outs:=by
  rw [hos,dL (by simp [vL];omega),ht];rfl
 rw [hou] at hoa' ⊢
 rw [hos'] at hob ⊢
 exact ⟨a',b,c',d,junk',j,rfl,hoa',hob,rfl,rfl⟩
def Yes:Prop:=True
instance:Decidable Yes:=.isTrue trivial
end Go.Proofs.YtfdcckcadfhpeaaGreatDoor
