/- uN of the proof (part 10): what the rows' text needs of the texts that lead to it. -/
import Derived.Test.YtfdcckcadfhpeaaGreatDoorMRi
set_option linter.unusedVariables false
set_option linter.unusedSimpArgs false
set_option linter.unusedSectionVars false
set_option maxHeartbeats 4000000
set_option maxRecDepth 100000
namespace Go.Proofs.YtfdcckcadfhpeaaGreatDoor
open Go Go.Sl
theorem TW {xs ys:List Int} (h:xs.length=ys.length) (he:∀ i:Nat,i<xs.length→xs[i]?.getD default=ys[i]?.getD default):xs=ys:=by
 refine fB h fun i h1 h2=>?_
 have:=he i h1
 rw [aA h1,aA h2] at this
 exact this
theorem Wo {a:Option Addr} {c:Nat} {xs:List Int} {junk:List Value} (h:OwnA a c xs junk) (n:Nat) (x:Int):OwnA a c (xs.set n x) junk:=by
 rcases h with ⟨h1,h2,h3,h4⟩ | ⟨b,h1,h2,h3,h4⟩
 · exact .inl ⟨h1,by rw [h2];rfl,h3,h4⟩
 exact .inr ⟨b,h1,by rw [aG];exact h2,by rw [aG];exact h3,h4⟩
theorem Qj (p:PV):∀ j,(vQ p j).held=(sO p p.code.length).held
 | 0=>rfl
 | j+1=>Qj p j
theorem Ay (p:PV):∀ j,(vQ p j).a=(sO p p.code.length).a∧(vQ p j).b=(sO p p.code.length).b∧(vQ p j).sets=(sO p p.code.length).sets
 | 0=>⟨rfl,rfl,rfl⟩
 | j+1=>Ay p j
def az (p:PV) (l:Life) (ac ao:Option Addr) (cc co u:Nat) (nb:Option Addr) (nc:Nat) (nj:List Value) (x y z n:Nat) (oo:Option Addr) (od:Nat) (oj:List Value) (o:Option Addr) (d:Nat) (j:List Value):Hp:=
 [(0,some u,.cells #[.int .i64 p.ins,.int .i64 p.regs,.slice ac p.code.length cc,.slice ao p.outs.length co,.slice nb (sL p).length nc,.slice (some ⟨x,0,none⟩) l.a.length n,.slice (some ⟨y,0,none⟩) l.b.length n,.slice (some ⟨z,0,none⟩) l.sets.length n,.slice oo l.outs.length od,.slice o l.till.length d] 143),
  (1,nb.map (·.block),Row 4 (sL p) nj),(2,some x,Row 3 l.a []),(3,some y,Row 3 l.b []),(4,some z,Row 3 l.sets []),(5,oo.map (·.block),Row 3 l.outs oj),(6,o.map (·.block),Row 3 l.till j)]
theorem Hh {l:List Int} {k:Nat} {x:Int} (h:k<l.length):(l.set ((k:Nat):Int).toNat x)[((k:Nat):Int).toNat]?.getD default=x:=by
 rw [aE,List.getElem?_set_self h];rfl
theorem c81 (G:Imm) (p:PV) (ac ao:Option Addr) (cc co:Nat) (hc:Arr G ac p.code) (ho:Arr G ao p.outs) (h1:p.code.length≤1099511627776) (h2:p.outs.length≤1099511627776) (hR:sH p=true) :
 Does Tryz.prog 81 [.agg #[.int .i64 p.ins,.int .i64 p.regs,.slice ac p.code.length cc,.slice ao p.outs.length co]] G [] (fun v G' Ho=>∃ u nb nc nj x y z n oo od oj o d j,v=.tuple #[.pointer (some ⟨u,0,none⟩),.int .i64 0]∧OwnA nb nc (sL p) nj∧OwnA (some ⟨x,0,none⟩) n (lifeP p).a []∧OwnA (some ⟨y,0,none⟩) n (lifeP p).b []∧OwnA (some ⟨z,0,none⟩) n (lifeP p).sets []∧OwnA oo od (lifeP p).outs oj∧OwnA o d (lifeP p).till j∧
  Ho=az p (lifeP p) ac ao cc co u nb nc nj x y z n oo od oj o d j∧G'=G):=by
 obtain ⟨r1,r2,r3,r4,r5,r6,r7,r8⟩:=sK hR
 refine D0 Tryz.func81 Tryz.ntmps81 fun w=>?_
 refine aJ 2 [] ?_
 refine dQ 0 fun b1=>?_
 refine aL 7 [0] ?_
 refine bX 1 rfl (jd _ _ _ _ _ _ sF sF sE sE hR) fun v1 G1 Ho1 hle1 hp=>?_
 obtain ⟨nb1,nc1,nj1,rfl,hon1,rfl,rfl⟩:=hp
 refine aZ 25 [0,0] ?_
 refine oH (ι:=Nat×Nat×Nat×Nat) (fun (x,y,z,u)=>([(7,.pointer (some ⟨u,0,none⟩)),(6,.int .i64 (↑p.code.length:Int)),(4,.slice nb1 (List.length (sL p)) nc1),(3,.int .i64 0),(2,.pointer none),(1,.pointer (some ⟨b1,0,none⟩))],[(60,some x,Row 3 (List.replicate p.code.length (0:Int)) []),(61,some y,Row 3 (List.replicate p.code.length (0:Int)) []),(62,some z,Row 3 (List.replicate p.code.length (0:Int)) []),(63,some u,.cells #[.int .i64 p.ins,.int .i64 p.regs,.slice ac p.code.length cc,.slice ao p.outs.length co,.slice nb1 (sL p).length nc1,.slice (some ⟨x,0,none⟩) (List.replicate p.code.length (0:Int)).length (List.replicate p.code.length (0:Int)).length,.slice (some ⟨y,0,none⟩) (List.replicate p.code.length (0:Int)).length (List.replicate p.code.length (0:Int)).length,.slice (some ⟨z,0,none⟩) (List.replicate p.code.length (0:Int)).length (List.replicate p.code.length (0:Int)).length,.slice none 0 0,.slice none 0 0] 143),(1,Option.map (fun x=>Go.Addr.block x) nb1,Row (α:=Bool) 4 (sL p) (nj1)),(0,some b1,.cells #[.int .i64 p.ins,.int .i64 p.regs,.slice ac p.code.length cc,.slice ao p.outs.length co] 26)])) (fun (x,y,z,u)=>True) ?_ fun ⟨x,y,z,u⟩=>fun (hk:True)=>?_
 · refine cX [0,1] [] T.mixed [[0,0],[1],[2],[4],[6]] ?_
   refine Gm.o3 3 5 7 ?_ ?_ ?_
   refine fV (α:=Int) 2 rfl T.sl24 T.el3 rfl rfl sE sE fun b2=>?_
   refine bD ?_
   refine nD 5 7 ?_ ?_
   refine fV (α:=Int) 3 rfl T.sl24 T.el3 rfl rfl sE sE fun b3=>?_
   refine cG 7 ?_
   refine fV (α:=Int) 4 rfl T.sl24 T.el3 rfl rfl sE sE fun b4=>?_
   refine bD ?_
   refine dN 8 [] rfl (bO (cs:=[_,_,_,_,_,_,_,_,_,_]) T.st143 rfl rfl rfl) ?_
   refine bV 9 ?_
   refine dQ 5 fun b5=>?_
   refine bD ?_
   refine dE [[10]] ?_
   refine cZ ?_
   rotate_left
   refine fV (α:=Int) 3 rfl T.sl24 T.el3 rfl rfl sE sE fun b3=>?_
   refine cG 5 ?_
   refine fV (α:=Int) 4 rfl T.sl24 T.el3 rfl rfl sE sE fun b4=>?_
   refine bD ?_
   refine dN 8 [] rfl (bO (cs:=[_,_,_,_,_,_,_,_,_,_]) T.st143 rfl rfl rfl) ?_
   refine bV 9 ?_
   refine dQ 5 fun b5=>?_
   refine bD ?_
   refine dE [[10]] ?_
   refine cZ ?_
   rotate_left
   refine fV (α:=Int) 2 rfl T.sl24 T.el3 rfl rfl sE sE fun b2=>?_
   refine bD ?_
   refine nD 3 7 ?_ ?_
   refine fV (α:=Int) 3 rfl T.sl24 T.el3 rfl rfl sE sE fun b3=>?_
   refine cG 7 ?_
   refine fV (α:=Int) 4 rfl T.sl24 T.el3 rfl rfl sE sE fun b4=>?_
   refine bD ?_
   refine dN 8 [] rfl (bO (cs:=[_,_,_,_,_,_,_,_,_,_]) T.st143 rfl rfl rfl) ?_
   refine bV 9 ?_
   refine dQ 5 fun b5=>?_
   refine bD ?_
   refine dE [[10]] ?_
   refine cZ ?_
   rotate_left
   refine fV (α:=Int) 3 rfl T.sl24 T.el3 rfl rfl sE sE fun b3=>?_
   refine cG 3 ?_
   refine fV (α:=Int) 4 rfl T.sl24 T.el3 rfl rfl sE sE fun b4=>?_
   refine bD ?_
   refine dN 8 [] rfl (bO (cs:=[_,_,_,_,_,_,_,_,_,_]) T.st143 rfl rfl rfl) ?_
   refine bV 9 ?_
   refine dQ 5 fun b5=>?_
   refine bD ?_
   refine dE [[10]] ?_
   refine cZ ?_
   rotate_left
   refine fV (α:=Int) 2 rfl T.sl24 T.el3 rfl rfl sE sE fun b2=>?_
   refine bD ?_
   refine nD 3 5 ?_ ?_
   refine fV (α:=Int) 3 rfl T.sl24 T.el3 rfl rfl sE sE fun b3=>?_
   refine cG 5 ?_
   refine fV (α:=Int) 4 rfl T.sl24 T.el3 rfl rfl sE sE fun b4=>?_
   refine bD ?_
   refine dN 8 [] rfl (bO (cs:=[_,_,_,_,_,_,_,_,_,_]) T.st143 rfl rfl rfl) ?_
   refine bV 9 ?_
   refine dQ 5 fun b5=>?_
   refine bD ?_
   refine dE [[10]] ?_
   refine cZ ?_
   rotate_left
   refine fV (α:=Int) 3 rfl T.sl24 T.el3 rfl rfl sE sE fun b3=>?_
   refine cG 3 ?_
   refine fV (α:=Int) 4 rfl T.sl24 T.el3 rfl rfl sE sE fun b4=>?_
   refine bD ?_
   refine dN 8 [] rfl (bO (cs:=[_,_,_,_,_,_,_,_,_,_]) T.st143 rfl rfl rfl) ?_
   refine bV 9 ?_
   refine dQ 5 fun b5=>?_
   refine bD ?_
   refine dE [[10]] ?_
   refine cZ ?_
   rotate_left
   all_goals first | (refine Ar.retag 2 60 rfl rfl (Ar.retag 3 61 rfl rfl (Ar.retag 4 62 rfl rfl (Ar.retag 5 63 rfl rfl (lZ (b2,b3,b4,b5) trivial rfl ?_ ?_)))) <;> (repeat (first | exact trivial | refine ⟨rfl,?_⟩));done) | (refine Ar.retag 2 60 rfl rfl (Ar.retag 4 61 rfl rfl (Ar.retag 3 62 rfl rfl (Ar.retag 5 63 rfl rfl (lZ (b2,b4,b3,b5) trivial rfl ?_ ?_)))) <;> (repeat (first | exact trivial | refine ⟨rfl,?_⟩));done) | (refine Ar.retag 3 60 rfl rfl (Ar.retag 2 61 rfl rfl (Ar.retag 4 62 rfl rfl (Ar.retag 5 63 rfl rfl (lZ (b3,b2,b4,b5) trivial rfl ?_ ?_)))) <;> (repeat (first | exact trivial | refine ⟨rfl,?_⟩));done) | (refine Ar.retag 3 60 rfl rfl (Ar.retag 4 61 rfl rfl (Ar.retag 2 62 rfl rfl (Ar.retag 5 63 rfl rfl (lZ (b3,b4,b2,b5) trivial rfl ?_ ?_)))) <;> (repeat (first | exact trivial | refine ⟨rfl,?_⟩));done) | (refine Ar.retag 4 60 rfl rfl (Ar.retag 2 61 rfl rfl (Ar.retag 3 62 rfl rfl (Ar.retag 5 63 rfl rfl (lZ (b4,b2,b3,b5) trivial rfl ?_ ?_)))) <;> (repeat (first | exact trivial | refine ⟨rfl,?_⟩));done) | (refine Ar.retag 4 60 rfl rfl (Ar.retag 3 61 rfl rfl (Ar.retag 2 62 rfl rfl (Ar.retag 5 63 rfl rfl (lZ (b4,b3,b2,b5) trivial rfl ?_ ?_)))) <;> (repeat (first | exact trivial | refine ⟨rfl,?_⟩));done)
 clear hk
 refine aJ 4 [0] ?_
 refine fV (α:=Int) 64 rfl T.sl24 T.el3 rfl rfl sE sE fun b2=>?_
 refine aZ 12 [] ?_
 obtain ⟨Z,hZ⟩:∃ Z,Z=List.replicate p.code.length (0:Int):=⟨_,rfl⟩
 have hZl:Z.length=p.code.length:=by rw [hZ,aI]
 have hno:∀ b:Nat,OwnA (some ⟨b,0,none⟩) Z.length Z []:=fun b=>fM Nc
 obtain ⟨R,hRn⟩:∃ R:Nat,p.regs=(R:Int):=⟨p.regs.toNat,by omega⟩
 have hRt:p.regs.toNat=R:=sE
 rw [←hZ]
 rw [hRt]
 have hown:∀ h:List Int,h.length=R→OwnA (some ⟨b2,0,none⟩) R h []:=fun h hh=>.inr ⟨b2,rfl,by rw [hh];rfl,by omega,by simp only [maxLen];omega⟩
 refine iI 8 rfl (show _=Value.slice (some ⟨b2,0,none⟩) (List.replicate R (default:Int)).length R by rw [aI]) ?_
 refine iI 39 rfl (show _=Value.int .i64 (R:Int) by rw [aI]) ?_
 refine gY (ι:=Nat×List Int) (fun (k,h)=>([(40,.int .i64 (k:Int)),(8,.slice (some ⟨b2,0,none⟩) h.length R),(39,.int .i64 (↑R:Int)),(7,.pointer (some (Addr.mk u 0 none))),(6,.int .i64 (↑p.code.length:Int)),(4,.slice nb1 (List.length (sL p)) nc1),(3,.int .i64 0),(2,.pointer none),(1,.pointer (some ⟨b1,0,none⟩))],[(64,some b2,Row 3 h []),(60,some x,Row (α:=Int) 3 (Z) ([])),(61,some y,Row (α:=Int) 3 (Z) ([])),(62,some z,Row (α:=Int) 3 (Z) ([])),(63,some u,.cells #[.int .i64 p.ins,.int .i64 p.regs,.slice ac p.code.length cc,.slice ao p.outs.length co,.slice nb1 (List.length (sL p)) nc1,.slice (some (Addr.mk x 0 none)) (List.length Z) (List.length Z),.slice (some (Addr.mk y 0 none)) (List.length Z) (List.length Z),.slice (some (Addr.mk z 0 none)) (List.length Z) (List.length Z),.slice none 0 0,.slice none 0 0] 143),(1,Option.map (fun x=>Go.Addr.block x) nb1,Row (α:=Bool) 4 (sL p) (nj1)),(0,some b1,.cells #[.int .i64 p.ins,.int .i64 p.regs,.slice ac p.code.length cc,.slice ao p.outs.length co] 26)])) (fun (k,h)=>k≤R∧h.length=R∧∀ q:Nat,q<k→h[q]?.getD default=min (q:Int) p.ins) (fun (k,h)=>R - k) ((0,List.replicate R (default:Int))) (⟨aM _,aI,fun q hq=>by omega⟩) fun ⟨k,h⟩=>fun hk=>?_
 obtain ⟨hk1,hhl,hhe⟩:=hk
 have hoh:=hown h hhl
 rcases aK k R with hkR | hkR
 · refine aJ 22 [1,0] ?_
   refine cI rfl (je _ _ _ _ _ _ _) ?_
   refine gX (α:=Int) T.sl24 ?_
   refine cU (z:=_) 64 T.size3 rfl rfl rfl sF sE rfl fun ho1=>?_
   refine aR 7 [] ?_
   refine cN 8 rfl (show _=Value.slice (some ⟨b2,0,none⟩) (h.set (k:Int).toNat (min (k:Int) p.ins)).length R by rw [aG]) ?_
   refine cL ((k+1,h.set (k:Int).toNat (min (k:Int) p.ins))) ?_ ?_
   · refine ⟨hkR,by rw [aG];exact hhl,fun q hq=>?_⟩
     rw [aE,cC]
     by_cases hqk:k=q
     · subst hqk;rw [aF rfl,aF (by omega)];rfl
     rw [aD hqk];exact hhe q sE
   show R - (k+1)<R - k
   omega
 have hh0:h=(vP p).held:=by
  refine TW (by rw [hhl];show R=((List.range p.regs.toNat).map _).length;rw [aP,bS,hRt]) fun q hq=>?_
  rw [hhe q sE]
  show _=((List.range p.regs.toNat).map fun (r:Nat)=>min (r:Int) p.ins)[q]?.getD default
  rw [bN,eR sE];rfl
 refine bJ 22 [0,0] ?_
 refine dZ 65 (Row 3 ([]:List Int) []) ?_
 refine gL (ι:=Nat×List Int×(Option Addr×Nat×List Value)) (fun (i,t,(o,d,j))=>([(53,.int .i64 (i:Int)),(52,.int .i64 (PV.ins p+1)),(8,.slice (some (Addr.mk b2 0 none)) (List.length h) R),(7,.pointer (some (Addr.mk u 0 none))),(6,.int .i64 (↑p.code.length:Int)),(4,.slice nb1 (List.length (sL p)) nc1),(3,.int .i64 0),(2,.pointer none),(1,.pointer (some ⟨b1,0,none⟩))],[(63,some u,.cells #[.int .i64 p.ins,.int .i64 p.regs,.slice ac p.code.length cc,.slice ao p.outs.length co,.slice nb1 (sL p).length nc1,.slice (some ⟨x,0,none⟩) Z.length Z.length,.slice (some ⟨y,0,none⟩) Z.length Z.length,.slice (some ⟨z,0,none⟩) Z.length Z.length,.slice none 0 0,.slice o t.length d] 143),(65,o.map (·.block),Row 3 t j),(64,some b2,Row (α:=Int) 3 (h) ([])),(60,some x,Row (α:=Int) 3 (Z) ([])),(61,some y,Row (α:=Int) 3 (Z) ([])),(62,some z,Row (α:=Int) 3 (Z) ([])),(1,Option.map (fun x=>Go.Addr.block x) nb1,Row (α:=Bool) 4 (sL p) (nj1)),(0,some b1,.cells #[.int .i64 p.ins,.int .i64 p.regs,.slice ac p.code.length cc,.slice ao p.outs.length co] 26)])) (fun (i,t,(o,d,j))=>(i:Int)≤p.ins+1∧t=List.replicate i (-1)∧OwnA o d t j) (fun (i,t,(o,d,j))=>p.ins.toNat+1 - i) ((0,[],(none,0,[]))) (⟨by show (0:Int)≤_;omega,rfl,eD⟩) ⟨rfl,rfl,rfl,rfl,rfl,rfl,rfl,rfl,rfl,trivial⟩ ⟨rfl,rfl,rfl,rfl,rfl,rfl,rfl,rfl,trivial⟩ fun ⟨i,t,(o,d,j)⟩=>fun hk=>?_
 obtain ⟨hi1,hti,hot⟩:=hk
 have htl:t.length=i:=by rw [hti,aI]
 by_cases hii:(i:Int)<p.ins+1
 · refine aJ 17 [1,63] ?_
   refine dY (α:=Int) 66 [(-1)] rfl T.sl24 T.el3 rfl rfl rfl rfl rfl fun b3=>?_
   refine jS (α:=Int) 65 T.sl24 T.el3 (fE 66 rfl) fun a1 c1 junk1 ho1=>?_
   refine aR 10 [63] ?_
   refine cL ((i+1,t++[-1],(a1,c1,junk1))) ?_ ?_
   · exact ⟨by omega,by rw [hti,List.replicate_succ'],ho1⟩
   show p.ins.toNat+1 - (i+1)<p.ins.toNat+1 - i
   omega
 refine bJ 22 [0,0] ?_
 have htt:t=(vP p).till:=by
  rw [hti,show i=p.ins.toNat+1 by omega];rfl
 have hZ':Z=(vP p).a:=hZ
 subst htt hh0 hZ'
 have hno9:∀ (b:Nat) (l:List Int),l.length=p.code.length→OwnA (some ⟨b,0,none⟩) (vP p).a.length l []:=fun b l hl=>.inr ⟨b,rfl,by rw [hZl,hl];rfl,by omega,by simp only [maxLen];omega⟩
 refine gL (ι:=Nat×Life×(Option Addr×Nat×List Value)) (fun (k,l,(o,d,j))=>([(68,.int .i64 (k:Int)),(8,.slice (some ⟨b2,0,none⟩) l.held.length R),(67,.int .i64 (↑p.code.length:Int)),(66,.slice ac p.code.length cc),(7,.pointer (some (Addr.mk u 0 none))),(6,.int .i64 (↑p.code.length:Int)),(4,.slice nb1 (List.length (sL p)) nc1),(3,.int .i64 0),(2,.pointer none),(1,.pointer (some ⟨b1,0,none⟩))],[(60,some x,Row 3 l.a []),(61,some y,Row 3 l.b []),(62,some z,Row 3 l.sets []),(64,some b2,Row 3 l.held []),(63,some u,.cells #[.int .i64 p.ins,.int .i64 p.regs,.slice ac p.code.length cc,.slice ao p.outs.length co,.slice nb1 (sL p).length nc1,.slice (some ⟨x,0,none⟩) l.a.length (vP p).a.length,.slice (some ⟨y,0,none⟩) l.b.length (vP p).a.length,.slice (some ⟨z,0,none⟩) l.sets.length (vP p).a.length,.slice none 0 0,.slice o l.till.length d] 143),(65,o.map (·.block),Row 3 l.till j),(1,Option.map (fun x=>Go.Addr.block x) nb1,Row (α:=Bool) 4 (sL p) (nj1)),(0,some b1,.cells #[.int .i64 p.ins,.int .i64 p.regs,.slice ac p.code.length cc,.slice ao p.outs.length co] 26)])) (fun (k,l,(o,d,j))=>k≤p.code.length∧l=sO p k∧OwnA o d l.till j) (fun (k,l,(o,d,j))=>p.code.length - k) ((0,vP p,(o,d,j))) (⟨aM _,rfl,hot⟩) ⟨rfl,rfl,rfl,rfl,rfl,rfl,rfl,rfl,rfl,rfl,trivial⟩ ⟨rfl,rfl,rfl,rfl,rfl,rfl,rfl,rfl,trivial⟩ fun ⟨k,l,(o,d,j)⟩=>fun hk=>?_
 obtain ⟨hk9,hlk,hol⟩:=hk
 have hok:=wZ hR k hk9
 rw [←hlk] at hok
 obtain ⟨k1,k2,k3,k4,k5,k6,k7,k8,k9,k10,k11⟩:=hok
 have hoa:=hno9 x l.a k1
 have hob:=hno9 y l.b k2
 have hoz:=hno9 z l.sets k3
 have hoh2:=hown l.held sE
 rcases aK k p.code.length with hkc | hkc
 · have hm:=wW hR hkc
   unfold xT at hm
   have hnl:(sL p).length=p.code.length:=(vY p _).2
   have hva:0≤l.held[(p.code[(k:Int).toNat]?.getD default).a.toNat]?.getD default∧l.held[(p.code[(k:Int).toNat]?.getD default).a.toNat]?.getD default<l.till.length:=k7 _ (get_mem (by have:=(tE hm).2.2.1;omega))
   obtain ⟨m1,m2,m3,m4,m5,m6,m7,m8⟩:=tE hm
   have hI:xT p k=p.code[(k:Int).toNat]?.getD default:=rfl
   have m4':1<((sS (p.code[(k:Int).toNat]?.getD default)).length:Int)→0≤(p.code[(k:Int).toNat]?.getD default).b∧(p.code[(k:Int).toNat]?.getD default).b<p.regs:=fun h=>m4 (Ky sE)
   refine aJ 14 [1] ?_
   refine fP (α:=Sl.Instr) T.sl23 ?_
   refine lB T.agg91 ?_
   refine aN 66 rfl T.zero91 fun b3=>?_
   refine aL 9 [66] ?_
   refine gX (α:=Bool) T.sl138 ?_
   refine mS 1 0 T.one4 ?_
   refine aZ 3 [] ?_
   refine kZ rfl (fun hc1=>?_) fun hc1=>?_
   refine bE 8 [] ?_
   rotate_left
   refine bJ 3 [] ?_
   refine cX [0,1,65,63,64,62,61,60,66] [(66,23),(60,23),(61,23),(62,23),(64,23),(63,23),(65,23),(1,23),(0,23),(66,21),(60,21),(61,21),(62,21),(64,21),(63,21),(65,21),(1,21),(0,21)] T.mixed [[0],[1],[2],[3,63],[4],[5],[6],[7],[8,63],[9],[10],[11],[12,66]] ?_
   refine fH (α:=Int) 13 T.sl24 ?_
   refine dN 14 [0,64] rfl (fG 64 0 T.one3 rfl rfl sF sE rfl rfl) ?_
   refine dE [[15],[16]] ?_
   refine bV 17 ?_
   refine aB 1 [66] ?_
   refine bD ?_
   refine fH (α:=Int) 18 T.sl24 ?_
   refine dN 19 [0,64] rfl (fG 64 0 T.one3 rfl rfl sF sE rfl rfl) ?_
   refine fH (α:=Int) 20 T.sl24 ?_
   refine bV 21 ?_
   refine cU (z:=_) 60 T.size3 rfl rfl rfl sF sE rfl fun ho1=>?_
   refine bD ?_
   refine fH (α:=Int) 22 T.sl24 ?_
   refine bV 23 ?_
   refine cU (z:=_) 61 T.size3 rfl rfl rfl sF sE rfl fun ho2=>?_
   refine eZ ?_
   refine cO ?_
   rotate_left
   · have hn:¬Bb p k=true:=by unfold Bb;simpa using hc1
     refine cL ((k+1,l,(o,d,j))) ?_ ?_
     · exact ⟨hkc,by rw [hlk];exact (aD hn).symm,hol⟩
     show p.code.length - (k+1)<p.code.length - k
     omega
   have hn:Bb p k=true:=by unfold Bb;simpa using hc1
   refine oH (ι:=Int) (fun v=>([(4,.slice nb1 (sL p).length nc1),(66,.slice ac p.code.length cc),(67,.int .i64 (p.code.length:Int)),(10,.int .i64 (↑k:Int)),(11,.pointer (some (Addr.mk b3 0 none))),(68,.int .i64 (↑k:Int)),(8,.slice (some (Addr.mk b2 0 none)) (List.length (Life.held l)) R),(7,.pointer (some (Addr.mk u 0 none))),(6,.int .i64 (↑p.code.length:Int)),(3,.int .i64 0),(2,.pointer none),(1,.pointer (some ⟨b1,0,none⟩))],[(61,some y,Row 3 (l.b.set (k:Int).toNat v) []),(60,Option.map (fun x=>Go.Addr.block x) (some (Addr.mk x 0 none)),Row (α:=Int) 3 (List.set (Life.a l) (Int.toNat (↑k:Int)) (Option.getD (Life.held l)[Int.toNat (Instr.a (Option.getD p.code[Int.toNat (↑k:Int)]? default))]? default)) ([])),(66,some b3,.cells (List.toArray (Cells.enc (Option.getD p.code[Int.toNat (↑k:Int)]? default))) 91),(62,some z,Row (α:=Int) 3 (Life.sets l) ([])),(64,some b2,Row (α:=Int) 3 (Life.held l) ([])),(63,some u,.cells #[.int .i64 p.ins,.int .i64 p.regs,.slice ac p.code.length cc,.slice ao p.outs.length co,.slice nb1 (List.length (sL p)) nc1,.slice (some (Addr.mk x 0 none)) (List.length (Life.a l)) (List.length (Life.a (vP p))),.slice (some (Addr.mk y 0 none)) (List.length (Life.b l)) (List.length (Life.a (vP p))),.slice (some (Addr.mk z 0 none)) (List.length (Life.sets l)) (List.length (Life.a (vP p))),.slice none 0 0,.slice o (List.length (Life.till l)) d] 143),(65,Option.map (fun x=>Go.Addr.block x) o,Row (α:=Int) 3 (Life.till l) (j)),(1,Option.map (fun x=>Go.Addr.block x) nb1,Row (α:=Bool) 4 (sL p) (nj1)),(0,some b1,.cells #[.int .i64 p.ins,.int .i64 p.regs,.slice ac p.code.length cc,.slice ao p.outs.length co] 26)])) (fun v=>v=vB l (p.code[(k:Int).toNat]?.getD default)) ?_ fun v=>fun (hk:v=vB l (p.code[(k:Int).toNat]?.getD default))=>?_
   · by_cases h2:1<((sS (p.code[((k:Nat):Int).toNat]?.getD default)).length:Int)
     · have m4b:=m4' h2
       have hlb:(l.b.set (k:Int).toNat (l.held[(p.code[(k:Int).toNat]?.getD default).a.toNat]?.getD default)).length=l.b.length:=aG
       refine aJ 3 [66] ?_
       refine bX 67 rfl (HF _ _) fun v2 G2 Ho2 hle2 hp=>?_
       obtain ⟨ad2,cd2,junk2,rfl,hoa2,rfl,rfl⟩:=hp
       refine aZ 5 [1] ?_
       refine cX [0,1,65,63,64,62,66,60,61,68] [(68,11),(61,11),(60,11),(66,11),(62,11),(64,11),(63,11),(65,11),(1,11),(0,11)] T.mixed [[0],[1],[2],[3,63],[4],[5],[6],[7,66]] ?_
       refine fH (α:=Int) 8 T.sl24 ?_
       refine dN 9 [0,64] rfl (fG 64 0 T.one3 rfl rfl sF sE rfl rfl) ?_
       refine fH (α:=Int) 10 T.sl24 ?_
       refine bV 11 ?_
       refine cU (z:=_) 61 T.size3 rfl rfl rfl sF sE rfl fun ho3=>?_
       refine eZ ?_
       rw [List.set_set]
       refine mC (l.held[(p.code[(k:Int).toNat]?.getD default).b.toNat]?.getD default) ?_
       exact (aF (by omega)).symm
     refine aJ 3 [66] ?_
     refine bX 67 rfl (HF _ _) fun v2 G2 Ho2 hle2 hp=>?_
     obtain ⟨ad2,cd2,junk2,rfl,hoa2,rfl,rfl⟩:=hp
     refine aR 6 [0] ?_
     refine mC (l.held[(p.code[(k:Int).toNat]?.getD default).a.toNat]?.getD default) ?_
     exact (aD (by omega)).symm
   have hvb:=OK ⟨k1,k2,k3,k4,k5,k6,k7,k8,k9,k10,k11⟩ hm
   rw [←hk] at hvb
   have hob3:=hno9 y (l.b.set (k:Int).toNat v) (by rw [aG];exact k2)
   have hra:(l.a.set (k:Int).toNat (l.held[(p.code[(k:Int).toNat]?.getD default).a.toNat]?.getD default))[(k:Int).toNat]?.getD default=l.held[(p.code[(k:Int).toNat]?.getD default).a.toNat]?.getD default:=Hh sE
   have hrb:(l.b.set (k:Int).toNat v)[(k:Int).toNat]?.getD default=v:=Hh sE
   have hla:(l.a.set (k:Int).toNat (l.held[(p.code[(k:Int).toNat]?.getD default).a.toNat]?.getD default)).length=l.a.length:=aG
   have hlb:(l.b.set (k:Int).toNat v).length=l.b.length:=aG
   have hlt1:(l.till.set (l.held[(p.code[(k:Int).toNat]?.getD default).a.toNat]?.getD default).toNat (k:Int)).length=l.till.length:=aG
   have hlt2:((l.till.set (l.held[(p.code[(k:Int).toNat]?.getD default).a.toNat]?.getD default).toNat (k:Int)).set v.toNat (k:Int)).length=l.till.length:=by rw [aG,aG]
   refine dF ?_
   refine cX [0,1,65,63,64,62,66,60,61] [(61,27),(60,27),(66,27),(62,27),(64,27),(63,27),(65,27),(1,27),(0,27),(61,25),(60,25),(66,25),(62,25),(64,25),(63,25),(65,25),(1,25),(0,25)] T.mixed [[0],[1],[2],[3,63],[4],[5],[6],[7,63],[8]] ?_
   refine fH (α:=Int) 9 T.sl24 ?_
   refine dN 10 [0,60] rfl (fG 60 0 T.one3 rfl rfl sF sE rfl rfl) ?_
   refine dE [[11],[12],[13],[14,63],[15],[16],[17],[18,63],[19]] ?_
   refine fH (α:=Int) 20 T.sl24 ?_
   refine dN 21 [0,61] rfl (fG 61 0 T.one3 rfl rfl sF sE rfl rfl) ?_
   refine dE [[22],[23]] ?_
   refine fH (α:=Int) 24 T.sl24 ?_
   refine bV 25 ?_
   refine cU (z:=_) 65 T.size3 rfl rfl rfl sF sE rfl fun ho3=>?_
   refine bD ?_
   refine fH (α:=Int) 26 T.sl24 ?_
   refine bV 27 ?_
   rw [hra,hrb]
   have hol2:OwnA o d (l.till.set (l.held[(p.code[(k:Int).toNat]?.getD default).a.toNat]?.getD default).toNat (k:Int)) j:=Wo hol _ _
   have hoh3:=hown (l.held.set (p.code[(k:Int).toNat]?.getD default).to.toNat (l.till.length:Int)) (by rw [aG];omega)
   refine cU (z:=_) 65 T.size3 rfl rfl rfl sF sE rfl fun ho4=>?_
   refine eZ ?_
   refine mD 2 [] ?_
   refine cX [0,1,63,64,62,66,60,61,65] [(65,21),(61,21),(60,21),(66,21),(62,21),(64,21),(63,21),(1,21),(0,21),(65,19),(61,19),(60,19),(66,19),(62,19),(64,19),(63,19),(1,19),(0,19)] T.mixed [[0],[1],[2],[3,63],[4],[5],[6],[8],[9],[10],[11,63],[12],[13],[14],[15],[16,63],[17]] ?_
   refine fH (α:=Int) 18 T.sl24 ?_
   refine nD 7 19 ?_ ?_
   refine aB 1 [66] ?_
   refine cG 19 ?_
   refine cU (z:=_) 62 T.size3 rfl rfl rfl sF sE rfl fun ho5=>?_
   refine bD ?_
   refine fH (α:=Int) 20 T.sl24 ?_
   refine bV 21 ?_
   refine cU (z:=_) 64 T.size3 rfl rfl rfl sF sE rfl fun ho6=>?_
   refine eZ ?_
   refine nE 7 [63] ?_
   refine dY (α:=Int) 67 [(-1)] rfl T.sl24 T.el3 rfl rfl rfl rfl rfl fun b4=>?_
   rotate_left
   refine cU (z:=_) 62 T.size3 rfl rfl rfl sF sE rfl fun ho5=>?_
   refine cG 7 ?_
   refine aB 1 [66] ?_
   refine bD ?_
   refine fH (α:=Int) 20 T.sl24 ?_
   refine bV 21 ?_
   refine cU (z:=_) 64 T.size3 rfl rfl rfl sF sE rfl fun ho6=>?_
   refine eZ ?_
   refine nE 7 [63] ?_
   refine dY (α:=Int) 67 [(-1)] rfl T.sl24 T.el3 rfl rfl rfl rfl rfl fun b4=>?_
   rotate_left
   all_goals
    refine gK 165 rfl (show _=Value.slice o ((l.till.set (l.held[(p.code[(k:Int).toNat]?.getD default).a.toNat]?.getD default).toNat (k:Int)).set v.toNat (k:Int)).length d by rw [hlt2]) ?_
    have hol3:=Wo hol2 v.toNat (k:Int)
    refine jS (α:=Int) 65 T.sl24 T.el3 (fE 67 rfl) fun a7 c7 junk7 ho7=>?_
    refine aR 10 [63] ?_
    subst hk
    have e1:(uK l k (p.code[(k:Int).toNat]?.getD default)).a.length=l.a.length:=aG
    have e2:(uK l k (p.code[(k:Int).toNat]?.getD default)).b.length=l.b.length:=aG
    have e3:(uK l k (p.code[(k:Int).toNat]?.getD default)).sets.length=l.sets.length:=aG
    have e4:(uK l k (p.code[(k:Int).toNat]?.getD default)).held.length=l.held.length:=aG
    refine fY 63 (.cells #[.int .i64 p.ins,.int .i64 p.regs,.slice ac p.code.length cc,.slice ao p.outs.length co,.slice nb1 (sL p).length nc1,.slice (some ⟨x,0,none⟩) (uK l k (p.code[(k:Int).toNat]?.getD default)).a.length (vP p).a.length,.slice (some ⟨y,0,none⟩) (uK l k (p.code[(k:Int).toNat]?.getD default)).b.length (vP p).a.length,.slice (some ⟨z,0,none⟩) (uK l k (p.code[(k:Int).toNat]?.getD default)).sets.length (vP p).a.length,.slice none 0 0,.slice a7 (uK l k (p.code[(k:Int).toNat]?.getD default)).till.length c7] 143) rfl (by rw [e1,e2,e3];rfl) ?_
    refine cN 8 rfl (show _=Value.slice (some ⟨b2,0,none⟩) (uK l k (p.code[(k:Int).toNat]?.getD default)).held.length R by rw [e4]) ?_
    refine cL ((k+1,uK l k (p.code[(k:Int).toNat]?.getD default),(a7,c7,junk7))) ?_ ?_
    · refine ⟨hkc,?_,?_⟩
      · rw [hlk];exact (aF hn).symm
      show OwnA a7 c7 (((l.till.set _ _).set _ _)++[-1]) junk7
      assumption
    show p.code.length - (k+1)<p.code.length - k
    omega
 have hke:k=p.code.length:=qF hk9 hkc
 subst hke
 have hlo:l.outs=[]:=by rw [hlk];exact zJ p _
 refine bJ 22 [0,0] ?_
 refine dZ 69 (Row 3 l.outs []) ?_
 refine pR 63 (.cells #[.int .i64 p.ins,.int .i64 p.regs,.slice ac p.code.length cc,.slice ao p.outs.length co,.slice nb1 (sL p).length nc1,.slice (some ⟨x,0,none⟩) l.a.length (vP p).a.length,.slice (some ⟨y,0,none⟩) l.b.length (vP p).a.length,.slice (some ⟨z,0,none⟩) l.sets.length (vP p).a.length,.slice none l.outs.length 0,.slice o l.till.length d] 143) rfl (by rw [hlo];rfl) ?_
 refine gL (ι:=Nat×Life×(Option Addr×Nat×List Value)) (fun (q,l2,(oo,od,oj))=>([(174,.int .i64 (q:Int)),(173,.int .i64 (↑p.outs.length:Int)),(172,.slice ao p.outs.length co),(8,.slice (some (Addr.mk b2 0 none)) (List.length (Life.held l)) R),(7,.pointer (some (Addr.mk u 0 none))),(6,.int .i64 (↑p.code.length:Int)),(3,.int .i64 0),(2,.pointer none)],[(65,o.map (·.block),Row 3 l2.till j),(69,oo.map (·.block),Row 3 l2.outs oj),(63,some u,.cells #[.int .i64 p.ins,.int .i64 p.regs,.slice ac p.code.length cc,.slice ao p.outs.length co,.slice nb1 (sL p).length nc1,.slice (some ⟨x,0,none⟩) l.a.length (vP p).a.length,.slice (some ⟨y,0,none⟩) l.b.length (vP p).a.length,.slice (some ⟨z,0,none⟩) l.sets.length (vP p).a.length,.slice oo l2.outs.length od,.slice o l2.till.length d] 143),(60,some x,Row (α:=Int) 3 (Life.a l) ([])),(61,some y,Row (α:=Int) 3 (Life.b l) ([])),(62,some z,Row (α:=Int) 3 (Life.sets l) ([])),(64,some b2,Row (α:=Int) 3 (Life.held l) ([])),(1,Option.map (fun x=>Go.Addr.block x) nb1,Row (α:=Bool) 4 (sL p) (nj1)),(0,some b1,.cells #[.int .i64 p.ins,.int .i64 p.regs,.slice ac p.code.length cc,.slice ao p.outs.length co] 26)])) (fun (q,l2,(oo,od,oj))=>q≤p.outs.length∧l2=vQ p q∧OwnA oo od l2.outs oj∧OwnA o d l2.till j) (fun (q,l2,(oo,od,oj))=>p.outs.length - q) ((0,l,(none,0,[]))) (⟨aM _,hlk,by show OwnA none 0 l.outs [];rw [hlo];exact eD,hol⟩) ⟨rfl,rfl,rfl,rfl,rfl,rfl,rfl,rfl,trivial⟩ ⟨rfl,rfl,rfl,rfl,rfl,rfl,rfl,rfl,rfl,trivial⟩ fun ⟨q,l2,(oo,od,oj)⟩=>fun hk=>?_
 obtain ⟨hq1,hl2,hoo,hot2⟩:=hk
 have h2ok:=Qb hR q hq1
 have h2h:=Qj p q
 have h2l:=Kz p q
 rw [←hl2] at h2ok h2h h2l
 rw [←hlk] at h2h h2l
 rw [hlo] at h2l
 have h2l':l2.outs.length=q:=by rw [h2l];exact dC q
 have h2t:=h2ok.t1
 rcases aK q p.outs.length with hqc | hqc
 · have hr:=Mz hR hqc
   have hv2:0≤l.held[(p.outs[(q:Int).toNat]?.getD default).toNat]?.getD default∧l.held[(p.outs[(q:Int).toNat]?.getD default).toNat]?.getD default<l2.till.length:=h2ok.hb _ (by rw [h2h];exact get_mem sE)
   refine aJ 13 [1] ?_
   refine fP (α:=Int) T.sl24 ?_
   refine iY 0 T.one3 ?_
   refine aZ 4 [] ?_
   refine cX [0,1,64,62,61,60,63,69,65] [(63,13),(65,10),(69,10),(60,10),(61,10),(62,10),(64,10),(1,10)] T.mixed [[0],[1],[2],[3],[4,63],[5],[6]] ?_
   refine fH (α:=Int) 7 T.sl24 ?_
   refine bV 8 ?_
   refine mS 64 0 T.one3 ?_
   refine cG 9 ?_
   refine dY (α:=Int) 70 [(Option.getD (Go.Proofs.YtfdcckcadfhpeaaGreatDoor.Life.held l)[Int.toNat (Option.getD p.outs[Int.toNat (↑q:Int)]? Inhabited.default)]? Inhabited.default)] rfl T.sl24 T.el3 rfl rfl rfl rfl rfl fun b3=>?_
   refine cG 10 ?_
   refine jS (α:=Int) 69 T.sl24 T.el3 (fE 70 rfl) fun a1 c1 junk1 ho1=>?_
   refine bD ?_
   refine dE [[11],[12]] ?_
   refine bV 13 ?_
   refine aB 1 [63] ?_
   refine eZ ?_
   refine cO ?_
   refine cX [0,1,64,62,61,60,65,70,69,63] [(63,10),(69,10),(70,10),(65,10),(60,10),(61,10),(62,10),(64,10),(1,10),(0,10)] T.mixed [[0],[1],[2],[3,63],[4],[5]] ?_
   refine fH (α:=Int) 6 T.sl24 ?_
   refine dN 7 [0,64] rfl (fG 64 0 T.one3 rfl rfl sF sE rfl rfl) ?_
   refine dE [[8]] ?_
   refine fH (α:=Int) 9 T.sl24 ?_
   refine bV 10 ?_
   refine cU (z:=_) 65 T.size3 rfl rfl rfl sF sE rfl fun ho2=>?_
   refine eZ ?_
   refine dX 6 [] ?_
   have e5:(Cy p l2 (p.outs[(q:Int).toNat]?.getD default)).till.length=l2.till.length:=aG
   have eS:Cy p l2 (p.outs[(q:Int).toNat]?.getD default)={ l2 with outs:=l2.outs++[l.held[(p.outs[(q:Int).toNat]?.getD default).toNat]?.getD default],till:=l2.till.set (l.held[(p.outs[(q:Int).toNat]?.getD default).toNat]?.getD default).toNat p.code.length }:=by
    unfold Cy;rw [h2h]
   rw [eS] at e5
   refine fY 63 (.cells #[.int .i64 p.ins,.int .i64 p.regs,.slice ac p.code.length cc,.slice ao p.outs.length co,.slice nb1 (sL p).length nc1,.slice (some ⟨x,0,none⟩) l.a.length (vP p).a.length,.slice (some ⟨y,0,none⟩) l.b.length (vP p).a.length,.slice (some ⟨z,0,none⟩) l.sets.length (vP p).a.length,.slice a1 (l2.outs++[l.held[(p.outs[(q:Int).toNat]?.getD default).toNat]?.getD default]).length c1,.slice o (l2.till.set (l.held[(p.outs[(q:Int).toNat]?.getD default).toNat]?.getD default).toNat p.code.length).length d] 143) rfl (by rw [e5];rfl) ?_
   refine cL ((q+1,{ l2 with outs:=l2.outs++[l.held[(p.outs[(q:Int).toNat]?.getD default).toNat]?.getD default],till:=l2.till.set (l.held[(p.outs[(q:Int).toNat]?.getD default).toNat]?.getD default).toNat p.code.length },(a1,c1,junk1))) ?_ ?_
   · refine ⟨hqc,?_,by assumption,Wo hot2 _ _⟩
     show _=Cy p (vQ p q) _
     rw [←hl2,eS]
   show p.outs.length - (q+1)<p.outs.length - q
   omega
 have hqe:q=p.outs.length:=qF hq1 hqc
 subst hqe
 have hlp:l2=lifeP p:=hl2
 have s1:l.a=(lifeP p).a:=by rw [hlk];exact (Ay p _).1.symm
 have s2:l.b=(lifeP p).b:=by rw [hlk];exact (Ay p _).2.1.symm
 have s3:l.sets=(lifeP p).sets:=by rw [hlk];exact (Ay p _).2.2.symm
 subst hlp
 refine bE 20 [0] ?_
 refine lY [63,1,60,61,62,69,65] sN (fS (.inr rfl) rfl (.tmp rfl) (.tmp rfl) (lO 0 _) ?_)
 rw [s1] at hoa
 rw [s2] at hob
 rw [s3] at hoz
 refine ⟨u,nb1,nc1,nj1,x,y,z,(vP p).a.length,oo,od,oj,o,d,j,rfl,hon1,hoa,hob,hoz,hoo,hot2,?_,rfl⟩
 rw [s1,s2,s3]
 rfl
section
variable {P:Program} {B:Bs} {e:Env} {D:List Deferred} {H:Hp} {G:Imm}
theorem Tt {ty:TypeId} {T et:TypeId} {len i:Nat} {x y:Operand} {cs:List Value} {v:Value} (hT:P.underlying T=some (.array len et)) (h1:P.plainKey et=true) (hs:(P.info? et).map (·.size)=some 1)
 (hx:e.ev x=some (.agg cs.toArray)) (hy:e.ev y=some (.int .i64 (i:Int))) (hi:i<len) (hv:cs[i]?=some v):Qy P (.index T x y) ty e H G v:=fun a w _ _ _ _ hh=>by
 have hp:(part et cs.toArray i).run P w=.ok v w:=by
  unfold Program.plainKey at h1
  cases hu:P.underlying et with
  | none=>simp [hu] at h1
  | some d=>cases d <;> simp [hu] at h1 <;> simp [part,isAgg,cW hu,hv,Result.andThen]
 have hsz:=Go.Sl.run_sizeOf (P:=P) w hs
 have h2:(0:Int)≤(i:Int)∧(i:Int)<(len:Int):=sE
 simp only [execOp,hh.eval hx,hh.eval hy,Instr.index,asIntOf,dB,dS,bM,cW hT]
 rw [aF h2]
 simp only [dB,hsz,bM,aE,Nat.mul_one,hp,dS]
end
theorem VP:Tryz.prog.underlying 145=some (.array 2 3):=sG
theorem pk3:Tryz.prog.plainKey 3=true:=sG
theorem size3:(Tryz.prog.info? 3).map (·.size)=some 1:=sG
section
variable {P:Program} {B:Bs} {e:Env} {D:List Deferred} {H:Hp} {G:Imm}
theorem PD {r:Option Nat} {c:Code} {Q:Exit→Act→World→Prop} (t t':Nat) {k:Option Nat} {o:Obj} (ht:H.get t=some (k,o)) (hn:Nat.beq t t'=false) (h:Wc r P c B ⟨e,D,(t',k,o) :: (t,none,o) :: H,G⟩ Q):Wc r P c B ⟨e,D,H,G⟩ Q:=
 fun a w hh=>h a w (retagH hh t t' ht (fun e=>by subst e;simp at hn) (.inr trivial))
end
theorem AZ (p:PV):(sL p).length=p.code.length:=by unfold sL;exact (vY p _).2
def TX (l:Life) (k:Nat) (s:Pl):Nat→Pl
 | 0=>s
 | 1=>vC l k s (l.a[((k:Nat):Int).toNat]?.getD default)
 | _=>vC l k (vC l k s (l.a[((k:Nat):Int).toNat]?.getD default)) (l.b[((k:Nat):Int).toNat]?.getD default)
theorem Tu (p:PV) {k:Nat}:∀ (j:Nat),k<j→j≤p.code.length→(sO p j).sets[((k:Nat):Int).toNat]?.getD default=(sO p (k+1)).sets[((k:Nat):Int).toNat]?.getD default
 | 0,h,_=>absurd h (Nat.not_lt_zero _)
 | j+1,h,hj=>by
   by_cases hk:k=j
   · rw [hk]
   rw [←Tu p j sE sE]
   show (if Bb p j=true then uK (sO p j) j (xT p j) else sO p j).sets[_]?.getD default=_
   split
   · show ((sO p j).sets.set j _)[(k:Int).toNat]?.getD default=_
     rw [cC,aD (by omega)]
   rfl
theorem JA {p:PV} (hR:sH p=true) {k:Nat} (hk:k<p.code.length) (hn:Bb p k=true):(lifeP p).sets[((k:Nat):Int).toNat]?.getD default=(sO p k).till.length:=by
 unfold lifeP
 rw [(Ay p _).2.2,Tu p p.code.length hk (aH _)]
 show (if Bb p k=true then uK (sO p k) k (xT p k) else sO p k).sets[_]?.getD default=_
 rw [aF hn]
 exact Hh (by rw [(wZ hR k sE).sl];exact hk)
theorem Rh {l:List Int} {f:Int→Int} {k:Nat} (h:k<l.length):(l.map f).take (k+1)=(l.map f).take k++[f (l[((k:Nat):Int).toNat]?.getD default)]:=by
 rw [mY (by rw [aP];exact h),aE,aA h,fA];rfl
theorem Qk (l:Life):∀ (n:Nat) (v:Int),(n:Int)≤v→mget (zK l n).at_ v=none
 | 0,v,_=>rfl
 | n+1,v,h=>by
   show mget (Bt (zK l n).at_ n _) v=none
   rw [wX,aD (by omega),Qk l n v sE]
theorem JB {p:PV} {s:Pl} (hs:s=zR p (lifeP p)) (h:1≤p.ins) (v:Int) (hv:(sO p 0).till.length≤v):mget s.at_ v=none:=by
 have h1:(sO p 0).till.length=p.ins.toNat+1:=aI
 rw [h1] at hv
 rw [hs]
 unfold zR
 split
 · show mget (Bt (zK (lifeP p) p.ins.toNat).at_ p.ins _) v=none
   rw [wX,aD (by omega),Qk _ _ v sE]
 exact Qk _ _ v sE
section
attribute [local irreducible] lifeP sL sH least
theorem bd (G:Imm) (p:PV) (ac ao:Option Addr) (cc co:Nat) (hc:Arr G ac p.code) (ho:Arr G ao p.outs) (h1:p.code.length≤1099511627776) (h2:p.outs.length≤1099511627776) (hR:sH p=true) :
 Does Tryz.prog 41 [.agg #[.int .i64 p.ins,.int .i64 p.regs,.slice ac p.code.length cc,.slice ao p.outs.length co]] G [] (fun v G' Ho =>
  ∃ bc bo dc do_ j1 j2,v=.tuple #[.agg #[.int .i64 (tA p).ins,.int .i64 (tA p).regs,.slice bc (tA p).code.length dc,.slice bo (tA p).outs.length do_],.int .i64 0]∧
   OwnA bc dc (tA p).code j1∧OwnA bo do_ (tA p).outs j2∧Ho=[(0,bc.map (·.block),Row 91 (tA p).code j1),(1,bo.map (·.block),Row 3 (tA p).outs j2)]∧G'=G):=by
 obtain ⟨r1,r2,r3,r4,r5,r6,r7,r8⟩:=sK hR
 have hlok:=OM hR
 obtain ⟨k1,k2,k3,k4,k5,k6,k7,k8,k9,k10,k11⟩:=hlok
 refine D0 Tryz.func41 Tryz.ntmps41 fun w=>?_
 refine aJ 2 [] ?_
 refine dQ 0 fun b1=>?_
 refine aN 1 rfl T.zero26 fun b2=>?_
 refine aL 6 [0] ?_
 refine bX 2 rfl (c81 _ _ _ _ _ _ sF sF sE sE hR) fun v1 G1 Ho1 hle1 hp=>?_
 obtain ⟨lu1,lnb1,lnc1,lnj1,lx1,ly1,lz1,ln1,loo1,lod1,loj1,lo1,ld1,lj1,rfl,hln1,hlx1,hly1,hlz1,hlo1,hlt1,rfl,rfl⟩:=hp
 refine aL 19 [0] ?_
 refine Wl.makeMap (κ:=Int) 9 rfl fun b3=>?_
 refine aO (bO (cs:=[_,_]) T.st140 rfl rfl rfl) ?_
 refine dQ 10 fun b4=>?_
 refine aZ 12 [0] ?_
 refine PD 9 11 rfl rfl ?_
 refine dZ 12 (Row 4 ([]:List Bool) []) ?_
 refine gL (ι:=Nat×Pl×(Option Addr×Nat×List Value)) (fun (v,s,(a,c,j))=>([(30,.int .i64 (v:Int)),(29,.int .i64 p.ins),(6,.pointer (some (Addr.mk b4 0 none))),(4,.pointer (some (Addr.mk lu1 0 none))),(3,.int .i64 0),(2,.pointer (some ⟨b2,0,none⟩)),(1,.pointer (some ⟨b1,0,none⟩))],[(10,some b4,.cells #[.map (some b3),.slice a s.free.length c] 140),(11,some b3,mapObj s.at_),(12,a.map (·.block),Row 4 s.free j),(2,some lu1,.cells #[.int .i64 p.ins,.int .i64 p.regs,.slice ac p.code.length cc,.slice ao p.outs.length co,.slice lnb1 (List.length (sL p)) lnc1,.slice (some (Addr.mk lx1 0 none)) (List.length (Life.a (lifeP p))) ln1,.slice (some (Addr.mk ly1 0 none)) (List.length (Life.b (lifeP p))) ln1,.slice (some (Addr.mk lz1 0 none)) (List.length (Life.sets (lifeP p))) ln1,.slice loo1 (List.length (Life.outs (lifeP p))) lod1,.slice lo1 (List.length (Life.till (lifeP p))) ld1] 143),(3,Option.map (fun x=>Go.Addr.block x) lnb1,Row (α:=Bool) 4 (sL p) (lnj1)),(4,some lx1,Row (α:=Int) 3 (Life.a (lifeP p)) ([])),(5,some ly1,Row (α:=Int) 3 (Life.b (lifeP p)) ([])),(6,some lz1,Row (α:=Int) 3 (Life.sets (lifeP p)) ([])),(7,Option.map (fun x=>Go.Addr.block x) loo1,Row (α:=Int) 3 (Life.outs (lifeP p)) (loj1)),(8,Option.map (fun x=>Go.Addr.block x) lo1,Row (α:=Int) 3 (Life.till (lifeP p)) (lj1)),(1,some b2,.cells #[.int .i64 0,.int .i64 0,.slice none 0 0,.slice none 0 0] 26),(0,some b1,.cells #[.int .i64 p.ins,.int .i64 p.regs,.slice ac p.code.length cc,.slice ao p.outs.length co] 26)])) (fun (v,s,(a,c,j))=>(v:Int)≤p.ins∧s=zK (lifeP p) v∧OwnA a c s.free j) (fun (v,s,(a,c,j))=>p.ins.toNat - v) ((0,⟨[],[]⟩,(none,0,[]))) (⟨by show (0:Int)≤_;omega,rfl,eD⟩) ⟨rfl,rfl,rfl,rfl,rfl,rfl,rfl,trivial⟩ ⟨rfl,rfl,rfl,rfl,rfl,rfl,rfl,rfl,rfl,rfl,rfl,rfl,trivial⟩ fun ⟨v,s,(a,c,j)⟩=>fun hk=>?_
 obtain ⟨hv1,hs,hoa⟩:=hk
 have hsl:s.free.length=v:=by rw [hs];exact Ac _ v
 by_cases hvi:(v:Int)<p.ins
 · refine aJ 25 [1,2] ?_
   refine gX (α:=Int) T.sl24 ?_
   refine mS 8 0 T.one3 ?_
   refine bX 10 rfl (c82 _ s _ _ _ _ _ _ _ hoa sE) fun v2 G2 Ho2 hle2 hp=>?_
   obtain ⟨pa2,pc2,pj2,rfl,hpo2,rfl,rfl⟩:=hp
   refine aR 7 [] ?_
   refine cL ((v+1,La s v ((lifeP p).till[(v:Int).toNat]?.getD default),(pa2,pc2,pj2))) ?_ ?_
   · exact ⟨by omega,by rw [hs];rfl,hpo2⟩
   show p.ins.toNat - (v+1)<p.ins.toNat - v
   omega
 have hve:v=p.ins.toNat:=sE
 refine bJ 12 [0] ?_
 refine oH (ι:=Pl×(Option Addr×Nat×List Value)) (fun (s0,(a0,c0,j0))=>([(6,.pointer (some (Addr.mk b4 0 none))),(4,.pointer (some (Addr.mk lu1 0 none))),(3,.int .i64 0),(2,.pointer (some ⟨b2,0,none⟩)),(1,.pointer (some ⟨b1,0,none⟩))],[(10,some b4,.cells #[.map (some b3),.slice a0 s0.free.length c0] 140),(11,some b3,mapObj s0.at_),(12,a0.map (·.block),Row 4 s0.free j0),(2,some lu1,.cells #[.int .i64 p.ins,.int .i64 p.regs,.slice ac p.code.length cc,.slice ao p.outs.length co,.slice lnb1 (List.length (sL p)) lnc1,.slice (some (Addr.mk lx1 0 none)) (List.length (Life.a (lifeP p))) ln1,.slice (some (Addr.mk ly1 0 none)) (List.length (Life.b (lifeP p))) ln1,.slice (some (Addr.mk lz1 0 none)) (List.length (Life.sets (lifeP p))) ln1,.slice loo1 (List.length (Life.outs (lifeP p))) lod1,.slice lo1 (List.length (Life.till (lifeP p))) ld1] 143),(3,Option.map (fun x=>Go.Addr.block x) lnb1,Row (α:=Bool) 4 (sL p) (lnj1)),(4,some lx1,Row (α:=Int) 3 (Life.a (lifeP p)) ([])),(5,some ly1,Row (α:=Int) 3 (Life.b (lifeP p)) ([])),(6,some lz1,Row (α:=Int) 3 (Life.sets (lifeP p)) ([])),(7,Option.map (fun x=>Go.Addr.block x) loo1,Row (α:=Int) 3 (Life.outs (lifeP p)) (loj1)),(8,Option.map (fun x=>Go.Addr.block x) lo1,Row (α:=Int) 3 (Life.till (lifeP p)) (lj1)),(1,some b2,.cells #[.int .i64 0,.int .i64 0,.slice none 0 0,.slice none 0 0] 26),(0,some b1,.cells #[.int .i64 p.ins,.int .i64 p.regs,.slice ac p.code.length cc,.slice ao p.outs.length co] 26)])) (fun (s0,(a0,c0,j0))=>s0=zR p (lifeP p)∧OwnA a0 c0 s0.free j0) ?_ fun ⟨s0,(a0,c0,j0)⟩=>fun (hk:s0=zR p (lifeP p)∧OwnA a0 c0 s0.free j0)=>?_
 · refine dF ?_
   refine cX [0,1,8,7,6,5,4,3,2,12,11,10] [] T.mixed [[0],[1],[2],[3,2],[4],[5,0]] ?_
   refine fH (α:=Int) 6 T.sl24 ?_
   refine dN 7 [0,8] rfl (fG 8 0 T.one3 rfl rfl sF sE rfl rfl) ?_
   refine dE [[8]] ?_
   refine cZ ?_
   refine cO ?_
   refine cT (fun hc1=>?_) fun hc1=>?_
   refine cX [0,1,8,7,6,5,4,3,2,12,11,10] [(12,11),(11,11),(10,11)] T.mixed [[0],[1],[2,0],[3],[4],[5],[6,2],[7],[8,0]] ?_
   refine fH (α:=Int) 9 T.sl24 ?_
   refine dN 10 [0,8] rfl (fG 8 0 T.one3 rfl rfl sF sE rfl rfl) ?_
   refine bV 11 ?_
   refine bX 10 rfl (c82 _ s _ _ _ _ _ _ _ hoa sE) fun v2 G2 Ho2 hle2 hp=>?_
   obtain ⟨pa2,pc2,pj2,rfl,hpo2,rfl,rfl⟩:=hp
   refine eZ ?_
   rotate_left
   refine kC ?_
   rotate_left
   · refine mC ((La s p.ins ((lifeP p).till[p.ins.toNat]?.getD default),(pa2,pc2,pj2))) ?_
     exact ⟨by rw [hs,hve];exact (aF (by omega)).symm,hpo2⟩
   refine mC ((s,(a,c,j))) ?_
   exact ⟨by rw [hs,hve];exact (aD (by omega)).symm,hoa⟩
 obtain ⟨hs0,hoa0⟩:=hk
 have hl0:=Fb r1 (lifeP p)
 rw [←hs0] at hl0
 obtain ⟨hp0,hf1,hf2⟩:=hl0
 refine dF ?_
 refine cX [0,1,8,7,6,5,4,3,2,12,11,10] [] T.mixed [[0],[1,0],[2],[3,0],[4],[5],[6],[7,10],[8]] ?_
 refine dN 9 [] rfl (Qy.max rfl rfl) ?_
 refine dN 10 [] rfl (bO (cs:=[_,_,_,_]) T.st26 rfl rfl rfl) ?_
 refine bV 11 ?_
 refine aN 13 rfl T.zero26 fun b5=>?_
 refine cG 12 ?_
 refine aB 1 [13] ?_
 refine eZ ?_
 refine mD 11 [0] ?_
 refine pR 13 (.cells #[.int .i64 p.ins,.int .i64 (tD p 0).regs,.slice none 0 0,.slice none 0 0] 26) rfl (by rw [show (tD p 0).regs=(if p.ins<(s0.free.length:Int) then (s0.free.length:Int) else p.ins) from by show max p.ins ((zR p (lifeP p)).free.length:Int)=_;rw [←hs0];split <;> omega]) ?_
 refine dZ 14 (Row 91 ([]:List Sl.Instr) []) ?_
 refine gL (ι:=Nat×PkS×(Option Addr×Nat×List Value)×(Option Addr×Nat×List Value)) (fun (k,x,(oa,oc,oj),(a,c,j))=>([(79,.int .i64 (k:Int)),(78,.int .i64 (↑p.code.length:Int)),(77,.slice ac p.code.length cc),(8,.pointer (some (Addr.mk b5 0 none))),(6,.pointer (some (Addr.mk b4 0 none))),(4,.pointer (some (Addr.mk lu1 0 none))),(3,.int .i64 0),(2,.pointer (some ⟨b2,0,none⟩))],[(10,some b4,.cells #[.map (some b3),.slice a x.s.free.length c] 140),(11,some b3,mapObj x.s.at_),(12,a.map (·.block),Row 4 x.s.free j),(13,some b5,.cells #[.int .i64 p.ins,.int .i64 x.regs,.slice oa x.code.length oc,.slice none 0 0] 26),(14,oa.map (·.block),Row 91 x.code oj),(2,some lu1,.cells #[.int .i64 p.ins,.int .i64 p.regs,.slice ac p.code.length cc,.slice ao p.outs.length co,.slice lnb1 (List.length (sL p)) lnc1,.slice (some (Addr.mk lx1 0 none)) (List.length (Life.a (lifeP p))) ln1,.slice (some (Addr.mk ly1 0 none)) (List.length (Life.b (lifeP p))) ln1,.slice (some (Addr.mk lz1 0 none)) (List.length (Life.sets (lifeP p))) ln1,.slice loo1 (List.length (Life.outs (lifeP p))) lod1,.slice lo1 (List.length (Life.till (lifeP p))) ld1] 143),(3,Option.map (fun x=>Go.Addr.block x) lnb1,Row (α:=Bool) 4 (sL p) (lnj1)),(4,some lx1,Row (α:=Int) 3 (Life.a (lifeP p)) ([])),(5,some ly1,Row (α:=Int) 3 (Life.b (lifeP p)) ([])),(6,some lz1,Row (α:=Int) 3 (Life.sets (lifeP p)) ([])),(7,Option.map (fun x=>Go.Addr.block x) loo1,Row (α:=Int) 3 (Life.outs (lifeP p)) (loj1)),(8,Option.map (fun x=>Go.Addr.block x) lo1,Row (α:=Int) 3 (Life.till (lifeP p)) (lj1)),(1,some b2,.cells #[.int .i64 0,.int .i64 0,.slice none 0 0,.slice none 0 0] 26),(0,some b1,.cells #[.int .i64 p.ins,.int .i64 p.regs,.slice ac p.code.length cc,.slice ao p.outs.length co] 26)])) (fun (k,x,(oa,oc,oj),(a,c,j))=>k≤p.code.length∧x=tD p k∧OwnA oa oc x.code oj∧OwnA a c x.s.free j∧(∀ v:Int,(sO p k).till.length≤v→mget x.s.at_ v=none)) (fun (k,x,(oa,oc,oj),(a,c,j))=>p.code.length - k) ((0,⟨s0,(tD p 0).regs,[]⟩,(none,0,[]),(a0,c0,j0))) (⟨aM _,by rw [hs0];rfl,eD,hoa0,JB hs0 r1⟩) ⟨rfl,rfl,rfl,rfl,rfl,rfl,rfl,rfl,trivial⟩ ⟨rfl,rfl,rfl,rfl,rfl,rfl,rfl,rfl,rfl,rfl,rfl,rfl,rfl,rfl,trivial⟩ fun ⟨k,x,(oa,oc,oj),(a,c,j)⟩=>fun hk=>?_
 obtain ⟨hkc0,hx,hoc,hof,hkeys⟩:=hk
 have hxo:=FJ r1 k
 have hxl:=AP r1 k
 rw [←hx] at hxo hxl
 obtain ⟨hxl1,hxl2⟩:=hxl
 rcases aK k p.code.length with hkc | hkc
 · have hm:=wW hR hkc
   unfold xT at hm
   have hnl:(sL p).length=p.code.length:=AZ p
   have hvA:=k8 _ (get_mem (r:=(k:Int)) (l:=(lifeP p).a) sE)
   have hvB:=k9 _ (get_mem (r:=(k:Int)) (l:=(lifeP p).b) sE)
   refine aJ 14 [1] ?_
   refine fP (α:=Sl.Instr) T.sl23 ?_
   refine lB T.agg91 ?_
   refine aN 15 rfl T.zero91 fun b6=>?_
   refine aL 12 [15,2] ?_
   refine gX (α:=Bool) T.sl138 ?_
   refine mS 3 0 T.one4 ?_
   refine aZ 3 [] ?_
   refine kZ rfl (fun hc1=>?_) fun hc1=>?_
   refine bE 8 [] ?_
   rotate_left
   refine aJ 5 [15] ?_
   refine bX 16 rfl (HF _ _) fun v2 G2 Ho2 hle2 hp=>?_
   obtain ⟨ad2,cd2,junk2,rfl,hoa2,rfl,rfl⟩:=hp
   refine aZ 6 [] ?_
   refine cX [0,1,8,7,6,5,4,3,2,14,13,12,11,10,15,17] [(15,13)] T.mixed [[0],[1],[2],[3,10],[4],[5],[6],[7,2],[8]] ?_
   refine fH (α:=Int) 9 T.sl24 ?_
   refine dN 10 [0,4] rfl (fG 4 0 T.one3 rfl rfl sF sE rfl rfl) ?_
   refine dN 11 [11] rfl (kA 11 T.mp137 rfl rfl rfl) ?_
   refine dE [[12]] ?_
   refine bV 13 ?_
   refine aB 1 [15] ?_
   refine eZ ?_
   refine cO ?_
   rotate_left
   · have hn:¬Bb p k=true:=by unfold Bb;simpa using hc1
     refine cL ((k+1,x,(oa,oc,oj),(a,c,j))) ?_ ?_
     · refine ⟨hkc,by rw [hx];exact (aD hn).symm,hoc,hof,fun v hv=>hkeys v ?_⟩
       have e:sO p (k+1)=sO p k:=aD hn
       rw [e] at hv;exact hv
     show p.code.length - (k+1)<p.code.length - k
     omega
   have hn:Bb p k=true:=by unfold Bb;simpa using hc1
   refine oH (ι:=Int) (fun v=>([(4,.pointer (some ⟨lu1,0,none⟩)),(77,.slice ac p.code.length cc),(78,.int .i64 (p.code.length:Int)),(79,.int .i64 (k:Int)),(9,.int .i64 (↑k:Int)),(10,.pointer (some (Addr.mk b6 0 none))),(8,.pointer (some (Addr.mk b5 0 none))),(6,.pointer (some (Addr.mk b4 0 none))),(3,.int .i64 0),(2,.pointer (some ⟨b2,0,none⟩))],[(15,some b6,.cells #[.int .i64 (p.code[(k:Int).toNat]?.getD default).op,.int .i64 (p.code[(k:Int).toNat]?.getD default).to,.int .i64 (stand x.s ((lifeP p).a[(k:Int).toNat]?.getD default)),.int .i64 v,.int .i64 (p.code[(k:Int).toNat]?.getD default).c] 91),(17,Option.map (fun x=>Go.Addr.block x) ad2,Row (α:=Int) 3 (sS (Option.getD p.code[Int.toNat (↑k:Int)]? default)) (junk2)),(10,some b4,.cells #[Go.Value.map (some b3),.slice a (List.length (Pl.free (PkS.s x))) c] 140),(11,some b3,Go.Sl.mapObj (κ:=Int) (Pl.at_ (PkS.s x))),(12,Option.map (fun x=>Go.Addr.block x) a,Row (α:=Bool) 4 (Pl.free (PkS.s x)) (j)),(13,some b5,.cells #[.int .i64 p.ins,.int .i64 (PkS.regs x),.slice oa (List.length (PkS.code x)) oc,.slice none 0 0] 26),(14,Option.map (fun x=>Go.Addr.block x) oa,Row (α:=Go.Sl.Instr) 91 (PkS.code x) (oj)),(2,some lu1,.cells #[.int .i64 p.ins,.int .i64 p.regs,.slice ac p.code.length cc,.slice ao p.outs.length co,.slice lnb1 (List.length (sL p)) lnc1,.slice (some (Addr.mk lx1 0 none)) (List.length (Life.a (lifeP p))) ln1,.slice (some (Addr.mk ly1 0 none)) (List.length (Life.b (lifeP p))) ln1,.slice (some (Addr.mk lz1 0 none)) (List.length (Life.sets (lifeP p))) ln1,.slice loo1 (List.length (Life.outs (lifeP p))) lod1,.slice lo1 (List.length (Life.till (lifeP p))) ld1] 143),(3,Option.map (fun x=>Go.Addr.block x) lnb1,Row (α:=Bool) 4 (sL p) (lnj1)),(4,some lx1,Row (α:=Int) 3 (Life.a (lifeP p)) ([])),(5,some ly1,Row (α:=Int) 3 (Life.b (lifeP p)) ([])),(6,some lz1,Row (α:=Int) 3 (Life.sets (lifeP p)) ([])),(7,Option.map (fun x=>Go.Addr.block x) loo1,Row (α:=Int) 3 (Life.outs (lifeP p)) (loj1)),(8,Option.map (fun x=>Go.Addr.block x) lo1,Row (α:=Int) 3 (Life.till (lifeP p)) (lj1)),(1,some b2,.cells #[.int .i64 0,.int .i64 0,.slice none 0 0,.slice none 0 0] 26),(0,some b1,.cells #[.int .i64 p.ins,.int .i64 p.regs,.slice ac p.code.length cc,.slice ao p.outs.length co] 26)])) (fun v=>v=if 1<(sS (p.code[(k:Int).toNat]?.getD default)).length then stand x.s ((lifeP p).b[(k:Int).toNat]?.getD default) else (p.code[(k:Int).toNat]?.getD default).b) ?_ fun v=>fun (hk:v=if 1<(sS (p.code[(k:Int).toNat]?.getD default)).length then stand x.s ((lifeP p).b[(k:Int).toNat]?.getD default) else (p.code[(k:Int).toNat]?.getD default).b)=>?_
   · refine bJ 5 [] ?_
     refine cT (fun hc2=>?_) fun hc2=>?_
     refine cX [0,1,8,7,6,5,4,3,2,14,13,12,11,10,17,15] [(15,13)] T.mixed [[0],[1],[2],[3,10],[4],[5],[6],[7,2],[8]] ?_
     refine fH (α:=Int) 9 T.sl24 ?_
     refine dN 10 [0,5] rfl (fG 5 0 T.one3 rfl rfl sF sE rfl rfl) ?_
     refine dN 11 [11] rfl (kA 11 T.mp137 rfl rfl rfl) ?_
     refine dE [[12]] ?_
     refine bV 13 ?_
     refine aB 1 [15] ?_
     refine eZ ?_
     rotate_left
     refine kC ?_
     rotate_left
     · refine mC (stand x.s ((lifeP p).b[(k:Int).toNat]?.getD default)) ?_
       exact (aF (by omega)).symm
     refine mC ((p.code[(k:Int).toNat]?.getD default).b) ?_
     exact (aD (by omega)).symm
   have hv9:=hk
   refine bJ 2 [] ?_
   refine cX [0,1,8,7,6,5,4,3,2,14,13,12,11,10,17,15] [] T.mixed [[0],[1],[2],[3,2],[4]] ?_
   refine fH (α:=Int) 5 T.sl24 ?_
   refine dN 6 [0,4] rfl (fG 4 0 T.one3 rfl rfl sF sE rfl rfl) ?_
   refine dE [[7],[8],[9],[10,2],[11]] ?_
   refine fH (α:=Int) 12 T.sl24 ?_
   refine dN 13 [0,5] rfl (fG 5 0 T.one3 rfl rfl sF sE rfl rfl) ?_
   refine dN 14 [] rfl (Jr (cs:=[_,_]) T.ar145 rfl rfl rfl) ?_
   refine dE [[15]] ?_
   refine cZ ?_
   refine mD 2 [] ?_
   refine gY (ι:=Nat×Pl) (fun (m,s1)=>([(138,.int .i64 (m:Int)),(77,.slice ac p.code.length cc),(78,.int .i64 (p.code.length:Int)),(79,.int .i64 (k:Int)),(137,.agg #[.int .i64 (Option.getD (Life.a (lifeP p))[Int.toNat (↑k:Int)]? default),.int .i64 (Option.getD (Life.b (lifeP p))[Int.toNat (↑k:Int)]? default)]),(4,.pointer (some (Addr.mk lu1 0 none))),(9,.int .i64 (↑k:Int)),(10,.pointer (some (Addr.mk b6 0 none))),(8,.pointer (some (Addr.mk b5 0 none))),(6,.pointer (some (Addr.mk b4 0 none))),(3,.int .i64 0),(2,.pointer (some ⟨b2,0,none⟩))],[(10,some b4,.cells #[.map (some b3),.slice a s1.free.length c] 140),(11,some b3,mapObj s1.at_),(12,a.map (·.block),Row 4 s1.free j),(15,some b6,.cells #[.int .i64 (Instr.op (Option.getD p.code[Int.toNat (↑k:Int)]? default)),.int .i64 (Instr.to (Option.getD p.code[Int.toNat (↑k:Int)]? default)),.int .i64 (stand (PkS.s x) (Option.getD (Life.a (lifeP p))[Int.toNat (↑k:Int)]? default)),.int .i64 v,.int .i64 (Instr.c (Option.getD p.code[Int.toNat (↑k:Int)]? default))] 91),(17,Option.map (fun x=>Go.Addr.block x) ad2,Row (α:=Int) 3 (sS (Option.getD p.code[Int.toNat (↑k:Int)]? default)) (junk2)),(13,some b5,.cells #[.int .i64 p.ins,.int .i64 (PkS.regs x),.slice oa (List.length (PkS.code x)) oc,.slice none 0 0] 26),(14,Option.map (fun x=>Go.Addr.block x) oa,Row (α:=Go.Sl.Instr) 91 (PkS.code x) (oj)),(2,some lu1,.cells #[.int .i64 p.ins,.int .i64 p.regs,.slice ac p.code.length cc,.slice ao p.outs.length co,.slice lnb1 (List.length (sL p)) lnc1,.slice (some (Addr.mk lx1 0 none)) (List.length (Life.a (lifeP p))) ln1,.slice (some (Addr.mk ly1 0 none)) (List.length (Life.b (lifeP p))) ln1,.slice (some (Addr.mk lz1 0 none)) (List.length (Life.sets (lifeP p))) ln1,.slice loo1 (List.length (Life.outs (lifeP p))) lod1,.slice lo1 (List.length (Life.till (lifeP p))) ld1] 143),(3,Option.map (fun x=>Go.Addr.block x) lnb1,Row (α:=Bool) 4 (sL p) (lnj1)),(4,some lx1,Row (α:=Int) 3 (Life.a (lifeP p)) ([])),(5,some ly1,Row (α:=Int) 3 (Life.b (lifeP p)) ([])),(6,some lz1,Row (α:=Int) 3 (Life.sets (lifeP p)) ([])),(7,Option.map (fun x=>Go.Addr.block x) loo1,Row (α:=Int) 3 (Life.outs (lifeP p)) (loj1)),(8,Option.map (fun x=>Go.Addr.block x) lo1,Row (α:=Int) 3 (Life.till (lifeP p)) (lj1)),(1,some b2,.cells #[.int .i64 0,.int .i64 0,.slice none 0 0,.slice none 0 0] 26),(0,some b1,.cells #[.int .i64 p.ins,.int .i64 p.regs,.slice ac p.code.length cc,.slice ao p.outs.length co] 26)])) (fun (m,s1)=>m≤2∧s1=TX (lifeP p) k x.s m∧OwnA a c s1.free j) (fun (m,s1)=>2 - m) ((0,x.s)) (⟨aM _,rfl,hof⟩) fun ⟨m,s1⟩=>fun hk=>?_
   obtain ⟨hm2,hs1,hof1⟩:=hk
   by_cases hm0:m=0
   · subst hm0
     have hs1:s1=x.s:=hs1
     subst hs1
     have hst:=hxo.ab ((lifeP p).a[(k:Int).toNat]?.getD default)
     unfold stand at hst
     refine aJ 13 [1] ?_
     refine aO (Tt (i:=0) VP pk3 size3 rfl rfl sN rfl) ?_
     refine aL 10 [2] ?_
     refine gX (α:=Int) T.sl24 ?_
     refine mS 8 0 T.one3 ?_
     refine aZ 4 [] ?_
     refine cT (fun hc2=>?_) fun hc2=>?_
     refine cX [0,1,8,7,6,5,4,3,2,14,13,17,15,12,11,10] [(10,11),(12,11),(15,11),(17,11),(13,11),(14,11),(2,11),(3,11),(4,11),(5,11),(6,11),(7,11),(8,11),(1,11),(0,11)] T.mixed [[0],[1],[2],[3,10],[4],[5],[6],[7,10],[8]] ?_
     refine dN 9 [11] rfl (kA 11 T.mp137 rfl rfl rfl) ?_
     refine fH (α:=Bool) 10 T.sl138 ?_
     refine bV 11 ?_
     refine cU (z:=_) 12 T.size4 rfl rfl rfl sF sE rfl fun ho1=>?_
     refine eZ ?_
     refine dX 6 [] ?_
     rotate_left
     refine bE 7 [] ?_
     rotate_left
     · refine fY 10 (.cells #[.map (some b3),.slice a (x.s.free.set ((mget x.s.at_ ((lifeP p).a[(k:Int).toNat]?.getD default)).getD 0).toNat true).length c] 140) rfl Da ?_
       refine cL ((0+1,⟨x.s.at_,x.s.free.set ((mget x.s.at_ ((lifeP p).a[(k:Int).toNat]?.getD default)).getD 0).toNat true⟩)) ?_ ?_
       · refine ⟨by omega,?_,by assumption⟩
         exact (aF sF).symm
       exact pN 1
     refine cL ((0+1,x.s)) ?_ ?_
     · refine ⟨by omega,?_,hof1⟩
       exact (aD sF).symm
     exact pN 1
   by_cases hm1:m=1
   · subst hm1
     have hs1:s1=vC (lifeP p) k x.s ((lifeP p).a[(k:Int).toNat]?.getD default):=hs1
     have hst:=(Ad (l:=lifeP p) (k:=k) (v:=((lifeP p).a[(k:Int).toNat]?.getD default)) hxo).ab ((lifeP p).b[(k:Int).toNat]?.getD default)
     rw [←hs1] at hst
     unfold stand at hst
     refine aJ 13 [1] ?_
     refine aO (Tt (i:=1) VP pk3 size3 rfl rfl sN rfl) ?_
     refine aL 10 [2] ?_
     refine gX (α:=Int) T.sl24 ?_
     refine mS 8 0 T.one3 ?_
     refine aZ 4 [] ?_
     refine cT (fun hc2=>?_) fun hc2=>?_
     refine cX [0,1,8,7,6,5,4,3,2,14,13,17,15,12,11,10] [(10,11),(12,11),(15,11),(17,11),(13,11),(14,11),(2,11),(3,11),(4,11),(5,11),(6,11),(7,11),(8,11),(1,11),(0,11)] T.mixed [[0],[1],[2],[3,10],[4],[5],[6],[7,10],[8]] ?_
     refine dN 9 [11] rfl (kA 11 T.mp137 rfl rfl rfl) ?_
     refine fH (α:=Bool) 10 T.sl138 ?_
     refine bV 11 ?_
     refine cU (z:=_) 12 T.size4 rfl rfl rfl sF sE rfl fun ho1=>?_
     refine eZ ?_
     refine dX 6 [] ?_
     rotate_left
     refine bE 7 [] ?_
     rotate_left
     · refine fY 10 (.cells #[.map (some b3),.slice a (s1.free.set ((mget s1.at_ ((lifeP p).b[(k:Int).toNat]?.getD default)).getD 0).toNat true).length c] 140) rfl Da ?_
       refine cL ((1+1,⟨s1.at_,s1.free.set ((mget s1.at_ ((lifeP p).b[(k:Int).toNat]?.getD default)).getD 0).toNat true⟩)) ?_ ?_
       · refine ⟨by omega,?_,by assumption⟩
         show _=vC (lifeP p) k (vC (lifeP p) k x.s ((lifeP p).a[(k:Int).toNat]?.getD default)) ((lifeP p).b[(k:Int).toNat]?.getD default)
         rw [←hs1]
         exact (aF sF).symm
       exact pN 0
     refine cL ((1+1,s1)) ?_ ?_
     · refine ⟨by omega,?_,hof1⟩
       show _=vC (lifeP p) k (vC (lifeP p) k x.s ((lifeP p).a[(k:Int).toNat]?.getD default)) ((lifeP p).b[(k:Int).toNat]?.getD default)
       rw [←hs1]
       exact (aD sF).symm
     exact pN 0
   have hm3:m=2:=sE
   subst hm3
   have hs1:s1=vC (lifeP p) k (vC (lifeP p) k x.s ((lifeP p).a[(k:Int).toNat]?.getD default)) ((lifeP p).b[(k:Int).toNat]?.getD default):=hs1
   have hs1l:s1.free.length=x.s.free.length:=by rw [hs1,vZ,vZ]
   have hsets:(lifeP p).sets[(k:Int).toNat]?.getD default=(sO p k).till.length:=JA hR hkc hn
   have hm9:mget s1.at_ ((lifeP p).sets[(k:Int).toNat]?.getD default)=none:=by
    rw [hs1,Ch,Ch,hsets];exact hkeys _ (kP _)
   have hle:=zL s1.free
   refine aJ 20 [0,2] ?_
   refine gX (α:=Int) T.sl24 ?_
   refine mS 6 0 T.one3 ?_
   refine bX 10 rfl (c84 _ s1 _ _ _ _ _ _ hof1 sE hm9) fun v3 G3 Ho3 hle3 hp=>?_
   obtain ⟨pa3,pc3,pj3,rfl,hpo3,rfl,rfl⟩:=hp
   refine aL 9 [15,13,15] ?_
   refine dY (α:=Sl.Instr) 18 [⟨Go.Sl.Instr.op (Option.getD p.code[Int.toNat (↑k:Int)]? Inhabited.default),(↑(Go.Proofs.YtfdcckcadfhpeaaGreatDoor.least (Go.Proofs.YtfdcckcadfhpeaaGreatDoor.Pl.free s1)):Int),Go.Proofs.YtfdcckcadfhpeaaGreatDoor.stand (Go.Proofs.YtfdcckcadfhpeaaGreatDoor.PkS.s x) (Option.getD (Go.Proofs.YtfdcckcadfhpeaaGreatDoor.Life.a (Go.Proofs.YtfdcckcadfhpeaaGreatDoor.lifeP p))[Int.toNat (↑k:Int)]? Inhabited.default),v,Go.Sl.Instr.c (Option.getD p.code[Int.toNat (↑k:Int)]? Inhabited.default)⟩] rfl T.sl23 T.el91 rfl rfl rfl rfl rfl fun b7=>?_
   refine jS (α:=Sl.Instr) 14 T.sl23 T.el91 (fE 18 rfl) fun a1 c1 junk1 ho1=>?_
   refine aL 10 [13,13,15] ?_
   refine aO (Qy.max rfl rfl) ?_
   refine aR 9 [13] ?_
   have hst9:Hd (lifeP p) x k (p.code[(k:Int).toNat]?.getD default)=⟨wD s1 ((lifeP p).sets[(k:Int).toNat]?.getD default),max x.regs ((least s1.free:Int)+1),x.code++[⟨(p.code[(k:Int).toNat]?.getD default).op,(least s1.free:Int),stand x.s ((lifeP p).a[(k:Int).toNat]?.getD default),v,(p.code[(k:Int).toNat]?.getD default).c⟩]⟩:=by
    unfold Hd;simp only;rw [←hs1,←hv9]
   refine fY 13 (.cells #[.int .i64 p.ins,.int .i64 (max x.regs ((least s1.free:Int)+1)),.slice a1 (x.code++[(⟨(p.code[(k:Int).toNat]?.getD default).op,(least s1.free:Int),stand x.s ((lifeP p).a[(k:Int).toNat]?.getD default),v,(p.code[(k:Int).toNat]?.getD default).c⟩:Sl.Instr)]).length c1,.slice none 0 0] 26) rfl (by rw [show max x.regs ((least s1.free:Int)+1)=(if x.regs<(least s1.free:Int)+1 then (least s1.free:Int)+1 else x.regs) from Rn];rfl) ?_
   refine cL ((k+1,⟨wD s1 ((lifeP p).sets[(k:Int).toNat]?.getD default),max x.regs ((least s1.free:Int)+1),x.code++[⟨(p.code[(k:Int).toNat]?.getD default).op,(least s1.free:Int),stand x.s ((lifeP p).a[(k:Int).toNat]?.getD default),v,(p.code[(k:Int).toNat]?.getD default).c⟩]⟩,(a1,c1,junk1),(pa3,pc3,pj3))) ?_ ?_
   · refine ⟨hkc,?_,by assumption,hpo3,fun w hw=>?_⟩
     · show _=(if Bb p k=true then Hd (lifeP p) (tD p k) k (xT p k) else tD p k)
       rw [aF hn,←hx];exact hst9.symm
     have e:(sO p (k+1)).till.length=(sO p k).till.length+1:=by
      show (if Bb p k=true then uK (sO p k) k (xT p k) else sO p k).till.length=_
      rw [aF hn];exact Bn _ _ _
     rw [e] at hw
     show mget (Bt s1.at_ ((lifeP p).sets[(k:Int).toNat]?.getD default) _) w=none
     rw [wX,aD (by rw [hsets];omega),hs1,Ch,Ch]
     exact hkeys w sE
   show p.code.length - (k+1)<p.code.length - k
   omega
 have hke:k=p.code.length:=qF hkc0 hkc
 subst hke
 have hlo:=Qc p
 refine bJ 24 [0,2] ?_
 refine dZ 20 (Row 3 ([]:List Int) []) ?_
 refine gL (ι:=Nat×List Int×(Option Addr×Nat×List Value)) (fun (q,ol,(oo,od,ok))=>([(191,.int .i64 (q:Int)),(190,.int .i64 (↑(List.length (Life.outs (lifeP p))):Int)),(189,.slice loo1 (List.length (Life.outs (lifeP p))) lod1),(8,.pointer (some (Addr.mk b5 0 none))),(6,.pointer (some (Addr.mk b4 0 none))),(3,.int .i64 0),(2,.pointer (some ⟨b2,0,none⟩))],[(13,some b5,.cells #[.int .i64 p.ins,.int .i64 x.regs,.slice oa x.code.length oc,.slice oo ol.length od] 26),(20,oo.map (·.block),Row 3 ol ok),(10,some b4,.cells #[Go.Value.map (some b3),.slice a (List.length (Pl.free (PkS.s x))) c] 140),(11,some b3,Go.Sl.mapObj (κ:=Int) (Pl.at_ (PkS.s x))),(12,Option.map (fun x=>Go.Addr.block x) a,Row (α:=Bool) 4 (Pl.free (PkS.s x)) (j)),(14,Option.map (fun x=>Go.Addr.block x) oa,Row (α:=Go.Sl.Instr) 91 (PkS.code x) (oj)),(2,some lu1,.cells #[.int .i64 p.ins,.int .i64 p.regs,.slice ac p.code.length cc,.slice ao p.outs.length co,.slice lnb1 (List.length (sL p)) lnc1,.slice (some (Addr.mk lx1 0 none)) (List.length (Life.a (lifeP p))) ln1,.slice (some (Addr.mk ly1 0 none)) (List.length (Life.b (lifeP p))) ln1,.slice (some (Addr.mk lz1 0 none)) (List.length (Life.sets (lifeP p))) ln1,.slice loo1 (List.length (Life.outs (lifeP p))) lod1,.slice lo1 (List.length (Life.till (lifeP p))) ld1] 143),(3,Option.map (fun x=>Go.Addr.block x) lnb1,Row (α:=Bool) 4 (sL p) (lnj1)),(4,some lx1,Row (α:=Int) 3 (Life.a (lifeP p)) ([])),(5,some ly1,Row (α:=Int) 3 (Life.b (lifeP p)) ([])),(6,some lz1,Row (α:=Int) 3 (Life.sets (lifeP p)) ([])),(7,Option.map (fun x=>Go.Addr.block x) loo1,Row (α:=Int) 3 (Life.outs (lifeP p)) (loj1)),(8,Option.map (fun x=>Go.Addr.block x) lo1,Row (α:=Int) 3 (Life.till (lifeP p)) (lj1)),(1,some b2,.cells #[.int .i64 0,.int .i64 0,.slice none 0 0,.slice none 0 0] 26),(0,some b1,.cells #[.int .i64 p.ins,.int .i64 p.regs,.slice ac p.code.length cc,.slice ao p.outs.length co] 26)])) (fun (q,ol,(oo,od,ok))=>q≤p.outs.length∧ol=((lifeP p).outs.map (stand x.s)).take q∧OwnA oo od ol ok) (fun (q,ol,(oo,od,ok))=>p.outs.length - q) ((0,[],(none,0,[]))) (⟨aM _,by rw [cM],eD⟩) ⟨rfl,rfl,rfl,rfl,rfl,rfl,rfl,trivial⟩ ⟨rfl,rfl,rfl,rfl,rfl,rfl,rfl,rfl,rfl,rfl,rfl,rfl,rfl,rfl,rfl,trivial⟩ fun ⟨q,ol,(oo,od,ok)⟩=>fun hk=>?_
 obtain ⟨hq1,hol,hoo⟩:=hk
 have hoq:ol.length=q:=by rw [hol,bG,aP];omega
 rcases aK q p.outs.length with hqc | hqc
 · refine aJ 13 [1] ?_
   refine gX (α:=Int) T.sl24 ?_
   refine mS 7 0 T.one3 ?_
   refine aZ 3 [] ?_
   refine cX [0,1,8,7,6,5,4,3,2,14,12,11,10,20,13] [(13,11),(20,9),(12,9),(14,9),(3,9),(4,9),(5,9),(6,9),(7,9),(8,9)] T.mixed [[0],[1,13],[2],[3],[4],[5,10],[6]] ?_
   refine dN 7 [11] rfl (kA 11 T.mp137 rfl rfl rfl) ?_
   refine bV 8 ?_
   refine dY (α:=Int) 21 [(Option.getD (Go.Sl.mget (Go.Proofs.YtfdcckcadfhpeaaGreatDoor.Pl.at_ (Go.Proofs.YtfdcckcadfhpeaaGreatDoor.PkS.s x)) (Option.getD (Go.Proofs.YtfdcckcadfhpeaaGreatDoor.Life.outs (Go.Proofs.YtfdcckcadfhpeaaGreatDoor.lifeP p))[Int.toNat (↑q:Int)]? Inhabited.default)) 0)] rfl T.sl24 T.el3 rfl rfl rfl rfl rfl fun b6=>?_
   refine cG 9 ?_
   refine jS (α:=Int) 20 T.sl24 T.el3 (fE 21 rfl) fun a1 c1 junk1 ho1=>?_
   refine bD ?_
   refine dE [[10]] ?_
   refine bV 11 ?_
   refine aB 1 [13] ?_
   refine eZ ?_
   refine dX 6 [] ?_
   refine cL ((q+1,ol++[stand x.s ((lifeP p).outs[(q:Int).toNat]?.getD default)],(a1,c1,junk1))) ?_ ?_
   · exact ⟨hqc,by rw [Rh sE,hol],by assumption⟩
   show p.outs.length - (q+1)<p.outs.length - q
   omega
 have hqe:q=p.outs.length:=qF hq1 hqc
 subst hqe
 rw [dL Lk] at hol
 subst hol hx
 refine bE 20 [0,13,1] ?_
 refine Ar.retag 1 30 rfl rfl (Ar.retag 14 0 rfl rfl (Ar.retag 20 1 rfl rfl ?_))
 refine fS (.inr rfl) (Ho:=Hp.only _ [0,1]) rfl (.agg 30 rfl rfl T.agg26) (.tmp rfl) (aT _ _) ?_
 exact ⟨oa,oo,oc,od,oj,ok,rfl,hoc,hoo,rfl,rfl⟩
end
def jf (ls:List (List Int)):Prop:=∀ z∈ls,z.length=(ls[0]?.getD []).length∧z.length≤20
instance (ls:List (List Int)):Decidable (jf ls):=by unfold jf;infer_instance
section
attribute [local irreducible] Me pw tY p2 xG tK sQ sH jf
end
theorem jg (G:Imm) (a:Option Addr) (c:Nat) (xs:List Sl.Instr) (hx:Arr G a xs) (hl:xs.length≤1099511627776) :
 Does Tryz.prog 52 [.slice a xs.length c] G [] (fun v G' Ho=>∃ b d j,v=.slice b xs.length d∧OwnA b d xs j∧Ho=[(0,b.map (·.block),Row 91 xs j)]∧G'=G):=by
 refine D0 Tryz.func52 Tryz.ntmps52 fun w=>?_
 refine aJ 9 [] ?_
 refine aO (jI T.sl23 rfl rfl) ?_
 refine aZ 2 [] ?_
 refine cT (fun hc1=>?_) fun hc1=>?_
 refine bE 7 [] ?_
 rotate_left
 refine aJ 4 [] ?_
 refine rA 0 rfl T.sl23 fun b1=>?_
 refine aB 1 [] ?_
 rotate_left
 · subst hc1
   have hn:xs=[]:=by
    rcases hx.2 with h | ⟨b,o,h,_⟩
    · exact dT h
    cases h
   subst hn
   refine Ju 0 (Row 91 ([]:List Sl.Instr) []) ?_
   refine mB [0] ?_
   exact ⟨none,0,[],rfl,eD,rfl,rfl⟩
 refine nU 0 (Row 91 ([]:List Sl.Instr) []) rfl rfl ?_
 refine gM (α:=Sl.Instr) 0 rfl T.sl23 T.el91 rfl rfl rfl (fM tR) (lC sF) (by simp only [cH];omega) (by simp only [cH,maxLen];omega) fun a1 c1 junk1 ho1=>?_
 refine aR 4 [] ?_
 refine mB [0] ?_
 exact ⟨_,_,_,rfl,ho1,rfl,rfl⟩
theorem c94 (G:Imm) (p:PV) (ac ao:Option Addr) (cc co:Nat) (hc:Arr G ac p.code) (ho:Arr G ao p.outs) (h1:p.code.length≤1099511627776) (h2:p.outs.length≤1099511627776) :
 Does Tryz.prog 94 [.agg #[.int .i64 p.ins,.int .i64 p.regs,.slice ac p.code.length cc,.slice ao p.outs.length co]] G [] (fun v G' Ho=>∃ bc bo dc do_ j1 j2,v=.agg #[.int .i64 p.ins,.int .i64 p.regs,.slice bc p.code.length dc,.slice bo p.outs.length do_]∧
  OwnA bc dc p.code j1∧OwnA bo do_ p.outs j2∧Ho=[(0,bc.map (·.block),Row 91 p.code j1),(1,bo.map (·.block),Row 3 p.outs j2)]∧G'=G):=by
 refine D0 Tryz.func94 Tryz.ntmps94 fun w=>?_
 refine aJ 2 [] ?_
 refine dQ 0 fun b1=>?_
 refine aN 1 rfl T.zero26 fun b2=>?_
 refine aZ 3 [] ?_
 refine cX [0,1] [(0,9),(0,7)] T.mixed [[0],[1,0],[3],[4,0]] ?_
 refine bV 2 ?_
 refine bX 2 rfl (jg _ _ _ _ sF sE) fun v1 G1 Ho1 hle1 hp=>?_
 obtain ⟨lb1,ld1,lj1,rfl,hlb1,rfl,rfl⟩:=hp
 refine bD ?_
 refine dE [[6]] ?_
 refine bV 5 ?_
 refine bX 3 rfl (XJ _ _ _ _ sF sE) fun v2 G2 Ho2 hle2 hp=>?_
 obtain ⟨lb2,ld2,lj2,rfl,hlb2,rfl,rfl⟩:=hp
 refine cG 7 ?_
 refine aB 1 [0] ?_
 refine bD ?_
 refine dE [[8]] ?_
 refine bV 9 ?_
 refine aB 1 [0] ?_
 refine eZ ?_
 refine dX 8 [0,1] ?_
 refine lY [2,3,1] sN (cK (.inr rfl) (Ho:=Hp.only _ [0,1]) rfl (.agg 2 rfl rfl T.agg26) (aT _ _) ?_)
 exact ⟨_,_,_,_,_,_,rfl,hlb1,hlb2,rfl,rfl⟩
theorem c45 (G:Imm) (p:PV) (ac ao:Option Addr) (cc co:Nat) :
 Does Tryz.prog 45 [.agg #[.int .i64 p.ins,.int .i64 p.regs,.slice ac p.code.length cc,.slice ao p.outs.length co]] G [] (fun v G' Ho =>
  ∃ b,v=.func (.func 93) #[] #[.pointer (some ⟨b,0,none⟩)]∧Ho=[]∧G' b=some (.cells [.int .i64 p.ins,.int .i64 p.regs,.slice ac p.code.length cc,.slice ao p.outs.length co].toArray 26)):=by
 refine D0 Tryz.func45 Tryz.ntmps45 fun w=>?_
 refine aJ 2 [] ?_
 refine dQ 0 fun b1=>?_
 refine aL 5 [] ?_
 refine aO (gT rfl rfl) ?_
 refine aR 4 [] ?_
 refine rD 0 rfl fun G' hle hb=>?_
 refine cP ?_
 exact ⟨_,rfl,rfl,hb⟩
def Ql (G:Imm) (f:Nat) (p:PV) (ac ao:Option Addr) (cc co:Nat) (q:PV):Prop:=
 Does Tryz.prog f [.agg #[.int .i64 p.ins,.int .i64 p.regs,.slice ac p.code.length cc,.slice ao p.outs.length co]] G [] (fun v G' Ho =>
  ∃ bc bo dc do_,v=.tuple #[.agg #[.int .i64 q.ins,.int .i64 q.regs,.slice bc q.code.length dc,.slice bo q.outs.length do_],.int .i64 0]∧Arr G' bc q.code∧Arr G' bo q.outs∧Ho=[])
theorem Lg {G:Imm} {f:Nat} {p:PV} {ac ao:Option Addr} {cc co:Nat} {q:PV} (h:Does Tryz.prog f [.agg #[.int .i64 p.ins,.int .i64 p.regs,.slice ac p.code.length cc,.slice ao p.outs.length co]] G [] (fun v G' Ho =>
 ∃ bc bo dc do_ j1 j2,v=.tuple #[.agg #[.int .i64 q.ins,.int .i64 q.regs,.slice bc q.code.length dc,.slice bo q.outs.length do_],.int .i64 0]∧
  OwnA bc dc q.code j1∧OwnA bo do_ q.outs j2∧Ho=[(0,bc.map (·.block),Row 91 q.code j1),(1,bo.map (·.block),Row 3 q.outs j2)]∧G'=G)):Ql G f p ac ao cc co q:=by
 refine (Rv (α:=Sl.Instr) (β:=Int) (E:=91) (E':=3) (q:=fun v a c xs b d ys=>v=.tuple #[.agg #[.int .i64 q.ins,.int .i64 q.regs,.slice a q.code.length c,.slice b q.outs.length d],.int .i64 0]∧xs=q.code∧ys=q.outs)
  (h.mono fun v G' Ho _ ⟨bc,bo,dc,do_,j1,j2,g1,g2,g3,g4,g5⟩=>⟨bc,dc,q.code,j1,bo,do_,q.outs,j2,⟨g1,rfl,rfl⟩,g2,g3,g4,g5⟩)).mono
  fun v G' Ho _ ⟨a,c,xs,b,d,ys,⟨g1,hx,hy⟩,h2,h3,h4⟩=>?_
 subst hx hy
 exact ⟨a,b,c,d,g1,h2,h3,h4⟩
theorem jh (G:Imm) (hT:TabOk G) (p:PV) (ac ao:Option Addr) (cc co:Nat) (hc:Arr G ac p.code) (ho:Arr G ao p.outs) (hR:sH p=true):Ql G 47 p ac ao cc co (zI p):=by
 obtain ⟨f1,f2,f3,f4,f5,f6,f7,f8⟩:=sK hR
 exact Lg (iu G hT p ac ao cc co hc ho sE sE hR)
theorem jl (G:Imm) (p:PV) (ac ao:Option Addr) (cc co:Nat) (hc:Arr G ac p.code) (ho:Arr G ao p.outs) (hR:sH p=true):Ql G 48 p ac ao cc co (xG p):=by
 obtain ⟨f1,f2,f3,f4,f5,f6,f7,f8⟩:=sK hR
 exact Lg (iv G p ac ao cc co hc ho sE sE hR)
theorem jm (G:Imm) (p:PV) (ac ao:Option Addr) (cc co:Nat) (hc:Arr G ac p.code) (ho:Arr G ao p.outs) (hR:sH p=true):Ql G 49 p ac ao cc co (zS p):=by
 obtain ⟨f1,f2,f3,f4,f5,f6,f7,f8⟩:=sK hR
 exact Lg (jc G p ac ao cc co hc ho sE sE hR)
theorem PE (p:PV) (k:Nat):vT p (k+1)=uW k (vT p k):=rfl
section
attribute [local irreducible] tF zI xG zS tA vT uS xL Cj sH uD
structure RP where
 name:ByteArray
 fn:Nat
instance:Inhabited RP:=⟨⟨ByteArray.empty,0⟩⟩
instance:Cells RP:=⟨2,fun x=>[.string x.name,.func (.func x.fn) #[] #[]],fun _=>rfl,fun _=>rfl⟩
structure PA where
 a:Option Addr
 b:Option Addr
 c:Nat
 d:Nat
 j:List Value
 k:List Value
def jn (x:NP) (y:PA):List Value:=[.string x.name,.agg #[.int .i64 x.p.ins,.int .i64 x.p.regs,.slice y.a x.p.code.length y.c,.slice y.b x.p.outs.length y.d]]
def jq (x:NP) (y:PA):Option Nat×Obj:=(y.a.map (·.block),Row 91 x.p.code y.j)
def jr (x:NP) (y:PA):Option Nat×Obj:=(y.b.map (·.block),Row 3 x.p.outs y.k)
def be (x:NP) (y:PA):Prop:=OwnA y.a y.c x.p.code y.j∧OwnA y.b y.d x.p.outs y.k
theorem js (G:Imm) (p:PV) (ac ao:Option Addr) (cc co:Nat) (hc:Arr G ac p.code) (ho:Arr G ao p.outs) (h1:p.code.length≤1099511627776) (h2:p.outs.length≤1099511627776) :
 Does Tryz.prog 94 [.agg #[.int .i64 p.ins,.int .i64 p.regs,.slice ac p.code.length cc,.slice ao p.outs.length co]] G [] (fun v G' Ho=>∃ bc bo dc do_,v=.agg #[.int .i64 p.ins,.int .i64 p.regs,.slice bc p.code.length dc,.slice bo p.outs.length do_]∧
  Arr G' bc p.code∧Arr G' bo p.outs∧Ho=[]):=by
 refine (Rv (α:=Sl.Instr) (β:=Int) (E:=91) (E':=3) (q:=fun v a c xs b d ys=>v=.agg #[.int .i64 p.ins,.int .i64 p.regs,.slice a p.code.length c,.slice b p.outs.length d]∧xs=p.code∧ys=p.outs)
  ((c94 G p ac ao cc co hc ho h1 h2).mono fun v G' Ho _ ⟨bc,bo,dc,do_,j1,j2,g1,g2,g3,g4,g5⟩=>⟨bc,dc,p.code,j1,bo,do_,p.outs,j2,⟨g1,rfl,rfl⟩,g2,g3,g4,g5⟩)).mono
  fun v G' Ho _ ⟨a,c,xs,b,d,ys,⟨g1,hx,hy⟩,h2,h3,h4⟩=>?_
 subst hx hy
 exact ⟨a,b,c,d,g1,h2,h3,h4⟩
theorem PG (G:Imm) (p:PV) (ac ao:Option Addr) (cc co:Nat) (hc:Arr G ac p.code) (ho:Arr G ao p.outs) (h1:p.code.length≤1099511627776) (h2:p.outs.length≤1099511627776) (hR:sH p=true) :
 Does Tryz.prog 56 [.agg #[.int .i64 p.ins,.int .i64 p.regs,.slice ac p.code.length cc,.slice ao p.outs.length co]] G [] (fun v G' Ho=>v=.tuple #[.int .i64 (uD p).1,.int .i64 0]∧G'=G∧Ho=[]):=Va G p ac ao cc co hc ho h1 h2 hR
def BK:List RP:=[{ name:={ data:=#[102,111,108,100] },fn:=47 },{ name:={ data:=#[115,104,97,114,101] },fn:=48 },{ name:={ data:=#[100,101,97,100] },fn:=49 }]
theorem FS:[({ name:={ data:=#[102,111,108,100] },fn:=47 }:RP),{ name:={ data:=#[115,104,97,114,101] },fn:=48 },{ name:={ data:=#[100,101,97,100] },fn:=49 }]=BK:=rfl
theorem TY:BK.length=3:=rfl
theorem PI {m k:Nat} (hm:m<3) (hk:k % 3=m):(BK[((m:Nat):Int).toNat]?.getD default).name=Wn k:=by
 rcases (show m=0∨m=1∨m=2 by omega) with rfl | rfl | rfl
 · unfold Wn;rw [aF hk];rfl
 · unfold Wn;rw [aD (by omega),aF hk];rfl
 unfold Wn;rw [aD (by omega),aD (by omega)];rfl
theorem XO {m:Nat} (hm:m<3):tH Tryz.prog (BK[((m:Nat):Int).toNat]?.getD default).fn:=by
 rcases (show m=0∨m=1∨m=2 by omega) with rfl | rfl | rfl
 · exact T.fn47
 · exact T.fn48
 exact T.fn49
theorem PJ {G:Imm} (hT:TabOk G) {m k:Nat} (hm:m<3) (hk:k % 3=m) {p:PV} {ac ao:Option Addr} {cc co:Nat} (hc:Arr G ac p.code) (ho:Arr G ao p.outs) (hR:sH p=true) :
 Ql G (BK[((m:Nat):Int).toNat]?.getD default).fn p ac ao cc co (uW k p):=by
 rcases (show m=0∨m=1∨m=2 by omega) with rfl | rfl | rfl
 · unfold uW;rw [aF hk];exact jh G hT p ac ao cc co hc ho hR
 · unfold uW;rw [aD (by omega),aF hk];exact jl G p ac ao cc co hc ho hR
 unfold uW;rw [aD (by omega),aD (by omega)];exact jm G p ac ao cc co hc ho hR
attribute [local irreducible] BK uW Wn
def zOk (G:Imm) (p z:PV) (k:Nat) (a1 a2:Option Addr):Prop:=z=vT p k∧Arr G a1 z.code∧Arr G a2 z.outs
theorem bg (G:Imm) (hT:TabOk G) (p:PV) (ac ao:Option Addr) (cc co:Nat) (b:Nat) (hc:Arr G ac p.code) (ho:Arr G ao p.outs)
 (hb:G b=some (.cells [.int .i64 p.ins,.int .i64 p.regs,.slice ac p.code.length cc,.slice ao p.outs.length co].toArray 26)) (hR:sH p=true) :
 Tc Tryz.prog 93 [.pointer (some ⟨b,0,none⟩)] G jn jq jr be (uS p):=by
 intro ι J inv stop ly i0 hi0 hY
 obtain ⟨r1,r2,r3,r4,r5,r6,r7,r8⟩:=sK hR
 have hrow:=FD hb
 refine D0 Tryz.func93 Tryz.ntmps93 fun w=>?_
 refine Mi 1000 ?_
 refine aJ 3 [] ?_
 refine aO (gZ T.agg26 rfl sF rfl) ?_
 refine cI rfl (PG _ p _ _ _ _ sF sF sE sE hR) ?_
 refine aL 18 [0] ?_
 refine aO (gZ T.agg26 rfl sF rfl) ?_
 refine bX 0 rfl (js _ p _ _ _ _ sF sF sE sE) fun v1 G1 Ho1 hle1 hp=>?_
 obtain ⟨na,no,nc,nd,rfl,hnc,hno,rfl⟩:=hp
 replace hc:=hc.up hle1
 replace ho:=ho.up hle1
 refine aN 0 rfl T.zero26 fun b1=>?_
 refine aL 5 [0] ?_
 refine aO (bO (cs:=[_,_]) T.st158 rfl rfl rfl) ?_
 refine aO (bO (cs:=[_,_]) T.st158 rfl rfl rfl) ?_
 refine aO (bO (cs:=[_,_]) T.st158 rfl rfl rfl) ?_
 refine dY (α:=RP) 1 [⟨_,_⟩,⟨_,_⟩,⟨_,_⟩] rfl T.sl159 T.el158 rfl rfl rfl rfl rfl fun b2=>?_
 refine aZ 10 [] ?_
 refine pR 1 (Row 158 BK []) rfl (by rw [FS]) ?_
 refine iI 6 rfl (show _=Value.slice (some ⟨b2,0,none⟩) BK.length 3 by rw [←FS]) ?_
 have hr3:=TY
 refine Tb (ι:=Nat×Imm×PV×(Option Addr×Nat×Option Addr×Nat)×ι) 1000 (fun (n,Gx,z,(a1,c1,a2,c2),s)=>([(23,.int .i64 (n:Int)),(6,.slice (some (Addr.mk b2 0 none)) (List.length BK) 3),(5,.pointer (some ⟨b1,0,none⟩)),(0,.func (Go.Fn.yield ly) #[] #[])],[(0,some b1,.cells #[.int .i64 z.ins,.int .i64 z.regs,.slice a1 z.code.length c1,.slice a2 z.outs.length c2] 26),(1,some b2,Row (α:=RP) 158 (BK) ([]))])) (fun (n,Gx,z,(a1,c1,a2,c2),s)=>J s) (fun (n,Gx,z,(a1,c1,a2,c2),s)=>Gx) (fun (n,Gx,z,(a1,c1,a2,c2),s)=>n≤xL p+1∧(n=xL p+1→xL p=15)∧G.le Gx∧zOk Gx p z (3*n) a1 a2∧inv (3*n) s) (fun (n,Gx,z,(a1,c1,a2,c2),s)=>17 - n) ((0,G1,p,(na,nc,no,nd),i0)) (⟨aM _,fun h=>absurd h sE,hle1,⟨by rw [Nat.mul_zero];unfold vT;rfl,hnc,hno⟩,hi0⟩) rfl ⟨rfl,rfl,rfl,rfl,trivial⟩ ⟨rfl,rfl,trivial⟩ yY fun ⟨n,Gx,z,(a1,c1,a2,c2),s⟩=>fun hk=>?_
 obtain ⟨hn1,hn2,hn3,hz,hinv⟩:=hk
 have h15:=FR p
 have hlen:Cj p=3*xL p+3:=by unfold Cj;rfl
 have hRz:sH z=true:=by rw [hz.1];exact xA hR _
 obtain ⟨z1,z2,z3,z4,z5,z6,z7,z8⟩:=sK hRz
 obtain ⟨hz0,hzc,hzo⟩:=hz
 rcases aK n 16 with hn16 | hn16
 · have hnl:n≤xL p:=sE
   refine aJ 14 [1,0] ?_
   refine aN 2 rfl T.zero26 fun b3=>?_
   refine aZ 12 [2] ?_
   refine Tb (ι:=Nat×Imm×PV×(Option Addr×Nat×Option Addr×Nat)×ι) 1000 (fun (m,Gy,y,(d1,e1,d2,e2),s)=>([(28,.int .i64 (m:Int)),(6,.slice (some ⟨b2,0,none⟩) BK.length 3),(27,.int .i64 (BK.length:Int)),(26,.slice (some (Addr.mk b2 0 none)) (List.length BK) 3),(7,.pointer (some (Addr.mk b3 0 none))),(23,.int .i64 (↑n:Int)),(5,.pointer (some ⟨b1,0,none⟩)),(0,.func (Go.Fn.yield ly) #[] #[])],[(0,some b1,.cells #[.int .i64 y.ins,.int .i64 y.regs,.slice d1 y.code.length e1,.slice d2 y.outs.length e2] 26),(2,some b3,.cells #[.int .i64 z.ins,.int .i64 z.regs,.slice a1 z.code.length c1,.slice a2 z.outs.length c2] 26),(1,some b2,Row (α:=RP) 158 (BK) ([]))])) (fun (m,Gy,y,(d1,e1,d2,e2),s)=>J s) (fun (m,Gy,y,(d1,e1,d2,e2),s)=>Gy) (fun (m,Gy,y,(d1,e1,d2,e2),s)=>m≤3∧Gx.le Gy∧zOk Gy p y (3*n+m) d1 d2∧inv (3*n+m) s) (fun (m,Gy,y,(d1,e1,d2,e2),s)=>3 - m) ((0,Gx,z,(a1,c1,a2,c2),s)) (⟨aM _,bK _,⟨hz0,hzc,hzo⟩,hinv⟩) rfl ⟨rfl,rfl,rfl,rfl,rfl,rfl,rfl,rfl,trivial⟩ ⟨rfl,rfl,rfl,trivial⟩ yY fun ⟨m,Gy,y,(d1,e1,d2,e2),s⟩=>fun hk=>?_
   obtain ⟨hm1,hm2,⟨hy0,hy1,hy2⟩,hinv2⟩:=hk
   have hRy:sH y=true:=by rw [hy0];exact xA hR _
   obtain ⟨y1,y2,y3,y4,y5,y6,y7,y8⟩:=sK hRy
   replace hzc:=hzc.up hm2
   replace hzo:=hzo.up hm2
   have hT2:TabOk Gy:=hT.up (aQ hn3 hm2)
   rcases aK m 3 with hm3 | hm3
   · refine aJ 13 [1] ?_
     refine aO (eI T.sl159 rfl rfl sE) ?_
     refine aO (Jq (α:=RP) 1 T.agg158 rfl rfl ⟨by omega,by omega⟩) ?_
     refine aN 3 rfl T.zero158 fun b4=>?_
     refine aL 8 [3,3,0] ?_
     obtain ⟨u,hu⟩:∃ u,u=uW (3*n+m) y:=⟨_,rfl⟩
     have hP:=PJ hT2 hm3 (k:=3*n+m) sE (cc:=e1) (co:=e2) hy1 hy2 hRy
     rw [←hu] at hP
     refine eC (fst:=[]) (cap:=[]) 100 rfl (XO hm3) rfl rfl hP (sJ trivial) fun v9 G9 Ho9 hle9 hp=>?_
     obtain ⟨qa,qb,qc,qd,rfl,hqA,hqB,rfl⟩:=hp
     have hRu:sH u=true:=by rw [hu];exact Qi hRy _
     obtain ⟨u1,u2,u3,u4,u5,u6,u7,u8⟩:=sK hRu
     refine aZ 7 [0] ?_
     refine cX [1,2,3,0] [(0,5),(3,5),(2,5),(1,5)] T.mixed [[0],[1],[2,3]] ?_
     refine bV 3 ?_
     refine aB 1 [0] ?_
     refine cG 4 ?_
     refine bX 4 rfl (c94 _ _ _ _ _ _ sF sF sE sE) fun v2 G2 Ho2 hle2 hp=>?_
     obtain ⟨ya2,yb2,yc2,yd2,yj2,yk2,rfl,hya2,hyb2,rfl,rfl⟩:=hp
     refine cG 5 ?_
     have hun:u=vT p (3*n+m+1):=by rw [hu,hy0,PE]
     have hxs:(uS p)[3*n+m]?=some ⟨(BK[(m:Int).toNat]?.getD default).name,u⟩:=by rw [PI hm3 (k:=3*n+m) sE,hun];exact Ts p sE
     refine Kr (A:=[(0,some b1,.cells #[.int .i64 u.ins,.int .i64 u.regs,.slice qa u.code.length qc,.slice qb u.outs.length qd] 26),(3,some b4,.cells (Cells.enc (BK[(m:Int).toNat]?.getD default)).toArray 158),(2,some b3,.cells #[.int .i64 z.ins,.int .i64 z.regs,.slice a1 z.code.length c1,.slice a2 z.outs.length c2] 26),(1,some b2,Row 158 BK [])]) 1000 4 5 rfl rfl rfl rfl rfl rfl ⟨rfl,rfl,rfl,rfl,trivial⟩ rfl rfl yY rfl
      ((hY (3*n+m) ⟨(BK[((m:Nat):Int).toNat]?.getD default).name,u⟩ ⟨ya2,yb2,yc2,yd2,yj2,yk2⟩ s hxs ⟨hya2,hyb2⟩ hinv2).up (aQ hn3 (aQ hm2 hle9))) (fun vy Gv Hv hlv hp=>?_)
     obtain ⟨rfl,s',rfl,hp⟩:=hp
     rcases hp with ⟨rfl,hinv'⟩ | ⟨rfl,hst⟩
     · refine bD ?_
       refine dE [[6]] ?_
       refine cZ ?_
       refine dX 9 [0] ?_
       refine Gt ((m+1,_,u,(qa,qc,qb,qd),s')) ?_ ?_ rfl ⟨rfl,rfl,rfl,rfl,rfl,rfl,rfl,rfl,trivial⟩ ⟨rfl,rfl,rfl,trivial⟩ yY
       · exact ⟨by omega,aQ hm2 hle9,⟨hun,hqA,hqB⟩,hinv'⟩
       show 3 - (m+1)<3 - m
       omega
     refine bD ?_
     refine dE [[6]] ?_
     refine cZ ?_
     refine dX 13 [1] ?_
     refine qD ?_
     refine pE (k:=1000) (.inr rfl) rfl yY ⟨rfl,s',rfl,.inr hst⟩
   have hm:m=3:=sE
   subst hm
   refine aJ 16 [0,2,0] ?_
   refine cI rfl (c42 _ _ _ _ _ _ _ _ _ _ _ sF sF sF sF sE sE sE sE) ?_
   refine aZ 2 [] ?_
   refine cT (fun hc1=>?_) fun hc1=>?_
   refine aJ 9 [0] ?_
   refine bX 3 rfl (bd _ _ _ _ _ _ sF sF sE sE sF) fun v2 G2 Ho2 hle2 hp=>?_
   obtain ⟨pa2,pb2,pc2,pd2,pj2,pk2,rfl,hpa2,hpb2,rfl,rfl⟩:=hp
   refine aL 9 [0,0] ?_
   rotate_left
   refine bE 7 [] ?_
   rotate_left
   · have hzy:z=y:=hc1
     have hnn:n=xL p:=by
      rcases aK n (xL p) with h9 | h9
      · exact absurd (by rw [←hz0,hzy,hy0]) (OZ p h9)
      omega
     have hyl:y=vT p (Cj p):=by rw [hy0,hlen,hnn]
     have hxs:(uS p)[3*n+3]?=some ⟨Tr,tA y⟩:=by rw [hyl,hnn,←hlen];exact yA p
     have hrl:=Ax p
     refine Kr (A:=[(0,some b1,.cells #[.int .i64 (tA y).ins,.int .i64 (tA y).regs,.slice pa2 (tA y).code.length pc2,.slice pb2 (tA y).outs.length pd2] 26)]) 1000 3 4 rfl rfl rfl rfl rfl rfl ⟨rfl,trivial⟩ rfl rfl yY rfl
      ((hY (3*n+3) ⟨Tr,tA y⟩ ⟨pa2,pb2,pc2,pd2,pj2,pk2⟩ s hxs ⟨hpa2,hpb2⟩ hinv2).up (aQ hn3 hm2)) (fun vy Gv Hv hlv hp=>?_)
     obtain ⟨rfl,s',rfl,hp⟩:=hp
     rw [show 3*n+3+1=(uS p).length by rw [hrl];omega] at hp
     refine eM ?_
     refine qD ?_
     refine pE (k:=1000) (.inl rfl) rfl yY ⟨rfl,s',rfl,hp.imp And.right And.right⟩
   have hne:¬z=y:=hc1
   refine Gt ((n+1,Gy,y,(d1,e1,d2,e2),s)) ?_ ?_ rfl ⟨rfl,rfl,rfl,rfl,trivial⟩ ⟨rfl,rfl,trivial⟩ yY
   · refine ⟨by omega,fun h=>?_,aQ hn3 hm2,⟨by rw [hy0];congr 1,hy1,hy2⟩,by rw [show 3*(n+1)=3*n+3 by omega];exact hinv2⟩
     rcases OY p with h9 | h9
     · exact h9
     have:n=xL p:=sE
     subst this
     exact absurd (by rw [hz0,hy0];exact h9.symm) hne
   show 17 - (n+1)<17 - n
   omega
 have hnn:n=16:=sE
 have hl15:xL p=15:=hn2 sE
 have hzl:z=vT p (Cj p):=by rw [hz0,hlen,hnn,hl15]
 have hxs:(uS p)[3*n]?=some ⟨Tr,tA z⟩:=by rw [hzl,show 3*n=Cj p by omega];exact yA p
 have hrl:=Ax p
 refine aJ 15 [0,0] ?_
 refine bX 2 rfl (bd _ _ _ _ _ _ sF sF sE sE sF) fun v2 G2 Ho2 hle2 hp=>?_
 obtain ⟨pa2,pb2,pc2,pd2,pj2,pk2,rfl,hpa2,hpb2,rfl,rfl⟩:=hp
 refine aL 9 [0,0] ?_
 refine Kr (A:=[(0,some b1,.cells #[.int .i64 (tA z).ins,.int .i64 (tA z).regs,.slice pa2 (tA z).code.length pc2,.slice pb2 (tA z).outs.length pd2] 26)]) 1000 2 3 rfl rfl rfl rfl rfl rfl ⟨rfl,trivial⟩ rfl rfl yY rfl
  ((hY (3*n) ⟨Tr,tA z⟩ ⟨pa2,pb2,pc2,pd2,pj2,pk2⟩ s hxs ⟨hpa2,hpb2⟩ hinv).up hn3) (fun vy Gv Hv hlv hp=>?_)
 obtain ⟨rfl,s',rfl,hp⟩:=hp
 rw [show 3*n+1=(uS p).length by rw [hrl];omega] at hp
 refine eM ?_
 refine qD ?_
 refine pE (k:=1000) (.inl rfl) rfl yY ⟨rfl,s',rfl,hp.imp And.right And.right⟩
end
section
attribute [local irreducible] tF zI xG zS tA vT uS xL Cj sH uD BK uW Wn
def sZ (p:PV):PV:=tA (vT p (Cj p))
theorem bj (G:Imm) (hT:TabOk G) (p:PV) (ac ao:Option Addr) (cc co:Nat) (hc:Arr G ac p.code) (ho:Arr G ao p.outs) (hR:sH p=true) :
 Does Tryz.prog 50 [.agg #[.int .i64 p.ins,.int .i64 p.regs,.slice ac p.code.length cc,.slice ao p.outs.length co]] G [] (fun v G' Ho=>∃ q bc bo dc do_,v=.tuple #[.agg #[.int .i64 q.ins,.int .i64 q.regs,.slice bc q.code.length dc,.slice bo q.outs.length do_],.int .i64 0]∧q=sZ p∧Arr G' bc q.code∧Arr G' bo q.outs∧Ho=[]):=by
 obtain ⟨r1,r2,r3,r4,r5,r6,r7,r8⟩:=sK hR
 refine nS Tryz.func50 rfl Tryz.ntmps50 rfl fun w=>?_
 refine aJ 2 [] ?_
 refine dQ 0 fun b1=>?_
 refine aN 1 rfl T.zero26 fun b2=>?_
 refine aL 7 [0] ?_
 refine cI rfl (PG _ p _ _ _ _ sF sF sE sE hR) ?_
 refine aL 18 [0] ?_
 refine aN 2 rfl T.zero26 fun b3=>?_
 refine aL 6 [0] ?_
 refine bX 3 rfl (c45 _ p _ _ _ _) fun v1 G1 Ho1 hle1 hp=>?_
 obtain ⟨bi1,rfl,rfl,hbi1⟩:=hp
 replace hc:=hc.up hle1
 replace ho:=ho.up hle1
 refine aZ 3 [] ?_
 refine dZ 5 (Row 91 ([]:List Sl.Instr) []) (dZ 6 (Row 3 ([]:List Int) []) ?_)
 have hT1:TabOk G1:=hT.up hle1
 refine Fw (ι:=PV×PA) 900 901 902 903 (fun (q,y)=>[(2,some b3,.cells #[.int .i64 q.ins,.int .i64 q.regs,.slice y.a q.code.length y.c,.slice y.b q.outs.length y.d] 26),(5,y.a.map (·.block),Row 91 q.code y.j),(6,y.b.map (·.block),Row 3 q.outs y.k),(1,some b2,.cells #[.int .i64 0,.int .i64 0,.slice none 0 0,.slice none 0 0] 26),(0,some b1,.cells #[.int .i64 p.ins,.int .i64 p.regs,.slice ac p.code.length cc,.slice ao p.outs.length co] 26)]) (fun k (q,y)=>OwnA y.a y.c q.code y.j∧OwnA y.b y.d q.outs y.k∧(∀ x,0<k→(uS p)[k - 1]?=some x→q=x.p)) (fun c (q,y)=>False) ((⟨0,0,[],[]⟩,⟨none,none,0,0,[],[]⟩)) rfl T.fn93 (fun _ _=>rfl) rfl (bg _ hT1 p _ _ _ _ _ hc ho hbi1 hR) (⟨eD,eD,fun x h=>absurd h sE⟩) (oU ⟨rfl,rfl,rfl,rfl,rfl,trivial⟩) ⟨rfl,fun _=>rfl⟩ rfl (fun k xk yk ⟨q,y⟩ l dd qq w0 hx hgd hi=>?_) (fun ⟨q,y⟩ dd hi=>?_) fun ⟨q,y⟩ dd c hi=>?_
 · refine aJ 1 [] ?_
   refine aN 904 rfl T.zero26 fun b4=>?_
   refine aR 2 [904] ?_
   refine qZ 900 rfl ?_
   refine bE 6 [904,2] ?_
   refine Ar.retag 902 5 rfl rfl (Ar.retag 903 6 rfl rfl ?_)
   refine kQ none (.inl ⟨rfl,rfl⟩) 900 rfl ⟨rfl,((xk.p,yk),none),rfl,.inl ⟨rfl,rfl,?_⟩⟩ (oU ⟨rfl,rfl,rfl,rfl,rfl,rfl,rfl,trivial⟩)
   refine ⟨hgd.1,hgd.2,fun x _ hx'=>?_⟩
   rw [jJ,hx] at hx'
   cases hx';rfl
 · obtain ⟨hoc,hoo,hl⟩:=hi
   have hq:q=sZ p:=by
    have h9:=Ax p
    exact hl _ sE (by rw [h9,jJ];exact yA p)
   refine dX 10 [2,1] ?_
   refine nJ (.inr rfl) 901 rfl ?_
   refine nT (.inr rfl) ?_
   refine cQ 5 rfl hoc (fun G8 hle8 hA8=>cQ 6 rfl hoo (fun G9 hle9 hA9=>?_))
   refine fS (.inr rfl) (Ho:=[]) rfl (.agg 1 rfl rfl T.agg26) (.tmp rfl) trivial ?_
   exact ⟨_,_,_,_,_,rfl,hq,hA8.up hle9,hA9,rfl⟩
 exact hi.elim
end
structure PtV where
 b:Nat
 o:Nat
instance:Inhabited PtV:=⟨⟨0,0⟩⟩
instance:Cells PtV:=⟨1,fun x=>[.pointer (some ⟨x.b,x.o,none⟩)],fun _=>rfl,fun _=>rfl⟩
section
attribute [local irreducible] sU sH tL wK sR sZ wI
theorem jt (G:Imm) (k1 k2:Int) (a:Option Addr) (c:Nat) (l:List R2) (ha:Arr G a l) (hl:l.length≤1048576) (hlc:l.length≤c) (hW:¬sU k1 k2 l=0) :
 Does Tryz.prog 34 [.int .i64 k1,.int .i64 k2,.slice a l.length c] G [] (fun v G' Ho=>v=.tuple #[.agg #[.int .i64 0,.int .i64 0,.slice none 0 0,.int .i64 0,.int .i64 0,.slice none 0 0,.slice none 0 0,.int .i64 0,.int .i64 0,.slice none 0 0,.slice none 0 0,.int .i64 0,.int .i64 0,.slice none 0 0,.slice none 0 0],.int .i64 (sU k1 k2 l)]∧Ho=[]):=by
 refine D0 Tryz.func34 Tryz.ntmps34 fun w=>?_
 refine aJ 2 [] ?_
 refine aN 0 rfl T.zero28 fun b1=>?_
 refine aL 8 [] ?_
 refine bX 1 rfl (ck _ _ _ _ _ _ sF sE sE) fun v1 G1 Ho1 hle1 hp=>?_
 obtain ⟨pv1,rfl,rfl⟩:=hp
 replace ha:=ha.up hle1
 refine aL 17 [1] ?_
 refine aO (bO (cs:=[_,_,_,_,_,_,_,_,_,_,_,_,_,_,_]) T.st28 rfl rfl rfl) ?_
 refine aR 7 [0] ?_
 refine fS (.inr rfl) (Ho:=[]) rfl (.agg 0 rfl rfl T.agg28) (.tmp rfl) trivial ?_
 exact ⟨rfl,rfl⟩
theorem ju (G:Imm) (hT:TabOk G) (n1 n2:Nat) (a:Option Addr) (c:Nat) (l:List R2) (ha:Arr G a l) (hl:l.length≤1048576) (hlc:l.length≤c) (hW:sU (n1:Int) (n2:Int) l=0) :
 Does Tryz.prog 34 [.int .i64 (n1:Int),.int .i64 (n2:Int),.slice a l.length c] G [] (fun v G' Ho=>∃ (pa xc xo yc yo zc zo:Option Addr) (pd xcc xoc ycc yoc zcc zoc:Nat) (pj zj zk:List Value),v=.tuple #[.agg #[.int .i64 (n1:Int),.int .i64 (n2:Int),.slice pa l.length pd,.int .i64 (wK n1 l).ins,.int .i64 (wK n1 l).regs,.slice xc (wK n1 l).code.length xcc,.slice xo (wK n1 l).outs.length xoc,.int .i64 (wK n2 l).ins,.int .i64 (wK n2 l).regs,.slice yc (wK n2 l).code.length ycc,.slice yo (wK n2 l).outs.length yoc,.int .i64 (sR l (wI l.length)).ins,.int .i64 (sR l (wI l.length)).regs,.slice zc (sR l (wI l.length)).code.length zcc,.slice zo (sR l (wI l.length)).outs.length zoc],.int .i64 0]∧
  OwnA pa pd l pj∧Arr G' xc (wK n1 l).code∧Arr G' xo (wK n1 l).outs∧Arr G' yc (wK n2 l).code∧Arr G' yo (wK n2 l).outs∧OwnA zc zcc (sR l (wI l.length)).code zj∧OwnA zo zoc (sR l (wI l.length)).outs zk∧Ho=[(1,pa.map (·.block),Row 52 l pj),(3,zc.map (·.block),Row 91 (sR l (wI l.length)).code zj),(4,zo.map (·.block),Row 3 (sR l (wI l.length)).outs zk)]):=by
 obtain ⟨hP1,hP2,hL,hRL⟩:=vE hW
 have hn1:1≤n1∧n1≤8:=by have:=hP1.1;have:=hP1.2;omega
 have hn2:1≤n2∧n2≤8:=by have:=hP2.1;have:=hP2.2;omega
 refine D0 Tryz.func34 Tryz.ntmps34 fun w=>?_
 refine aJ 2 [] ?_
 refine aN 0 rfl T.zero28 fun b1=>?_
 refine aL 8 [] ?_
 refine bX 1 rfl (ck _ _ _ _ _ _ sF sE sE) fun v1 G1 Ho1 hle1 hp=>?_
 obtain ⟨pv1,rfl,rfl⟩:=hp
 replace ha:=ha.up hle1
 refine aL 22 [0] ?_
 refine bX 1 rfl (c33 _ _ _ _ sF sE) fun v2 G2 Ho2 hle2 hp=>?_
 obtain ⟨s2,d2,j2,rfl,ho2,rfl,rfl⟩:=hp
 refine aO (bO (cs:=[_,_,_,_,_,_,_,_,_,_,_,_,_,_,_]) T.st28 rfl rfl rfl) ?_
 refine aN 2 rfl T.zero28 fun b2=>?_
 refine aL 7 [2] ?_
 refine bX 3 rfl (c43 _ (hT.up Wx) _ _ _ _ sF sE hRL sE sE) fun v3 G3 Ho3 hle3 hp=>?_
 obtain ⟨ca3,oa3,cc3,oc3,rfl,hcA3,hoA3,rfl⟩:=hp
 replace ha:=ha.up hle3
 refine aB 4 [] ?_
 refine lP 2 T.size26 rfl rfl rfl rfl rfl rfl ?_
 refine aL 17 [0] ?_
 refine bX 3 rfl (c43 _ (hT.up Wx) _ _ _ _ sF sE hRL sE sE) fun v4 G4 Ho4 hle4 hp=>?_
 obtain ⟨ca4,oa4,cc4,oc4,rfl,hcA4,hoA4,rfl⟩:=hp
 replace hcA3:=hcA3.up hle4
 replace hoA3:=hoA3.up hle4
 replace ha:=ha.up hle4
 refine aB 4 [] ?_
 refine lP 2 T.size26 rfl rfl rfl rfl rfl rfl ?_
 refine aL 16 [0] ?_
 refine bX 3 rfl (ik _ _ _ _ sF sE hRL) fun v5 G5 Ho5 hle5 hp=>?_
 obtain ⟨za5,zb5,zc5,zd5,zj5,zk5,rfl,hza5,hzb5,rfl⟩:=hp
 refine aB 4 [] ?_
 refine lP 2 T.size26 rfl rfl rfl rfl rfl rfl ?_
 refine aR 21 [0,2,0] ?_
 refine fS (.inr rfl) (Ho:=[(1,s2.map (·.block),Row 52 l j2),(3,za5.map (·.block),Row 91 (sR l (wI l.length)).code zj5),(4,zb5.map (·.block),Row 3 (sR l (wI l.length)).outs zk5)]) rfl (.agg 0 rfl rfl T.agg28) (.tmp rfl) ⟨rfl,rfl,rfl,trivial⟩ ?_
 exact ⟨s2,ca3,oa3,ca4,oa4,za5,zb5,d2,cc3,oc3,cc4,oc4,zc5,zd5,j2,zj5,zk5,rfl,ho2,hcA3.up sF,hoA3.up sF,hcA4.up sF,hoA4.up sF,hza5,hzb5,rfl⟩
end
section
attribute [local irreducible] tF zI xG zS tA vT uS xL Cj sH uD BK uW Wn
theorem jv (G:Imm) (hT:TabOk G) (p:PV) (ac ao:Option Addr) (cc co:Nat) (hc:Arr G ac p.code) (ho:Arr G ao p.outs) (hR:sH p=true) :
 Does Tryz.prog 50 [.agg #[.int .i64 p.ins,.int .i64 p.regs,.slice ac p.code.length cc,.slice ao p.outs.length co]] G [] (fun v G' Ho=>∃ q bc bo dc do_ jo,v=.tuple #[.agg #[.int .i64 q.ins,.int .i64 q.regs,.slice bc q.code.length dc,.slice bo q.outs.length do_],.int .i64 0]∧q=sZ p∧Arr G' bc q.code∧OwnA bo do_ q.outs jo∧Ho=[(6,bo.map (·.block),Row 3 q.outs jo)]):=by
 obtain ⟨r1,r2,r3,r4,r5,r6,r7,r8⟩:=sK hR
 refine nS Tryz.func50 rfl Tryz.ntmps50 rfl fun w=>?_
 refine aJ 2 [] ?_
 refine dQ 0 fun b1=>?_
 refine aN 1 rfl T.zero26 fun b2=>?_
 refine aL 7 [0] ?_
 refine cI rfl (PG _ p _ _ _ _ sF sF sE sE hR) ?_
 refine aL 18 [0] ?_
 refine aN 2 rfl T.zero26 fun b3=>?_
 refine aL 6 [0] ?_
 refine bX 3 rfl (c45 _ p _ _ _ _) fun v1 G1 Ho1 hle1 hp=>?_
 obtain ⟨bi1,rfl,rfl,hbi1⟩:=hp
 replace hc:=hc.up hle1
 replace ho:=ho.up hle1
 refine aZ 3 [] ?_
 refine dZ 5 (Row 91 ([]:List Sl.Instr) []) (dZ 6 (Row 3 ([]:List Int) []) ?_)
 have hT1:TabOk G1:=hT.up hle1
 refine Fw (ι:=PV×PA) 900 901 902 903 (fun (q,y)=>[(2,some b3,.cells #[.int .i64 q.ins,.int .i64 q.regs,.slice y.a q.code.length y.c,.slice y.b q.outs.length y.d] 26),(5,y.a.map (·.block),Row 91 q.code y.j),(6,y.b.map (·.block),Row 3 q.outs y.k),(1,some b2,.cells #[.int .i64 0,.int .i64 0,.slice none 0 0,.slice none 0 0] 26),(0,some b1,.cells #[.int .i64 p.ins,.int .i64 p.regs,.slice ac p.code.length cc,.slice ao p.outs.length co] 26)]) (fun k (q,y)=>OwnA y.a y.c q.code y.j∧OwnA y.b y.d q.outs y.k∧(∀ x,0<k→(uS p)[k - 1]?=some x→q=x.p)) (fun c (q,y)=>False) ((⟨0,0,[],[]⟩,⟨none,none,0,0,[],[]⟩)) rfl T.fn93 (fun _ _=>rfl) rfl (bg _ hT1 p _ _ _ _ _ hc ho hbi1 hR) (⟨eD,eD,fun x h=>absurd h sE⟩) (oU ⟨rfl,rfl,rfl,rfl,rfl,trivial⟩) ⟨rfl,fun _=>rfl⟩ rfl (fun k xk yk ⟨q,y⟩ l dd qq w0 hx hgd hi=>?_) (fun ⟨q,y⟩ dd hi=>?_) fun ⟨q,y⟩ dd c hi=>?_
 · refine aJ 1 [] ?_
   refine aN 904 rfl T.zero26 fun b4=>?_
   refine aR 2 [904] ?_
   refine qZ 900 rfl ?_
   refine bE 6 [904,2] ?_
   refine Ar.retag 902 5 rfl rfl (Ar.retag 903 6 rfl rfl ?_)
   refine kQ none (.inl ⟨rfl,rfl⟩) 900 rfl ⟨rfl,((xk.p,yk),none),rfl,.inl ⟨rfl,rfl,?_⟩⟩ (oU ⟨rfl,rfl,rfl,rfl,rfl,rfl,rfl,trivial⟩)
   refine ⟨hgd.1,hgd.2,fun x _ hx'=>?_⟩
   rw [jJ,hx] at hx'
   cases hx';rfl
 · obtain ⟨hoc,hoo,hl⟩:=hi
   have hq:q=sZ p:=by
    have h9:=Ax p
    exact hl _ sE (by rw [h9,jJ];exact yA p)
   refine dX 10 [2,1] ?_
   refine nJ (.inr rfl) 901 rfl ?_
   refine nT (.inr rfl) ?_
   refine cQ 5 rfl hoc fun G8 hle8 hA8=>?_
   refine fS (.inr rfl) (Ho:=[(6,y.b.map (·.block),Row 3 q.outs y.k)]) rfl (.agg 1 rfl rfl T.agg26) (.tmp rfl) ⟨rfl,trivial⟩ ?_
   exact ⟨_,_,_,_,_,_,rfl,hq,hA8,hoo,rfl⟩
 exact hi.elim
end
theorem c67 (G:Imm) (b:Nat):Does Tryz.prog 67 [.pointer (some ⟨b,0,none⟩)] G [] (fun v G' Ho=>∃ s,v=.slice s ([⟨b,3⟩,⟨b,7⟩,⟨b,11⟩]:List PtV).length 3∧Arr G' s ([⟨b,3⟩,⟨b,7⟩,⟨b,11⟩]:List PtV)∧Ho=[]):=by
 refine D0 Tryz.func67 Tryz.ntmps67 fun w=>?_
 refine bJ 6 [] ?_
 refine cX [] [] T.mixed [[0],[1],[2],[3],[4],[5],[6],[7],[8]] ?_
 refine bV 9 ?_
 refine dY (α:=PtV) 0 [⟨_,_⟩,⟨_,_⟩,⟨_,_⟩] rfl T.sl86 T.el85 rfl rfl rfl rfl rfl fun b1=>?_
 refine bD ?_
 refine dE [[10]] ?_
 refine cZ ?_
 refine dX 2 [] ?_
 refine cQ (α:=PtV) 0 rfl (fM Dd) fun G2 hle2 hA2=>?_
 refine cP ?_
 exact ⟨_,rfl,hA2,rfl⟩
section
attribute [local irreducible] sU sH tL wK sR sZ wI
theorem jx (G:Imm) (k1 k2:Int) (a:Option Addr) (c:Nat) (l:List R2) (ha:Arr G a l) (hl:l.length≤1048576) (hlc:l.length≤c) (hW:¬sU k1 k2 l=0) :
 Does Tryz.prog 20 [.int .i64 k1,.int .i64 k2,.slice a l.length c] G [] (fun v G' Ho=>v=.tuple #[.agg #[.int .i64 0,.int .i64 0,.slice none 0 0,.int .i64 0,.int .i64 0,.slice none 0 0,.slice none 0 0,.int .i64 0,.int .i64 0,.slice none 0 0,.slice none 0 0,.int .i64 0,.int .i64 0,.slice none 0 0,.slice none 0 0],.int .i64 (sU k1 k2 l)]∧Ho=[]):=by
 refine D0 Tryz.func20 Tryz.ntmps20 fun w=>?_
 refine aJ 2 [] ?_
 refine aN 0 rfl T.zero28 fun b1=>?_
 refine aL 8 [] ?_
 refine bX 1 rfl (jt _ _ _ _ _ _ sF sE sE hW) fun v1 G1 Ho1 hle1 hp=>?_
 obtain ⟨rfl,rfl⟩:=hp
 replace ha:=ha.up hle1
 refine aB 3 [] ?_
 refine aN 1 rfl T.zero28 fun b2=>?_
 refine aL 14 [1,1] ?_
 refine aO (bO (cs:=[_,_,_,_,_,_,_,_,_,_,_,_,_,_,_]) T.st28 rfl rfl rfl) ?_
 refine aR 7 [0] ?_
 refine fS (.inr rfl) (Ho:=[]) rfl (.agg 0 rfl rfl T.agg28) (.tmp rfl) trivial ?_
 exact ⟨rfl,rfl⟩
theorem zN {k:Nat} {l:List R2} (hR:tL l) (hk:1≤k∧k≤8):sH (wK k l)=true:=Pc (Mv hR hk)
theorem Hj {l:List R2} (hR:tL l):sH (sR l (wI l.length))=true:=Gk hR (Kw l.length)
theorem jy (G:Imm) (hT:TabOk G) (n1 n2:Nat) (a:Option Addr) (c:Nat) (l:List R2) (ha:Arr G a l) (hl:l.length≤1048576) (hlc:l.length≤c) (hW:sU (n1:Int) (n2:Int) l=0) :
 Does Tryz.prog 20 [.int .i64 (n1:Int),.int .i64 (n2:Int),.slice a l.length c] G [] (fun v G' Ho=>∃ (pa xc xo yc yo zc zo:Option Addr) (pd xcc xoc ycc yoc zcc zoc:Nat) (pj zk:List Value),v=.tuple #[.agg #[.int .i64 (n1:Int),.int .i64 (n2:Int),.slice pa l.length pd,.int .i64 (sZ (wK n1 l)).ins,.int .i64 (sZ (wK n1 l)).regs,.slice xc (sZ (wK n1 l)).code.length xcc,.slice xo (sZ (wK n1 l)).outs.length xoc,.int .i64 (sZ (wK n2 l)).ins,.int .i64 (sZ (wK n2 l)).regs,.slice yc (sZ (wK n2 l)).code.length ycc,.slice yo (sZ (wK n2 l)).outs.length yoc,.int .i64 (sZ (sR l (wI l.length))).ins,.int .i64 (sZ (sR l (wI l.length))).regs,.slice zc (sZ (sR l (wI l.length))).code.length zcc,.slice zo (sZ (sR l (wI l.length))).outs.length zoc],.int .i64 0]∧
  OwnA pa pd l pj∧Arr G' xc (sZ (wK n1 l)).code∧Arr G' xo (sZ (wK n1 l)).outs∧Arr G' yc (sZ (wK n2 l)).code∧Arr G' yo (sZ (wK n2 l)).outs∧Arr G' zc (sZ (sR l (wI l.length))).code∧OwnA zo zoc (sZ (sR l (wI l.length))).outs zk∧Ho=[(2,pa.map (·.block),Row 52 l pj),(7,zo.map (·.block),Row 3 (sZ (sR l (wI l.length))).outs zk)]):=by
 obtain ⟨hP1,hP2,hL,hRL⟩:=vE hW
 have hn1:1≤n1∧n1≤8:=by have:=hP1.1;have:=hP1.2;omega
 have hn2:1≤n2∧n2≤8:=by have:=hP2.1;have:=hP2.2;omega
 have hRx:=zN hRL hn1
 have hRy:=zN hRL hn2
 have hRz:=Hj hRL
 refine D0 Tryz.func20 Tryz.ntmps20 fun w=>?_
 refine aJ 2 [] ?_
 refine aN 0 rfl T.zero28 fun b1=>?_
 refine aL 8 [] ?_
 refine bX 1 rfl (ju _ hT n1 n2 _ _ _ sF sE sE hW) fun v1 G1 Ho1 hle1 hp=>?_
 obtain ⟨pa1,xc1,xo1,yc1,yo1,zc1,zo1,pd1,xcc1,xoc1,ycc1,yoc1,zcc1,zoc1,pj1,zj1,zk1,rfl,hpo1,hxc1,hxo1,hyc1,hyo1,hzc1,hzo1,rfl⟩:=hp
 replace ha:=ha.up hle1
 refine aB 3 [] ?_
 refine aN 6 rfl T.zero28 fun b2=>?_
 refine aL 17 [6,0] ?_
 refine bX 7 rfl (c67 _ _) fun v2 G2 Ho2 hle2 hp=>?_
 obtain ⟨ps2,rfl,hps2,rfl⟩:=hp
 replace hxc1:=hxc1.up hle2
 replace hxo1:=hxo1.up hle2
 replace hyc1:=hyc1.up hle2
 replace hyo1:=hyo1.up hle2
 replace ha:=ha.up hle2
 refine aZ 5 [] ?_
 refine pT 4 rfl hzc1 (fun G3 hle3 hzcA=>pT 5 rfl hzo1 (fun G4 hle4 hzoA=>?_))
 replace hps2:=(hps2.up hle3).up hle4
 replace hxc1:=(hxc1.up hle3).up hle4
 replace hxo1:=(hxo1.up hle3).up hle4
 replace hyc1:=(hyc1.up hle3).up hle4
 replace hyo1:=(hyo1.up hle3).up hle4
 replace hzcA:=hzcA.up hle4
 refine dZ 7 (Row 3 ([]:List Int) []) ?_
 refine iZ (ι:=Nat×Imm×PH×PH×PH×(Option Addr×Nat×List Int×List Value)) (fun (k,Gx,u,v,q,(ro,rd,os,rj))=>([(27,.int .i64 (k:Int)),(26,.int .i64 ((3:Nat):Int)),(8,.pointer (some ⟨b2,0,none⟩)),(6,.pointer (some ⟨b1,0,none⟩)),(25,.slice ps2 (List.length [PtV.mk b2 3,PtV.mk b2 7,PtV.mk b2 11]) 3)],[(0,some b1,.cells #[.int .i64 0,.int .i64 0,.slice none 0 0,.int .i64 0,.int .i64 0,.slice none 0 0,.slice none 0 0,.int .i64 0,.int .i64 0,.slice none 0 0,.slice none 0 0,.int .i64 0,.int .i64 0,.slice none 0 0,.slice none 0 0] 28),(2,pa1.map (·.block),Row 52 l pj1),(6,some b2,.cells #[.int .i64 (n1:Int),.int .i64 (n2:Int),.slice pa1 l.length pd1,.int .i64 u.ins,.int .i64 u.regs,.slice u.ac u.cn u.cc,.slice u.ao u.on u.oc,.int .i64 v.ins,.int .i64 v.regs,.slice v.ac v.cn v.cc,.slice v.ao v.on v.oc,.int .i64 q.ins,.int .i64 q.regs,.slice q.ac q.cn q.cc,.slice q.ao q.on q.oc] 28),(7,ro.map (·.block),Row 3 os rj)])) (fun (k,Gx,u,v,q,(ro,rd,os,rj))=>Gx) (fun (k,Gx,u,v,q,(ro,rd,os,rj))=>k≤3∧G4.le Gx∧PHof Gx (if 0<k then (sZ (wK n1 l)) else (wK n1 l)) u∧PHof Gx (if 1<k then (sZ (wK n2 l)) else (wK n2 l)) v∧(k<3→PHof Gx (sR l (wI l.length)) q)∧OwnA ro rd os rj∧(k=3→os=(sZ (sR l (wI l.length))).outs∧q=⟨(sZ (sR l (wI l.length))).ins,(sZ (sR l (wI l.length))).regs,q.ac,(sZ (sR l (wI l.length))).code.length,q.cc,ro,os.length,rd⟩∧Arr Gx q.ac (sZ (sR l (wI l.length))).code)) (fun (k,Gx,u,v,q,(ro,rd,os,rj))=>3 - k) ((0,G4,⟨(wK n1 l).ins,(wK n1 l).regs,xc1,(wK n1 l).code.length,xcc1,xo1,(wK n1 l).outs.length,xoc1⟩,⟨(wK n2 l).ins,(wK n2 l).regs,yc1,(wK n2 l).code.length,ycc1,yo1,(wK n2 l).outs.length,yoc1⟩,⟨(sR l (wI l.length)).ins,(sR l (wI l.length)).regs,zc1,(sR l (wI l.length)).code.length,zcc1,zo1,(sR l (wI l.length)).outs.length,zoc1⟩,(none,0,[],[]))) (⟨aM _,bK _,⟨rfl,rfl,rfl,rfl,hxc1,hxo1⟩,⟨rfl,rfl,rfl,rfl,hyc1,hyo1⟩,fun _=>⟨rfl,rfl,rfl,rfl,hzcA,hzoA⟩,eD,fun h=>absurd h sE⟩) rfl ⟨rfl,rfl,rfl,rfl,rfl,trivial⟩ ⟨rfl,rfl,rfl,rfl,trivial⟩ fun ⟨k,Gx,u,v,q,(ro,rd,os,rj)⟩=>fun hk=>?_
 obtain ⟨hk3,hgx,hu,hv,hq,hro,hq3⟩:=hk
 replace hps2:=hps2.up hgx
 have hk4:k=0∨k=1∨k=2∨k=3:=sE
 rcases hk4 with rfl | rfl | rfl | rfl
 · have hu0:PHof Gx (wK n1 l) u:=hu
   obtain ⟨ei,er,eac,ecn,ecc,eao,eon,eoc⟩:=u
   obtain ⟨e1,e2,e3,e4,hec,heo⟩:=hu0
   dsimp only at e1 e2 e3 e4 hec heo
   subst e1 e2 e3 e4
   refine bJ 6 [] ?_
   refine Nj rfl (show ((0:Nat):Int)<((3:Nat):Int) by decide) ?_
   refine aJ 6 [] ?_
   refine aO (jA (α:=PtV) T.sl86 rfl rfl hps2 (show 0≤((0:Nat):Int)∧((0:Nat):Int)<((3:Nat):Int) by decide)) ?_
   refine aO (cJ T.one85 rfl (iC hps2 (show 0≤((0:Nat):Int)∧((0:Nat):Int)<((3:Nat):Int) by decide) 0 rfl rfl)) ?_
   refine gK 30 rfl (show _=Value.pointer (some ⟨b2,3,none⟩) from rfl) ?_
   refine aL 7 [] ?_
   refine aO (fU 6 T.agg26 rfl rfl rfl rfl) ?_
   refine bX 8 rfl (bj _ (hT.up Wx) (wK n1 l) _ _ _ _ sF sF hRx) fun v5 G5 Ho5 hle5 hp=>?_
   obtain ⟨lq5,la5,lb5,lc5,ld5,rfl,hlq5,hla5,hlb5,rfl⟩:=hp
   replace hps2:=hps2.up hle5
   replace hec:=hec.up hle5
   replace heo:=heo.up hle5
   refine aB 3 [] ?_
   refine aN 8 rfl T.zero26 fun b3=>?_
   refine aL 18 [8,0,8] ?_
   refine lP 6 T.size26 rfl rfl rfl rfl rfl rfl ?_
   refine aR 7 [] ?_
   replace hle5:Gx.le G5:=hle5
   subst hlq5
   refine cN 27 rfl (show _=Value.int .i64 ((1:Nat):Int) from rfl) ?_
   refine cL ((1,G5,⟨(sZ (wK n1 l)).ins,(sZ (wK n1 l)).regs,la5,(sZ (wK n1 l)).code.length,lc5,lb5,(sZ (wK n1 l)).outs.length,ld5⟩,v,q,(ro,rd,os,rj))) ?_ ?_
   · exact ⟨by omega,aQ hgx hle5,⟨rfl,rfl,rfl,rfl,hla5,hlb5⟩,hv.up hle5,fun _=>(hq sN).up hle5,hro,fun h=>absurd h sE⟩
   show 3 - 1<3 - 0
   omega
 · have hv1:PHof Gx (wK n2 l) v:=hv
   obtain ⟨ei,er,eac,ecn,ecc,eao,eon,eoc⟩:=v
   obtain ⟨e1,e2,e3,e4,hec,heo⟩:=hv1
   dsimp only at e1 e2 e3 e4 hec heo
   subst e1 e2 e3 e4
   refine bJ 6 [] ?_
   refine Nj rfl (show ((1:Nat):Int)<((3:Nat):Int) by decide) ?_
   refine aJ 6 [] ?_
   refine aO (jA (α:=PtV) T.sl86 rfl rfl hps2 (show 0≤((1:Nat):Int)∧((1:Nat):Int)<((3:Nat):Int) by decide)) ?_
   refine aO (cJ T.one85 rfl (iC hps2 (show 0≤((1:Nat):Int)∧((1:Nat):Int)<((3:Nat):Int) by decide) 0 rfl rfl)) ?_
   refine gK 30 rfl (show _=Value.pointer (some ⟨b2,7,none⟩) from rfl) ?_
   refine aL 7 [] ?_
   refine aO (fU 6 T.agg26 rfl rfl rfl rfl) ?_
   refine bX 8 rfl (bj _ (hT.up Wx) (wK n2 l) _ _ _ _ sF sF hRy) fun v5 G5 Ho5 hle5 hp=>?_
   obtain ⟨lq5,la5,lb5,lc5,ld5,rfl,hlq5,hla5,hlb5,rfl⟩:=hp
   replace hps2:=hps2.up hle5
   replace hec:=hec.up hle5
   replace heo:=heo.up hle5
   refine aB 3 [] ?_
   refine aN 8 rfl T.zero26 fun b3=>?_
   refine aL 18 [8,0,8] ?_
   refine lP 6 T.size26 rfl rfl rfl rfl rfl rfl ?_
   refine aR 7 [] ?_
   replace hle5:Gx.le G5:=hle5
   subst hlq5
   refine cN 27 rfl (show _=Value.int .i64 ((2:Nat):Int) from rfl) ?_
   refine cL ((2,G5,u,⟨(sZ (wK n2 l)).ins,(sZ (wK n2 l)).regs,la5,(sZ (wK n2 l)).code.length,lc5,lb5,(sZ (wK n2 l)).outs.length,ld5⟩,q,(ro,rd,os,rj))) ?_ ?_
   · exact ⟨by omega,aQ hgx hle5,hu.up hle5,⟨rfl,rfl,rfl,rfl,hla5,hlb5⟩,fun _=>(hq sN).up hle5,hro,fun h=>absurd h sE⟩
   show 3 - 2<3 - 1
   omega
 · have hq2:PHof Gx (sR l (wI l.length)) q:=hq sN
   obtain ⟨ei,er,eac,ecn,ecc,eao,eon,eoc⟩:=q
   obtain ⟨e1,e2,e3,e4,hec,heo⟩:=hq2
   dsimp only at e1 e2 e3 e4 hec heo
   subst e1 e2 e3 e4
   refine bJ 6 [] ?_
   refine Nj rfl (show ((2:Nat):Int)<((3:Nat):Int) by decide) ?_
   refine aJ 6 [] ?_
   refine aO (jA (α:=PtV) T.sl86 rfl rfl hps2 (show 0≤((2:Nat):Int)∧((2:Nat):Int)<((3:Nat):Int) by decide)) ?_
   refine aO (cJ T.one85 rfl (iC hps2 (show 0≤((2:Nat):Int)∧((2:Nat):Int)<((3:Nat):Int) by decide) 0 rfl rfl)) ?_
   refine gK 30 rfl (show _=Value.pointer (some ⟨b2,11,none⟩) from rfl) ?_
   refine aL 7 [] ?_
   refine aO (fU 6 T.agg26 rfl rfl rfl rfl) ?_
   refine bX 8 rfl (jv _ (hT.up Wx) (sR l (wI l.length)) _ _ _ _ sF sF hRz) fun v5 G5 Ho5 hle5 hp=>?_
   obtain ⟨lq5,la5,lb5,lc5,ld5,lj5,rfl,hlq5,hla5,hlb5,rfl⟩:=hp
   replace hps2:=hps2.up hle5
   replace hec:=hec.up hle5
   replace heo:=heo.up hle5
   refine aB 3 [] ?_
   refine aN 15 rfl T.zero26 fun b3=>?_
   refine aL 18 [15,0,15] ?_
   refine lP 6 T.size26 rfl rfl rfl rfl rfl rfl ?_
   refine aR 7 [] ?_
   replace hle5:Gx.le G5:=hle5
   subst hlq5
   refine cN 27 rfl (show _=Value.int .i64 ((3:Nat):Int) from rfl) ?_
   refine Ar.retag 14 7 rfl rfl ?_
   refine cL ((3,G5,u,v,⟨(sZ (sR l (wI l.length))).ins,(sZ (sR l (wI l.length))).regs,la5,(sZ (sR l (wI l.length))).code.length,lc5,lb5,(sZ (sR l (wI l.length))).outs.length,ld5⟩,(lb5,ld5,(sZ (sR l (wI l.length))).outs,lj5))) ?_ ?_
   · exact ⟨by omega,aQ hgx hle5,hu.up hle5,hv.up hle5,fun h=>absurd h sE,hlb5,fun _=>⟨rfl,rfl,hla5⟩⟩
   show 3 - 3<3 - 2
   omega
 have hu3:PHof Gx (sZ (wK n1 l)) u:=hu
 have hv3:PHof Gx (sZ (wK n2 l)) v:=hv
 obtain ⟨ui,ur,uac,ucn,ucc,uao,uon,uoc⟩:=u
 obtain ⟨e1,e2,e3,e4,huc,huo⟩:=hu3
 dsimp only at e1 e2 e3 e4 huc huo
 subst e1 e2 e3 e4
 obtain ⟨vi,vr,vac,vcn,vcc,vao,von,voc⟩:=v
 obtain ⟨e1,e2,e3,e4,hvc,hvo⟩:=hv3
 dsimp only at e1 e2 e3 e4 hvc hvo
 subst e1 e2 e3 e4
 obtain ⟨ho3,hq4,hac⟩:=hq3 rfl
 obtain ⟨qi,qr,qac,qcn,qcc,qao,qon,qoc⟩:=q
 rw [PH.mk.injEq] at hq4
 obtain ⟨rfl,rfl,-,rfl,-,rfl,rfl,rfl⟩:=hq4
 subst ho3
 refine bE 20 [0,6,0] ?_
 refine fS (.inr rfl) (Ho:=[(2,pa1.map (·.block),Row 52 l pj1),(7,qao.map (·.block),Row 3 (sZ (sR l (wI l.length))).outs rj)]) rfl (.agg 0 rfl rfl T.agg28) (.tmp rfl) ⟨rfl,rfl,trivial⟩ ?_
 exact ⟨pa1,uac,uao,vac,vao,qac,qao,pd1,ucc,uoc,vcc,voc,qcc,qoc,pj1,rj,rfl,hpo1,huc,huo,hvc,hvo,hac,hro,rfl⟩
end
def nd (i:Sl.Instr):Prop:=¬(i.op=6∨i.op=8)
theorem PK {l:List Sl.Instr} (h:∀ i∈l,nd i) (k:Nat):nd (l[k]?.getD default):=by
 rcases aK k l.length with hk | hk
 · rw [aA hk];exact h _ (bI hk)
 rw [bP hk]
 show ¬((0:Int)=6∨(0:Int)=8)
 decide
theorem BA {i:Sl.Instr} (h:nd i):nd (tM i):=by
 unfold nd at h
 unfold tM
 repeat' split
 all_goals unfold nd
 all_goals simp only [not_or] at h ⊢
 all_goals first | exact h | (constructor <;> decide) | omega
theorem XP {f c s d:Int} (h1:¬(f=6∨f=8)) (h2:¬(s=6∨s=8)):¬((uV f c s d).1=6∨(uV f c s d).1=8):=by
 unfold uV
 repeat' split
 all_goals (try simp only)
 all_goals omega
theorem TZ {a b:Sl.Instr} (ha:nd a) (hb:nd b) (h:(uB a b).2=true):nd (uB a b).1:=by
 unfold uB at h ⊢
 split at h
 · cases h
 rename_i h0
 rw [aD h0]
 split at h
 · rename_i h1
   rw [aF h1]
   exact BA (XP ha hb)
 cases h
theorem UA {p:PV} (h:yL p):yL (zI p):=fun i hi =>
 Py (q:=nd) (fun a b ha hb h=>TZ ha hb h) (fun i h=>BA h) p.code h i (rY.1 hi)
theorem UB {p:PV} (h:yL p):yL (xG p):=by
 have aux:∀ k,∀ i∈(tK p k).2,nd i:=by
  intro k
  induction k with
  | zero=>intro i hi;cases hi
  | succ k ih =>
    intro i hi
    have hk:=PK h (k:Int).toNat
    unfold tK sX at hi
    simp only at hi
    split at hi
    · exact ih i hi
    rcases gW.1 hi with hi | hi
    · exact ih i hi
    rw [eQ.1 hi]
    split
    · show ¬((1:Int)=6∨(1:Int)=8);decide
    unfold askedP
    repeat' split
    all_goals exact hk
 exact aux _
theorem UC {p:PV} (h:yL p):yL (zS p):=by
 have aux:∀ k,∀ i∈vI p k,nd i:=by
  intro k
  induction k with
  | zero=>intro i hi;cases hi
  | succ k ih =>
    intro i hi
    unfold vI at hi
    split at hi
    · rcases gW.1 hi with hi | hi
      · exact ih i hi
      rw [eQ.1 hi];exact PK h _
    exact ih i hi
 exact aux _
theorem PL {p:PV} (h:yL p):yL (tA p):=by
 have aux:∀ k,∀ i∈(tD p k).code,nd i:=by
  intro k
  induction k with
  | zero=>intro i hi;cases hi
  | succ k ih =>
    intro i hi
    unfold tD at hi
    split at hi
    · unfold Hd at hi
      simp only at hi
      rcases gW.1 hi with hi | hi
      · exact ih i hi
      rw [eQ.1 hi]
      exact PK h (k:Int).toNat
    exact ih i hi
 exact aux _
theorem Wp {p:PV} (h:yL p):∀ k,yL (vT p k)
 | 0=>h
 | k+1=>by
   show yL (uW k (vT p k))
   unfold uW
   split
   · exact UA (Wp h k)
   split
   · exact UB (Wp h k)
   exact UC (Wp h k)
theorem UD {p:PV} (h:yL p):yL (sZ p):=PL (Wp h _)
theorem zO {p:PV} (hR:sH p=true):sH (sZ p)=true∧(sZ p).ins=p.ins∧(sZ p).outs.length=p.outs.length∧(sZ p).code.length≤p.code.length∧
 ∀ (gs os:List (List Int)) (N:Nat),(gs.length:Int)=p.ins→Flat N gs→sQ p gs=some os→sQ (sZ p) gs=some os:=by
 have h:=DH hR (yA p)
 unfold sZ
 generalize tA (vT p (Cj p))=q at h ⊢
 exact h
theorem DJ (k:Nat):Flat k (uJ k):=fun r hr=>by
 unfold uJ at hr
 obtain ⟨i,hi,rfl⟩:=dJ.1 hr
 exact yR k i
theorem JC (l:List R2):Flat l.length (vJ l):=fun r hr=>by
 unfold vJ at hr
 obtain ⟨q,hq,rfl⟩:=dJ.1 hr
 exact Dy _ _ _
theorem Tv {p:PV} {k:Nat} {l:List R2} (hR:sH p=true) (h:uE p k l):uE (sZ p) k l:=by
 obtain ⟨h1,h2,h3,h4⟩:=h
 obtain ⟨g1,g2,g3,g4,g5⟩:=zO hR
 rw [aE] at h4
 refine ⟨by rw [g2,h1],by rw [g3,h2],UD h3,?_⟩
 rw [aE]
 exact g5 _ _ k (by rw [xR,h1]) (DJ k) h4
theorem BB {p:PV} {l:List R2} (h:tQ p l):tQ (sZ p) l:=by
 obtain ⟨h0,h1,h2,h3⟩:=h
 obtain ⟨g1,g2,g3,g4,g5⟩:=zO h0
 exact ⟨g1,by rw [g2,h1],by rw [g3,h2],g5 _ _ l.length (by rw [Gh,h1]) (JC l) h3⟩
theorem Ri {n1 n2:Nat} {l:List R2} (hW:sU (n1:Int) (n2:Int) l=0):tP n1 n2 l (sZ (wK n1 l)) (sZ (wK n2 l)) (sZ (sR l (wI l.length)))=(0,0):=by
 obtain ⟨hP1,hP2,hL,hRL⟩:=vE hW
 have hn1:1≤n1∧n1≤8:=by have:=hP1.1;have:=hP1.2;omega
 have hn2:1≤n2∧n2≤8:=by have:=hP2.1;have:=hP2.2;omega
 exact Vq hW (zO (zN hRL hn1)).1 (Tv (zN hRL hn1) (Sx (Mv hRL hn1))) (zO (zN hRL hn2)).1 (Tv (zN hRL hn2) (Sx (Mv hRL hn2))) (zO (Hj hRL)).1 (BB (Zn hRL (Kw l.length)))
theorem QB {x:Int} (h:-9223372036854775808≤x∧x≤9223372036854775807):IntKind.i64.wrap x=x:=by
 rw [IntKind.wrap_i64];omega
def Ww (a:Option Addr) (n c:Nat) (s:RS):Obj:=.cells #[.slice a n c,.int .i64 (s.k:Int),.bool s.wr] 198 (0,0)
def Qm (G:Imm) (g:FuncId) (caps:List Value) (good:Int→Bool):Prop:=tH Tryz.prog g∧∀ (G':Imm) (x:Int),G.le G'→0≤x→x≤255→Does Tryz.prog g ([]++[.int .i64 x]++caps) G' [] (fun v G'' Ho=>v=.bool (decide (good x=true))∧G''=G'∧Ho=[])
theorem JD (G:Imm) (b:Nat) (a:Option Addr) (c:Nat) (B:List U8) (s:RS) (g:FuncId) (caps:List Value) (good:Int→Bool) (hg:Qm G g caps good) (hA:Arr G a B) (hB:Bytes B) (hk:s.k≤B.length) (hl:B.length≤1048576) :
 Does Tryz.prog 169 [.pointer (some ⟨b,0,none⟩),.func (.func g) #[] caps.toArray] G [(0,some b,Ww a B.length c s)] (fun v G' Ho=>v=.int .i64 (nx B s good).1∧G'=G∧Ho=[(0,some b,Ww a B.length c (nx B s good).2)]):=by
 refine D0 Tryz.func169 Tryz.ntmps169 fun w=>?_
 obtain ⟨k,wr⟩:=s
 replace hk:k≤B.length:=hk
 cases wr with
 | true =>
   show Wc none Tryz.prog _ ⟨_,_,_,_⟩ ⟨_,_,[(0,some b,.cells #[.slice a B.length c,.int .i64 (k:Int),.bool (decide ((0:Int)<1))] 198 (0,0))],_⟩ _
   refine bJ 7 [] ?_
   refine cX [0] [(0,29)] T.mixed [[0],[1],[2]] ?_
   refine bV 3 ?_
   refine aB 1 [0] ?_
   refine bD ?_
   refine dE [[4]] ?_
   refine oA 9 rfl tJ ?_
   refine dE [[5],[6],[7],[8],[9],[10],[11],[12],[13],[14],[15],[16],[17],[18],[19],[20],[21],[22],[23],[24],[25],[26],[27],[28]] ?_
   refine bV 29 ?_
   refine aB 1 [] ?_
   refine bD ?_
   refine dE [[30],[31]] ?_
   refine jB sG trivial wJ ?_
   refine dX 17 [1,0] ?_
   refine mB [0] ?_
   rw [ML rfl]
   exact ⟨rfl,rfl,rfl⟩
 | false =>
   show Wc none Tryz.prog _ ⟨_,_,_,_⟩ ⟨_,_,[(0,some b,.cells #[.slice a B.length c,.int .i64 (k:Int),.bool (decide ((1:Int)<0))] 198 (0,0))],_⟩ _
   refine bJ 7 [] ?_
   refine cX [0] [] T.mixed [[0],[1],[2],[3,0],[4]] ?_
   refine Gm.no 9 rfl sE ?_
   refine dE [[5],[6],[7],[8,0],[9],[10],[11],[12,0],[13],[14],[15],[16]] ?_
   refine Gm.cases 21 rfl (fun hg1=>?_) fun hg1=>?_
   · refine dE [[17],[18],[19],[20],[21],[22],[23],[24],[25],[26],[27],[28]] ?_
     refine bV 29 ?_
     refine aB 1 [] ?_
     refine bD ?_
     refine dE [[30],[31]] ?_
     refine cZ ?_
     refine dX 17 [1,0] ?_
     refine mB [0] ?_
     rw [WR (s:=⟨k,false⟩) (show k=B.length by omega)]
     exact ⟨rfl,rfl,rfl⟩
   have h8:=hB k sE
   have ew:IntKind.i64.wrap (B[(k:Int).toNat]?.getD default).v=(B[k]?.getD default).v:=QB (by show _≤(B[k]?.getD default).v∧(B[k]?.getD default).v≤_;omega)
   refine dE [[17],[18],[19],[20],[21,0],[22],[23],[24],[25,0]] ?_
   refine pF 26 [] rfl (jA (α:=U8) T.sl38 rfl rfl hA sE) ?_
   refine pF 27 [] rfl (cJ T.one5 rfl (iC hA sE 0 rfl rfl)) ?_
   refine pF 28 [] rfl (fN rfl T.u3 rfl) ?_
   refine bV 29 ?_
   refine aB 1 [] ?_
   rw [ew]
   refine eC (fst:=[]) (cap:=caps) 20 rfl hg.1 rfl rfl (hg.2 _ _ (bK _) h8.1 h8.2) (sJ trivial) fun v9 G9 Ho9 hle9 hp=>?_
   obtain ⟨rfl,rfl,rfl⟩:=hp
   refine bD ?_
   refine pF 30 [] rfl (fF rfl) ?_
   refine dE [[31]] ?_
   refine cZ ?_
   refine cO ?_
   refine cT (fun hc1=>?_) fun hc1=>?_
   refine bE 15 [0] ?_
   refine mB [0] ?_
   rotate_left
   refine bJ 15 [0,0] ?_
   refine cX [0] [] T.mixed [[0],[1],[2],[3,0],[4],[5],[6],[7,0],[8]] ?_
   refine mQ (α:=U8) 9 T.sl38 ?_
   refine qU 10 [0] 0 T.one5 ?_
   refine dN 11 [] rfl (fN rfl T.u3 rfl) ?_
   refine dE [[12]] ?_
   refine cZ ?_
   refine dX 2 [] ?_
   refine mB [0] ?_
   rotate_left
   · rw [WS (s:=⟨k,false⟩) (lG.2 hc1)]
     exact ⟨rfl,rfl,rfl⟩
   rw [ZK (s:=⟨k,false⟩) rfl (show k≠B.length by omega) (eP.1 hc1)]
   have e2:(k:Int)+1 - 1=(k:Int):=sE
   rw [e2,ew]
   exact ⟨rfl,rfl,rfl⟩
theorem jz (G:Imm) (lo hi x:Int) (b1 b2:Nat) (c1 c2:Array Value) (t1 t2:TypeId) (z1 z2:Nat×Nat) (h1:G b1=some (.cells c1 t1 z1)) (h2:G b2=some (.cells c2 t2 z2)) (e1:c1[0]?=some (.int .i64 lo)) (e2:c2[0]?=some (.int .i64 hi)) :
 Does Tryz.prog 170 [.int .i64 x,.pointer (some ⟨b1,0,none⟩),.pointer (some ⟨b2,0,none⟩)] G [] (fun v G' Ho=>v=.bool (decide (lo≤x∧x≤hi))∧G'=G∧Ho=[]):=by
 refine D0 Tryz.func170 Tryz.ntmps170 fun w=>?_
 by_cases hlo:lo≤x
 · refine aJ 8 [] ?_
   refine aO (cJ T.one3 rfl (vO h1 e1)) ?_
   refine aB 2 [] ?_
   refine VC 8 ?_
   refine aB 3 [] ?_
   refine aO (cJ T.one3 rfl (vO h2 e2)) ?_
   refine aR 7 [] ?_
   refine cP ?_
   refine ⟨?_,rfl,rfl⟩
   congr 1
   rw [oB,aS]
   simp [hlo]
 refine aJ 8 [] ?_
 refine aO (cJ T.one3 rfl (vO h1 e1)) ?_
 refine aB 2 [] ?_
 refine oM 8 ?_
 refine aR 8 [] ?_
 refine cP ?_
 refine ⟨?_,rfl,rfl⟩
 congr 1
 rw [oB,aS]
 simp [hlo]
theorem kc (G:Imm) (x:Int):Does Tryz.prog 171 [.int .i64 x] G [] (fun v G' Ho=>v=.bool (decide (x≤16∨240≤x))∧G'=G∧Ho=[]):=by
 refine D0 Tryz.func171 Tryz.ntmps171 fun w=>?_
 refine aJ 10 [] ?_
 apply dP 3 5 8 rfl
 intro hg1
 refine aB 5 [] ?_
 exact dA 3 0
 intro hg1
 refine aB 3 [] ?_
 exact dA 3 0
 refine aR 4 [] ?_
 refine cP ?_
 exact ⟨rfl,rfl,rfl⟩
theorem Cz (p:Prop) [Decidable p]:Value.bool (decide p)=Value.bool (decide (decide p=true)):=by
 congr 1
 rw [oB]
 simp
theorem Bp (G:Imm) (b:Nat) (a:Option Addr) (c:Nat) (B:List U8) (s:RS) (lo hi:Int) (hA:Arr G a B) (hB:Bytes B) (hk:s.k≤B.length) (hl:B.length≤1048576) :
 Does Tryz.prog 123 [.pointer (some ⟨b,0,none⟩),.int .i64 lo,.int .i64 hi] G [(0,some b,Ww a B.length c s)] (fun v G' Ho=>∃ (x:Int) (t:RS),wi B s lo hi=(x,t)∧t.k≤B.length∧(0≤x∧x≤255)∧v=.int .i64 x∧Ho=[(0,some b,Ww a B.length c t)]):=by
 refine D0 Tryz.func123 Tryz.ntmps123 fun w=>?_
 refine aJ 2 [] ?_
 refine dQ 1 fun b1=>?_
 refine dQ 2 fun b2=>?_
 refine aL 6 [] ?_
 refine aO (gT rfl rfl) ?_
 refine lQ 1 rfl fun G1 hle1 hb1=>?_
 refine lQ 2 rfl fun G2 hle2 hb2=>?_
 have hb1':=hle2 _ _ hb1
 have hG:Qm G2 170 [.pointer (some ⟨b1,0,none⟩),.pointer (some ⟨b2,0,none⟩)] (fun x=>decide (lo≤x∧x≤hi)):=⟨T.fn170,fun G' x hle h0 h1=>(jz G' lo hi x b1 b2 _ _ _ _ _ _ (hle _ _ hb1') (hle _ _ hb2) rfl rfl).mono fun v G'' Ho _ h=>⟨h.1.trans (Cz _),h.2⟩⟩
 refine bX 0 rfl (JD _ b a c B s 170 _ _ hG ((hA.up hle1).up hle2) hB hk hl) fun v3 G3 Ho3 hle3 hp=>?_
 obtain ⟨rfl,rfl,rfl⟩:=hp
 refine aR 4 [] ?_
 refine mB [0] ?_
 exact ⟨_,_,rfl,eo hk,WT hB hk,rfl,rfl⟩
theorem w8 {x:Int} (h:0≤x∧x≤255):IntKind.i8.wrap x=if 128≤x then x - 256 else x:=by
 simp [IntKind.wrap,IntKind.bits,IntKind.signed]
 split <;> split <;> omega
def gS (x:Int):Bool:=decide (x≤16∨240≤x)
theorem bn (B:List U8) (s:RS):sg B s=(if 128≤(nx B s gS).1 then (nx B s gS).1 - 256 else (nx B s gS).1,(nx B s gS).2):=rfl
theorem bq (G:Imm) (b:Nat) (a:Option Addr) (c:Nat) (B:List U8) (s:RS) (hA:Arr G a B) (hB:Bytes B) (hk:s.k≤B.length) (hl:B.length≤1048576) :
 Does Tryz.prog 124 [.pointer (some ⟨b,0,none⟩)] G [(0,some b,Ww a B.length c s)] (fun v G' Ho=>∃ (x:Int) (t:RS),sg B s=(x,t)∧t.k≤B.length∧(-128≤x∧x≤255)∧v=.int .i64 x∧Ho=[(0,some b,Ww a B.length c t)]):=by
 refine D0 Tryz.func124 Tryz.ntmps124 fun w=>?_
 refine aJ 8 [] ?_
 have hG:Qm G 171 [] gS:=⟨T.fn171,fun G' x hle h0 h1=>(kc G' x).mono fun v G'' Ho _ h=>⟨h.1.trans (Cz _),h.2⟩⟩
 refine bX 0 rfl (JD _ b a c B s 171 _ _ hG hA hB hk hl) fun v3 G3 Ho3 hle3 hp=>?_
 obtain ⟨rfl,rfl,rfl⟩:=hp
 have hv:=Kc (B:=B) (s:=s) (g:=gS) hB hk
 have hk2:=Sg (B:=B) (s:=s) (g:=gS) hk
 have e9:=bn B s
 obtain ⟨x,t,e⟩:∃ x t,nx B s gS=(x,t):=⟨_,_,rfl⟩
 rw [e] at hv hk2 e9 ⊢
 dsimp only at hv hk2 e9 ⊢
 refine aO (fN rfl T.u253 rfl) ?_
 refine aO (fN rfl T.u3 rfl) ?_
 refine aR 4 [] ?_
 refine mB [0] ?_
 refine ⟨_,t,e9,hk2,by split <;> omega,?_,rfl⟩
 rw [w8 hv,QB Rn]
theorem w16 {x:Int} (h:0≤x∧x≤65535):IntKind.i16.wrap x=if 32768≤x then x - 65536 else x:=by
 simp [IntKind.wrap,IntKind.bits,IntKind.signed]
 split <;> split <;> omega
theorem Qn {h l:Int} (hh:0≤h∧h≤255) (hl:0≤l∧l≤255):bits .or .i64 (h*256) l=h*256+l:=by
 obtain ⟨a,rfl⟩:∃ a:Nat,h=(a:Int):=⟨h.toNat,by omega⟩
 obtain ⟨b,rfl⟩:∃ b:Nat,l=(b:Int):=⟨l.toNat,by omega⟩
 have e:=(bits_nat .i64 16 sN (fun n h1 h2=>QB (by have:(2:Int) ^ 16=65536:=sN;omega)) (2 ^ 8*a) b sE sE).2
 rw [←lF sE a] at e
 have e2:((a:Int)*256)=((2 ^ 8*a:Nat):Int):=sE
 rw [e2,e]
 omega
theorem UE {h:Int} (hh:0≤h∧h≤65535):IntKind.i64.wrap (h*2 ^ (min (8:Int).toNat IntKind.i64.bits))=h*256:=by
 have e:(2:Int) ^ (min (8:Int).toNat IntKind.i64.bits)=256:=sN
 rw [e,QB sE]
theorem XQ (G:Imm) (h l:Int) (hh:0≤h∧h≤255) (hl:0≤l∧l≤255):Does Tryz.prog 218 [.int .i64 h,.int .i64 l] G [] (fun v G' Ho=>v=.int .i64 (i16 h l)∧G'=G∧Ho=[]):=by
 refine D0 Tryz.func218 Tryz.ntmps218 fun w=>?_
 refine aJ 8 [] ?_
 refine aO (Qy.shl rfl rfl sE) ?_
 refine aB 1 [] ?_
 refine aO (rV rfl rfl) ?_
 refine aO (fN rfl T.u292 rfl) ?_
 refine aO (fN rfl T.u3 rfl) ?_
 refine aR 4 [] ?_
 refine cP ?_
 refine ⟨?_,rfl,rfl⟩
 rw [UE sE,Qn hh hl,w16 sE,QB Rn]
 rfl
theorem br (G:Imm) (op x:Int) (b1:Nat) (c1:Array Value) (t1:TypeId) (z1:Nat×Nat) (h1:G b1=some (.cells c1 t1 z1)) (e1:c1[0]?=some (.int .i64 op)) :
 Does Tryz.prog 217 [.int .i64 x,.pointer (some ⟨b1,0,none⟩)] G [] (fun v G' Ho=>v=.bool (decide (Fg op x=true))∧G'=G∧Ho=[]):=by
 refine D0 Tryz.func217 Tryz.ntmps217 fun w=>?_
 refine aJ 8 [] ?_
 refine aO (cJ T.one3 rfl (vO h1 e1)) ?_
 by_cases ho:op=5∨op=6
 · rcases ho with rfl | rfl
   · refine aL 19 [1,1] ?_
     apply bW 3 10 13 rfl
     intro hg1
     refine aB 5 [] ?_
     exact dA 3 0
     intro hg1
     refine aB 3 [] ?_
     exact dA 3 0
     refine aB 1 [] ?_
     apply bW 3 14 17 rfl
     intro hg1
     refine aB 5 [] ?_
     exact dA 3 0
     intro hg1
     refine aB 3 [] ?_
     exact dA 3 0
     refine aR 6 [] ?_
     refine cP ?_
     exact ⟨by unfold Fg;rw [aF (by omega)];exact Cz _,rfl,rfl⟩
   refine aL 22 [0,1] ?_
   apply bW 3 10 13 rfl
   intro hg1
   refine aB 5 [] ?_
   exact dA 3 0
   intro hg1
   refine aB 3 [] ?_
   exact dA 3 0
   refine aB 1 [] ?_
   apply bW 3 14 17 rfl
   intro hg1
   refine aB 5 [] ?_
   exact dA 3 0
   intro hg1
   refine aB 3 [] ?_
   exact dA 3 0
   refine aR 6 [] ?_
   refine cP ?_
   exact ⟨by unfold Fg;rw [aF (by omega)];exact Cz _,rfl,rfl⟩
 by_cases ho2:op=7∨op=8
 · rcases ho2 with rfl | rfl
   · refine aL 33 [0,0,1,1] ?_
     apply bW 3 23 26 rfl
     intro hg1
     refine aB 5 [] ?_
     exact dA 3 0
     intro hg1
     refine aB 3 [] ?_
     exact dA 3 0
     refine aR 6 [] ?_
     refine cP ?_
     exact ⟨by unfold Fg;rw [aD (by omega),aF (by omega)];exact Cz _,rfl,rfl⟩
   refine aL 36 [0,0,0,1] ?_
   apply bW 3 23 26 rfl
   intro hg1
   refine aB 5 [] ?_
   exact dA 3 0
   intro hg1
   refine aB 3 [] ?_
   exact dA 3 0
   refine aR 6 [] ?_
   refine cP ?_
   exact ⟨by unfold Fg;rw [aD (by omega),aF (by omega)];exact Cz _,rfl,rfl⟩
 refine aR 42 [0,0,0,0] ?_
 refine cP ?_
 exact ⟨by unfold Fg;rw [aD ho,aD ho2];exact Cz _,rfl,rfl⟩
def CapsC (G:Imm) (op:Int) (bo bm bb:Nat):Prop:=
 (∃ c t z,G bo=some (.cells c t z)∧c[0]?=some (.int .i64 op))∧(∃ c t z,G bm=some (.cells c t z)∧c[0]?=some (.func (.func 217) #[] #[.pointer (some ⟨bo,0,none⟩)]))∧(∃ c t z,G bb=some (.cells c t z)∧c[0]?=some (.func (.func 218) #[] #[]))
theorem CapsC.up {G G':Imm} {op:Int} {bo bm bb:Nat} (h:CapsC G op bo bm bb) (hl:G.le G'):CapsC G' op bo bm bb:=by
 obtain ⟨⟨c1,t1,z1,h1,e1⟩,⟨c2,t2,z2,h2,e2⟩,c3,t3,z3,h3,e3⟩:=h
 exact ⟨⟨c1,t1,z1,hl _ _ h1,e1⟩,⟨c2,t2,z2,hl _ _ h2,e2⟩,c3,t3,z3,hl _ _ h3,e3⟩
theorem XR {op h:Int} (hn:∀ t:Nat,t<256→Fg op (i16 h (t:Int))=false):QA op h=false:=by
 unfold QA
 rw [List.any_eq_false]
 intro t ht
 rw [hn t (iM.1 ht)]
 decide
theorem UF {op h:Int} {t:Nat} (ht:t<256) (hm:Fg op (i16 h (t:Int))=true):QA op h=true:=by
 unfold QA
 rw [sA]
 exact ⟨t,iM.2 ht,hm⟩
theorem kd (G:Imm) (op x:Int) (bo bm bb:Nat) (hC:CapsC G op bo bm bb) (hx:0≤x∧x≤255) :
 Does Tryz.prog 219 [.int .i64 x,.pointer (some ⟨bm,0,none⟩),.pointer (some ⟨bb,0,none⟩)] G [] (fun v G' Ho=>v=.bool (decide (QA op x=true))∧G'=G∧Ho=[]):=by
 obtain ⟨⟨c1,t1,z1,h1,e1⟩,⟨c2,t2,z2,h2,e2⟩,c3,t3,z3,h3,e3⟩:=hC
 refine D0 Tryz.func219 Tryz.ntmps219 fun w=>?_
 refine bJ 12 [] ?_
 refine gY (ι:=Nat) (fun j=>([(6,.int .i64 (j:Int)),(0,.int .i64 x),(1,.pointer (some ⟨bm,0,none⟩)),(2,.pointer (some ⟨bb,0,none⟩))],[])) (fun j=>j≤256∧∀ t:Nat,t<j→Fg op (i16 x (t:Int))=false) (fun j=>256 - j) (0) (⟨aM _,fun t h=>absurd h sE⟩) fun j=>fun hk=>?_
 obtain ⟨hj,hno⟩:=hk
 rcases aK j 256 with hjl | hjl
 · refine bJ 18 [1] ?_
   refine gQ [] [] T.mixed rfl ?_
   refine dN 0 [] rfl (cJ T.one171 rfl (vO h2 e2)) ?_
   refine dN 1 [] rfl (cJ T.one110 rfl (vO h3 e3)) ?_
   refine dE [[2],[3]] ?_
   refine jF 4 trivial (bK _) sG rfl ?_
   refine eC (fst:=[]) (cap:=[]) 2 rfl T.fn218 rfl rfl (XQ _ x (j:Int) hx sE) (sJ trivial) fun v8 G8 Ho8 hle8 hp=>?_
   obtain ⟨rfl,rfl,rfl⟩:=hp
   refine bD ?_
   refine jF 5 trivial (bK _) sG rfl ?_
   refine eC (fst:=[]) (cap:=[.pointer (some ⟨bo,0,none⟩)]) 2 rfl T.fn217 rfl rfl (br _ op _ bo _ _ _ h1 e1) (sJ trivial) fun v9 G9 Ho9 hle9 hp=>?_
   obtain ⟨rfl,rfl,rfl⟩:=hp
   refine bD ?_
   refine jB sG trivial (bK _) ?_
   refine cO ?_
   refine cT (fun hc1=>?_) fun hc1=>?_
   refine bE 11 [] ?_
   rotate_left
   refine bE 7 [] ?_
   rotate_left
   · refine cP ?_
     exact ⟨by rw [UF hjl sF];rfl,rfl,rfl⟩
   refine cN 6 rfl (show _=Value.int .i64 ((j+1:Nat):Int) from rfl) ?_
   refine cL (j+1) ?_ ?_
   · refine ⟨by omega,fun t ht=>?_⟩
     rcases aK t j with h | h
     · exact hno t h
     have e:t=j:=sE
     subst e;exact lG.2 sF
   show 256 - (j+1)<256 - j
   omega
 refine bE 18 [0] ?_
 refine cP ?_
 exact ⟨by rw [XR (fun t ht=>hno t sE)];rfl,rfl,rfl⟩
theorem ke (G:Imm) (op h x:Int) (bo bm bb bh:Nat) (hC:CapsC G op bo bm bb) (c4:Array Value) (t4:TypeId) (z4:Nat×Nat) (h4:G bh=some (.cells c4 t4 z4)) (e4:c4[0]?=some (.int .i64 h)) (hh:0≤h∧h≤255) (hx:0≤x∧x≤255) :
 Does Tryz.prog 220 [.int .i64 x,.pointer (some ⟨bm,0,none⟩),.pointer (some ⟨bb,0,none⟩),.pointer (some ⟨bh,0,none⟩)] G [] (fun v G' Ho=>v=.bool (decide (Fg op (i16 h x)=true))∧G'=G∧Ho=[]):=by
 obtain ⟨⟨c1,t1,z1,h1,e1⟩,⟨c2,t2,z2,h2,e2⟩,c3,t3,z3,h3,e3⟩:=hC
 refine D0 Tryz.func220 Tryz.ntmps220 fun w=>?_
 refine bJ 6 [] ?_
 refine gQ [] [] T.mixed rfl ?_
 refine dN 0 [] rfl (cJ T.one171 rfl (vO h2 e2)) ?_
 refine dN 1 [] rfl (cJ T.one110 rfl (vO h3 e3)) ?_
 refine dN 2 [] rfl (cJ T.one3 rfl (vO h4 e4)) ?_
 refine dE [[3]] ?_
 refine jF 4 trivial (bK _) sG rfl ?_
 refine eC (fst:=[]) (cap:=[]) 2 rfl T.fn218 rfl rfl (XQ _ h x hh hx) (sJ trivial) fun v8 G8 Ho8 hle8 hp=>?_
 obtain ⟨rfl,rfl,rfl⟩:=hp
 refine bD ?_
 refine jF 5 trivial (bK _) sG rfl ?_
 refine eC (fst:=[]) (cap:=[.pointer (some ⟨bo,0,none⟩)]) 2 rfl T.fn217 rfl rfl (br _ op _ bo _ _ _ h1 e1) (sJ trivial) fun v9 G9 Ho9 hle9 hp=>?_
 obtain ⟨rfl,rfl,rfl⟩:=hp
 refine bD ?_
 refine dE [[6]] ?_
 refine jB sG trivial (bK _) ?_
 refine dX 2 [] ?_
 refine cP ?_
 exact ⟨rfl,rfl,rfl⟩
theorem bs (G:Imm) (b:Nat) (a:Option Addr) (c:Nat) (B:List U8) (s:RS) (op:Int) (hA:Arr G a B) (hB:Bytes B) (hk:s.k≤B.length) (hl:B.length≤1048576) :
 Does Tryz.prog 174 [.pointer (some ⟨b,0,none⟩),.int .i64 op] G [(0,some b,Ww a B.length c s)] (fun v G' Ho=>∃ (x:Int) (t:RS),HP B s op=(x,t)∧t.k≤B.length∧v=.int .i64 x∧Ho=[(0,some b,Ww a B.length c t)]):=by
 refine D0 Tryz.func174 Tryz.ntmps174 fun w=>?_
 refine aJ 2 [] ?_
 refine dQ 1 fun b1=>?_
 refine aL 5 [] ?_
 refine aO (gT rfl rfl) ?_
 refine aN 2 rfl T.zero171 fun b2=>?_
 refine aL 5 [2] ?_
 refine aN 3 rfl T.zero110 fun b3=>?_
 refine aL 6 [3] ?_
 refine aO (gT rfl rfl) ?_
 refine lQ 1 rfl fun G1 hle1 hb1=>?_
 refine lQ 2 rfl fun G2 hle2 hb2=>?_
 refine lQ 3 rfl fun G3 hle3 hb3=>?_
 have hC:CapsC G3 op b1 b2 b3:=⟨⟨_,_,_,hle3 _ _ (hle2 _ _ hb1),rfl⟩,⟨_,_,_,hle3 _ _ hb2,rfl⟩,_,_,_,hb3,rfl⟩
 have hA3:=((hA.up hle1).up hle2).up hle3
 have hG:Qm G3 219 [.pointer (some ⟨b2,0,none⟩),.pointer (some ⟨b3,0,none⟩)] (QA op):=⟨T.fn219,fun G' x hle h0 h1=>kd G' op x b1 b2 b3 (hC.up hle) ⟨h0,h1⟩⟩
 refine bX 0 rfl (JD _ b a c B s 219 _ _ hG hA3 hB hk hl) fun v4 G4 Ho4 hle4 hp=>?_
 obtain ⟨rfl,rfl,rfl⟩:=hp
 have hh:=Kc (B:=B) (s:=s) (g:=QA op) hB hk
 have hk1:=Sg (B:=B) (s:=s) (g:=QA op) hk
 obtain ⟨h,t,e⟩:∃ h t,nx B s (QA op)=(h,t):=⟨_,_,rfl⟩
 rw [e] at hh hk1 ⊢
 dsimp only at hh hk1 ⊢
 refine aN 4 rfl T.zero3 fun b4=>?_
 refine aL 6 [4] ?_
 refine aO (gT rfl rfl) ?_
 refine lQ 4 rfl fun G5 hle5 hb5=>?_
 have hC5:=hC.up hle5
 have hG2:Qm G5 220 [.pointer (some ⟨b2,0,none⟩),.pointer (some ⟨b3,0,none⟩),.pointer (some ⟨b4,0,none⟩)] (fun l=>Fg op (i16 h l)):=⟨T.fn220,fun G' x hle h0 h1=>ke G' op h x b1 b2 b3 b4 (hC5.up hle) _ _ _ (hle _ _ hb5) rfl hh ⟨h0,h1⟩⟩
 refine bX 0 rfl (JD _ b a c B t 220 _ _ hG2 (hA3.up hle5) hB hk1 hl) fun v6 G6 Ho6 hle6 hp=>?_
 obtain ⟨rfl,rfl,rfl⟩:=hp
 have hh2:=Kc (B:=B) (s:=t) (g:=fun l=>Fg op (i16 h l)) hB hk1
 have hk2:=Sg (B:=B) (s:=t) (g:=fun l=>Fg op (i16 h l)) hk1
 obtain ⟨l,u,e2⟩:∃ l u,nx B t (fun l=>Fg op (i16 h l))=(l,u):=⟨_,_,rfl⟩
 rw [e2] at hh2 hk2 ⊢
 dsimp only at hh2 hk2 ⊢
 have hb3':=hle5 _ _ hb3
 refine aL 5 [] ?_
 refine aO (cJ T.one110 rfl (vO hb3' rfl)) ?_
 refine aO (cJ T.one3 rfl (vO hb5 rfl)) ?_
 refine aB 1 [] ?_
 refine eC (fst:=[]) (cap:=[]) 5 rfl T.fn218 rfl rfl (XQ _ h l hh hh2) (sJ trivial) fun v7 G7 Ho7 hle7 hp=>?_
 obtain ⟨rfl,rfl,rfl⟩:=hp
 refine aR 4 [] ?_
 refine mB [0] ?_
 exact ⟨i16 h l,u,by unfold HP;rw [e];dsimp only;rw [e2],hk2,rfl,rfl⟩
theorem BC {t:RS} (h:t.wr=true):(⟨t.k,true⟩:RS)=t:=by
 obtain ⟨k,w⟩:=t
 cases h;rfl
theorem Qo {B:List U8} {s:RS} {lo hi:Int} (h:s.wr=true):wi B s lo hi=(0,s):=by rw [ZL h,BC h]
theorem Qp {B:List U8} {s:RS} {g:Int→Bool} (h:s.wr=true):nx B s g=(0,s):=by rw [ML h,BC h]
theorem UG {B:List U8} {s:RS} {op:Int} (h:s.wr=true):(HP B s op).2=s:=by
 unfold HP
 rw [Qp h]
 dsimp only
 rw [Qp h]
theorem UI {B:List U8} {s:RS} {regs:Int} (h:s.wr=true):(Uz B s regs).2=s:=by
 unfold Uz
 simp only [Qo h]
 split <;> exact UG h
theorem BD {B:List U8} {regs:Int}:∀ (n:Nat) (s:RS) (acc:List Sl.Instr),s.wr=true→zB B regs n s acc=(acc,s)
 | 0,s,acc,_=>rfl
 | n+1,s,acc,h=>by
   have e:=UI (B:=B) (regs:=regs) h
   cases hq:Uz B s regs with
   | mk i t =>
     rw [hq] at e
     replace e:t=s:=e
     subst e
     unfold zB
     rw [hq]
     dsimp only
     rw [aF h]
theorem Qq {B:List U8} {regs:Int}:∀ (n:Nat) (s:RS) (acc:List Int),s.wr=true→(Ca B regs n s acc).2=s
 | 0,s,acc,_=>rfl
 | n+1,s,acc,h=>by
   unfold Ca
   rw [Qo h]
   exact Qq n s _ h
theorem XS {B:List U8} {s:RS} (h:s.wr=true):(sg B s).2=s:=by
 unfold sg;rw [Qp h]
theorem FT {B:List U8}:∀ (n:Nat) (s:RS) (acc:List R2),s.wr=true→(Kd B n s acc).2=s
 | 0,s,acc,_=>rfl
 | n+1,s,acc,h=>by
   have e:=XS (B:=B) h
   cases hq:sg B s with
   | mk x t =>
     rw [hq] at e
     replace e:t=s:=e
     subst e
     unfold Kd
     rw [hq]
     dsimp only
     rw [hq]
     dsimp only
     exact FT n t _ h
theorem BE {B:List U8} {regs:Int} {n:Nat} {s t:RS} {acc:List Sl.Instr} {i:Sl.Instr} (e:Uz B s regs=(i,t)) (h:t.wr=false):zB B regs (n+1) s acc=zB B regs n t (acc++[i]):=by
 rw [zB,e]
 dsimp only
 rw [aD (by rw [h];decide)]
theorem Tw {B:List U8} {regs:Int} {n:Nat} {s t:RS} {acc:List Sl.Instr} {i:Sl.Instr} (e:Uz B s regs=(i,t)) (h:t.wr=true):zB B regs (n+1) s acc=(acc,t):=by
 rw [zB,e]
 dsimp only
 rw [aF h]
theorem PM {B:List U8} {regs:Int} {n:Nat} {s t:RS} {acc:List Int} {x:Int} (e:wi B s 0 (regs - 1)=(x,t)):Ca B regs (n+1) s acc=Ca B regs n t (acc++[x]):=by
 rw [Ca,e]
theorem Nb {B:List U8} {s t1 t2 t3 t4 t5:RS} {regs op to a b c:Int} (e1:wi B s 1 8=(op,t1)) (e2:wi B t1 0 (regs - 1)=(to,t2)) (e3:wi B t2 0 (regs - 1)=(a,t3)) (e4:(if op=3∨op=4 then wi B t3 0 (regs - 1) else ((0:Int),(wi B t3 0 0).2))=(b,t4)) (e5:HP B t4 op=(c,t5)):Uz B s regs=(⟨op,to,a,b,c⟩,t5):=by
 unfold Uz
 rw [e1];dsimp only
 rw [e2];dsimp only
 rw [e3];dsimp only
 rw [e4];dsimp only
 rw [e5]
theorem kf (G:Imm) (x:Int) (hx:0≤x∧x≤255):Does Tryz.prog 172 [.int .i64 x] G [] (fun v G' Ho=>v=.bool (decide (x*256≤16384))∧G'=G∧Ho=[]):=by
 refine D0 Tryz.func172 Tryz.ntmps172 fun w=>?_
 refine aJ 8 [] ?_
 refine aO (Qy.shl rfl rfl sE) ?_
 refine aR 5 [] ?_
 refine cP ?_
 rw [UE sE]
 exact ⟨rfl,rfl,rfl⟩
theorem kg (G:Imm) (h x:Int) (b1:Nat) (c1:Array Value) (t1:TypeId) (z1:Nat×Nat) (h1:G b1=some (.cells c1 t1 z1)) (e1:c1[0]?=some (.int .i64 h)) (hh:0≤h∧h≤255) (hx:0≤x∧x≤255) :
 Does Tryz.prog 173 [.int .i64 x,.pointer (some ⟨b1,0,none⟩)] G [] (fun v G' Ho=>v=.bool (decide (h*256+x≤16384))∧G'=G∧Ho=[]):=by
 refine D0 Tryz.func173 Tryz.ntmps173 fun w=>?_
 refine aJ 7 [] ?_
 refine aO (cJ T.one3 rfl (vO h1 e1)) ?_
 refine aO (Qy.shl rfl rfl sE) ?_
 refine aB 1 [] ?_
 refine aO (rV rfl rfl) ?_
 refine aR 5 [] ?_
 refine cP ?_
 rw [UE sE,Qn hh hx]
 exact ⟨rfl,rfl,rfl⟩
end Go.Proofs.YtfdcckcadfhpeaaGreatDoor
