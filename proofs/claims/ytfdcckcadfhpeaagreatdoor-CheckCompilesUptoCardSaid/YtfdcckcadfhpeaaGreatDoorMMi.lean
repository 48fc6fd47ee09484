/- uJ of the proof (part 9): what the rows' text needs of the texts that lead to it. -/
import Derived.Test.YtfdcckcadfhpeaaGreatDoorMMh
set_option linter.unusedVariables false
set_option linter.unusedSimpArgs false
set_option linter.unusedSectionVars false
set_option maxHeartbeats 4000000
noncomputable section
set_option maxRecDepth 100000
namespace Go.Proofs.YtfdcckcadfhpeaaGreatDoor
open Go Go.Sl
theorem ZE {xs ys:List Int} (h:xs.length=ys.length) (he:∀ i:Nat,i<xs.length→xs[i]?.getD default=ys[i]?.getD default):xs=ys:=by
 refine gS h fun i h1 h2=>?_;have:=he i h1;rw [aA h1,aA h2] at this;exact this
theorem AQ {a:J0 Addr} {c:Nat} {xs:List Int} {junk:List Value} (h:A3 a c xs junk) (n:Nat) (x:Int):A3 a c (xs.set n x) junk:=by
 rcases h with ⟨h1,h2,h3,h4⟩ | ⟨b,h1,h2,h3,h4⟩
 · exact .inl ⟨h1,by rw [h2];rfl,h3,h4⟩
 exact .inr ⟨b,h1,by rw [aI];exact h2,by rw [aI];exact h3,h4⟩
theorem Tj (p:PV):∀ j,(wN p j).held=(tF p p.code.length).held
 | 0=>rfl
 | j+1=>Tj p j
theorem Ck (p:PV):∀ j,(wN p j).a=(tF p p.code.length).a∧(wN p j).b=(tF p p.code.length).b∧(wN p j).sets=(tF p p.code.length).sets
 | 0=>⟨U,U,U⟩
 | j+1=>Ck p j
def lm (p:PV) (l:Life) (ac ao:J0 Addr) (cc co u:Nat) (nb:J0 Addr) (nc:Nat) (nj:List Value) (x y z n:Nat) (oo:J0 Addr) (od:Nat) (oj:List Value) (o:J0 Addr) (d:Nat) (j:List Value):Hp:=
 [(0,some u,.cells #[.int .i64 p.ins,.int .i64 p.regs,.slice ac p.code.length cc,.slice ao p.outs.length co,.slice nb (tC p).length nc,.slice (some ⟨x,0,none⟩) l.a.length n,.slice (some ⟨y,0,none⟩) l.b.length n,.slice (some ⟨z,0,none⟩) l.sets.length n,.slice oo l.outs.length od,.slice o l.till.length d] 143),
  (1,nb.map (·.block),Row 4 (tC p) nj),(2,some x,Row 3 l.a []),(3,some y,Row 3 l.b []),(4,some z,Row 3 l.sets []),(5,oo.map (·.block),Row 3 l.outs oj),(6,o.map (·.block),Row 3 l.till j)]
theorem Je {l:List Int} {k:Nat} {x:Int} (h:k<l.length):(l.set ((k:Nat):Int).toNat x)[((k:Nat):Int).toNat]?.getD default=x:=by
 rw [aG,pX h];rfl
theorem c81 (G:A2) (p:PV) (ac ao:J0 Addr) (cc co:Nat) (hc:Arr G ac p.code) (ho:Arr G ao p.outs) (h1:p.code.length≤1099511627776) (h2:p.outs.length≤1099511627776) (hR:sW p=true) :
 Does Tryz.prog 81 [.agg (J1 p ac cc ao co)] G [] (fun v G' Ho=>∃ u nb nc nj x y z n oo od oj o d j,v=.tuple #[.pointer (some ⟨u,0,none⟩),.int .i64 0]∧A3 nb nc (tC p) nj∧A3 (some ⟨x,0,none⟩) n (lifeP p).a []∧A3 (some ⟨y,0,none⟩) n (lifeP p).b []∧A3 (some ⟨z,0,none⟩) n (lifeP p).sets []∧A3 oo od (lifeP p).outs oj∧A3 o d (lifeP p).till j∧
  Ho=lm p (lifeP p) ac ao cc co u nb nc nj x y z n oo od oj o d j∧G'=G):=by
 obtain ⟨r1,r2,r3,r4,r5,r6,r7,r8⟩:=sZ hR;refine D0 Tryz.func81 Tryz.ntmps81 fun w=>?_;refine aK 2 [] ?_;refine eG 0 fun b1=>?_;refine aS 7 [0] ?_;refine cU 1 U (vf _ _ _ _ _ _ sV sV sU sU hR) fun v1 G1 Ho1 hle1 hp=>?_;obtain ⟨nb1,nc1,nj1,rfl,hon1,rfl,rfl⟩:=hp;refine bG 25 [0,0] ?_;refine rR (ι:=Nat×Nat×Nat×Nat) (fun (x,y,z,u)=>([(7,.pointer (some ⟨u,0,none⟩)),(6,.int .i64 (↑p.code.length:Int)),(4,.slice nb1 (List.length (tC p)) nc1),(3,.int .i64 0),(2,.pointer none),(1,.pointer (some ⟨b1,0,none⟩))],[(60,some x,Row 3 (List.replicate p.code.length (0:Int)) []),(61,some y,Row 3 (List.replicate p.code.length (0:Int)) []),(62,some z,Row 3 (List.replicate p.code.length (0:Int)) []),(63,some u,.cells #[.int .i64 p.ins,.int .i64 p.regs,.slice ac p.code.length cc,.slice ao p.outs.length co,.slice nb1 (tC p).length nc1,.slice (some ⟨x,0,none⟩) (List.replicate p.code.length (0:Int)).length (List.replicate p.code.length (0:Int)).length,.slice (some ⟨y,0,none⟩) (List.replicate p.code.length (0:Int)).length (List.replicate p.code.length (0:Int)).length,.slice (some ⟨z,0,none⟩) (List.replicate p.code.length (0:Int)).length (List.replicate p.code.length (0:Int)).length,.slice none 0 0,.slice none 0 0] 143),(1,Option.map (fun x=>Go.Addr.block x) nb1,Row (α:=Bool) 4 (tC p) (nj1)),(0,some b1,.cells (J1 p ac cc ao co) 26)])) (fun (x,y,z,u)=>True) ?_ fun ⟨x,y,z,u⟩=>fun (hk:True)=>?_
 · refine dL [0,1] [] T.mixed [[0,0],[1],[2],[4],[6]] ?_;refine Gm.o3 3 5 7 ?_ ?_ ?_;refine gM (α:=Int) 2 U T.sl24 T.el3 U U sU sU fun b2=>?_;refine bW ?_;refine oO 5 7 ?_ ?_;refine gM (α:=Int) 3 U T.sl24 T.el3 U U sU sU fun b3=>?_;refine cY 7 ?_;refine gM (α:=Int) 4 U T.sl24 T.el3 U U sU sU fun b4=>?_;refine bW ?_;refine fH 8 [] U (cQ (cs:=[_,_,_,_,_,_,_,_,_,_]) T.st143 U U U) ?_;refine dB 9 ?_;refine eG 5 fun b5=>?_;refine bW ?_;refine eO [[10]] ?_;refine eU ?_;rotate_left;refine gM (α:=Int) 3 U T.sl24 T.el3 U U sU sU fun b3=>?_;refine cY 5 ?_;refine gM (α:=Int) 4 U T.sl24 T.el3 U U sU sU fun b4=>?_;refine bW ?_;refine fH 8 [] U (cQ (cs:=[_,_,_,_,_,_,_,_,_,_]) T.st143 U U U) ?_;refine dB 9 ?_;refine eG 5 fun b5=>?_;refine bW ?_;refine eO [[10]] ?_;refine eU ?_;rotate_left;refine gM (α:=Int) 2 U T.sl24 T.el3 U U sU sU fun b2=>?_;refine bW ?_;refine oO 3 7 ?_ ?_;refine gM (α:=Int) 3 U T.sl24 T.el3 U U sU sU fun b3=>?_;refine cY 7 ?_;refine gM (α:=Int) 4 U T.sl24 T.el3 U U sU sU fun b4=>?_;refine bW ?_;refine fH 8 [] U (cQ (cs:=[_,_,_,_,_,_,_,_,_,_]) T.st143 U U U) ?_;refine dB 9 ?_;refine eG 5 fun b5=>?_;refine bW ?_;refine eO [[10]] ?_;refine eU ?_;rotate_left;refine gM (α:=Int) 3 U T.sl24 T.el3 U U sU sU fun b3=>?_;refine cY 3 ?_;refine gM (α:=Int) 4 U T.sl24 T.el3 U U sU sU fun b4=>?_;refine bW ?_;refine fH 8 [] U (cQ (cs:=[_,_,_,_,_,_,_,_,_,_]) T.st143 U U U) ?_;refine dB 9 ?_;refine eG 5 fun b5=>?_;refine bW ?_;refine eO [[10]] ?_;refine eU ?_;rotate_left;refine gM (α:=Int) 2 U T.sl24 T.el3 U U sU sU fun b2=>?_;refine bW ?_;refine oO 3 5 ?_ ?_;refine gM (α:=Int) 3 U T.sl24 T.el3 U U sU sU fun b3=>?_;refine cY 5 ?_;refine gM (α:=Int) 4 U T.sl24 T.el3 U U sU sU fun b4=>?_;refine bW ?_;refine fH 8 [] U (cQ (cs:=[_,_,_,_,_,_,_,_,_,_]) T.st143 U U U) ?_;refine dB 9 ?_;refine eG 5 fun b5=>?_;refine bW ?_;refine eO [[10]] ?_;refine eU ?_;rotate_left;refine gM (α:=Int) 3 U T.sl24 T.el3 U U sU sU fun b3=>?_;refine cY 3 ?_;refine gM (α:=Int) 4 U T.sl24 T.el3 U U sU sU fun b4=>?_;refine bW ?_;refine fH 8 [] U (cQ (cs:=[_,_,_,_,_,_,_,_,_,_]) T.st143 U U U) ?_;refine dB 9 ?_;refine eG 5 fun b5=>?_;refine bW ?_;refine eO [[10]] ?_;refine eU ?_;rotate_left;all_goals first | (refine Ar.retag 2 60 U U (Ar.retag 3 61 U U (Ar.retag 4 62 U U (Ar.retag 5 63 U U (pC (b2,b3,b4,b5) I3 U ?_ ?_)))) <;> (repeat (first | exact I3 | refine ⟨U,?_⟩));done) | (refine Ar.retag 2 60 U U (Ar.retag 4 61 U U (Ar.retag 3 62 U U (Ar.retag 5 63 U U (pC (b2,b4,b3,b5) I3 U ?_ ?_)))) <;> (repeat (first | exact I3 | refine ⟨U,?_⟩));done) | (refine Ar.retag 3 60 U U (Ar.retag 2 61 U U (Ar.retag 4 62 U U (Ar.retag 5 63 U U (pC (b3,b2,b4,b5) I3 U ?_ ?_)))) <;> (repeat (first | exact I3 | refine ⟨U,?_⟩));done) | (refine Ar.retag 3 60 U U (Ar.retag 4 61 U U (Ar.retag 2 62 U U (Ar.retag 5 63 U U (pC (b3,b4,b2,b5) I3 U ?_ ?_)))) <;> (repeat (first | exact I3 | refine ⟨U,?_⟩));done) | (refine Ar.retag 4 60 U U (Ar.retag 2 61 U U (Ar.retag 3 62 U U (Ar.retag 5 63 U U (pC (b4,b2,b3,b5) I3 U ?_ ?_)))) <;> (repeat (first | exact I3 | refine ⟨U,?_⟩));done) | (refine Ar.retag 4 60 U U (Ar.retag 3 61 U U (Ar.retag 2 62 U U (Ar.retag 5 63 U U (pC (b4,b3,b2,b5) I3 U ?_ ?_)))) <;> (repeat (first | exact I3 | refine ⟨U,?_⟩));done)
 clear hk;refine aK 4 [0] ?_;refine gM (α:=Int) 64 U T.sl24 T.el3 U U sU sU fun b2=>?_;refine bG 12 [] ?_;obtain ⟨Z,hZ⟩:∃ Z,Z=List.replicate p.code.length (0:Int):=⟨_,U⟩
 have hZl:Z.length=p.code.length:=by rw [hZ,aM]
 have hno:∀ b:Nat,A3 (some ⟨b,0,none⟩) Z.length Z []:=fun b=>iJ Qo;obtain ⟨R,hRn⟩:∃ R:Nat,p.regs=(R:Int):=⟨p.regs.toNat,by omega⟩
 have hRt:p.regs.toNat=R:=sU;rw [←hZ,hRt];have hown:∀ h:List Int,h.length=R→A3 (some ⟨b2,0,none⟩) R h []:=fun h hh=>.inr ⟨b2,U,by rw [hh];rfl,by omega,by simp only [maxLen];omega⟩;refine kY 8 U (show _=Value.slice (some ⟨b2,0,none⟩) (List.replicate R (default:Int)).length R by rw [aM]) ?_;refine kY 39 U (show _=Value.int .i64 (R:Int) by rw [aM]) ?_;refine gZ (ι:=Nat×List Int) (fun (k,h)=>([(40,.int .i64 (k:Int)),(8,.slice (some ⟨b2,0,none⟩) h.length R),(39,.int .i64 (↑R:Int)),(7,.pointer (some (Addr.mk u 0 none))),(6,.int .i64 (↑p.code.length:Int)),(4,.slice nb1 (List.length (tC p)) nc1),(3,.int .i64 0),(2,.pointer none),(1,.pointer (some ⟨b1,0,none⟩))],[(64,some b2,Row 3 h []),(60,some x,Row (α:=Int) 3 (Z) ([])),(61,some y,Row (α:=Int) 3 (Z) ([])),(62,some z,Row (α:=Int) 3 (Z) ([])),(63,some u,.cells #[.int .i64 p.ins,.int .i64 p.regs,.slice ac p.code.length cc,.slice ao p.outs.length co,.slice nb1 (List.length (tC p)) nc1,.slice (some (Addr.mk x 0 none)) (List.length Z) (List.length Z),.slice (some (Addr.mk y 0 none)) (List.length Z) (List.length Z),.slice (some (Addr.mk z 0 none)) (List.length Z) (List.length Z),.slice none 0 0,.slice none 0 0] 143),(1,Option.map (fun x=>Go.Addr.block x) nb1,Row (α:=Bool) 4 (tC p) (nj1)),(0,some b1,.cells (J1 p ac cc ao co) 26)])) (fun (k,h)=>k≤R∧h.length=R∧∀ q:Nat,q<k→h[q]?.getD default=min (q:Int) p.ins) (fun (k,h)=>R - k) ((0,List.replicate R (default:Int))) (⟨aP _,aM,fun q hq=>by omega⟩) fun ⟨k,h⟩=>fun hk=>?_;obtain ⟨hk1,hhl,hhe⟩:=hk;have hoh:=hown h hhl;rcases aN k R with hkR | hkR
 · refine aK 22 [1,0] ?_;refine cZ U (vg _ _ _ _ _ _ _) ?_;refine gY (α:=Int) T.sl24 ?_;refine dJ (z:=_) 64 T.size3 U U U sV sU U fun ho1=>?_;refine aY 7 [] ?_;refine dW 8 U (show _=Value.slice (some ⟨b2,0,none⟩) (h.set (k:Int).toNat (min (k:Int) p.ins)).length R by rw [aI]) ?_;refine cO ((k+1,h.set (k:Int).toNat (min (k:Int) p.ins))) ?_ ?_
   · refine ⟨hkR,by rw [aI];exact hhl,fun q hq=>?_⟩;rw [aG,cE];by_cases hqk:k=q
     · subst hqk;rw [aE rfl,aE (by omega)];rfl
     rw [aC hqk];exact hhe q sU
   show R - (k+1)<R - k;omega
 have hh0:h=(wM p).held:=by
  refine ZE (by rw [hhl];show R=((List.range p.regs.toNat).map _).length;rw [aT,cM,hRt]) fun q hq=>?_;rw [hhe q sU];show _=((List.range p.regs.toNat).map fun (r:Nat)=>min (r:Int) p.ins)[q]?.getD default;rw [bQ,eF sU];rfl
 refine bJ 22 [0,0] ?_;refine dK 65 (Row 3 ([]:List Int) []) ?_;refine fY (ι:=Nat×List Int×(J0 Addr×Nat×List Value)) (fun (i,t,(o,d,j))=>([(53,.int .i64 (i:Int)),(52,.int .i64 (PV.ins p+1)),(8,.slice (some (Addr.mk b2 0 none)) (List.length h) R),(7,.pointer (some (Addr.mk u 0 none))),(6,.int .i64 (↑p.code.length:Int)),(4,.slice nb1 (List.length (tC p)) nc1),(3,.int .i64 0),(2,.pointer none),(1,.pointer (some ⟨b1,0,none⟩))],[(63,some u,.cells #[.int .i64 p.ins,.int .i64 p.regs,.slice ac p.code.length cc,.slice ao p.outs.length co,.slice nb1 (tC p).length nc1,.slice (some ⟨x,0,none⟩) Z.length Z.length,.slice (some ⟨y,0,none⟩) Z.length Z.length,.slice (some ⟨z,0,none⟩) Z.length Z.length,.slice none 0 0,.slice o t.length d] 143),(65,o.map (·.block),Row 3 t j),(64,some b2,Row (α:=Int) 3 (h) ([])),(60,some x,Row (α:=Int) 3 (Z) ([])),(61,some y,Row (α:=Int) 3 (Z) ([])),(62,some z,Row (α:=Int) 3 (Z) ([])),(1,Option.map (fun x=>Go.Addr.block x) nb1,Row (α:=Bool) 4 (tC p) (nj1)),(0,some b1,.cells (J1 p ac cc ao co) 26)])) (fun (i,t,(o,d,j))=>(i:Int)≤p.ins+1∧t=List.replicate i (-1)∧A3 o d t j) (fun (i,t,(o,d,j))=>p.ins.toNat+1 - i) ((0,[],(none,0,[]))) (⟨by show (0:Int)≤_;omega,U,dN⟩) ⟨U,U,U,U,U,U,U,U,U,I3⟩ ⟨U,U,U,U,U,U,U,U,I3⟩ fun ⟨i,t,(o,d,j)⟩=>fun hk=>?_;obtain ⟨hi1,hti,hot⟩:=hk;have htl:t.length=i:=by rw [hti,aM]
 by_cases hii:(i:Int)<p.ins+1
 · refine aK 17 [1,63] ?_;refine eH (α:=Int) 66 [(-1)] U T.sl24 T.el3 U U U U U fun b3=>?_;refine iP (α:=Int) 65 T.sl24 T.el3 (eP 66 U) fun a1 c1 junk1 ho1=>?_;refine aY 10 [63] ?_;refine cO ((i+1,t++[-1],(a1,c1,junk1))) ?_ ?_
   · exact ⟨by omega,by rw [hti,List.replicate_succ'],ho1⟩
   show p.ins.toNat+1 - (i+1)<p.ins.toNat+1 - i;omega
 refine bJ 22 [0,0] ?_;have htt:t=(wM p).till:=by
  rw [hti,show i=p.ins.toNat+1 by omega];rfl
 have hZ':Z=(wM p).a:=hZ;subst htt hh0 hZ';have hno9:∀ (b:Nat) (l:List Int),l.length=p.code.length→A3 (some ⟨b,0,none⟩) (wM p).a.length l []:=fun b l hl=>.inr ⟨b,U,by rw [hZl,hl];rfl,by omega,by simp only [maxLen];omega⟩;refine fY (ι:=Nat×Life×(J0 Addr×Nat×List Value)) (fun (k,l,(o,d,j))=>([(68,.int .i64 (k:Int)),(8,.slice (some ⟨b2,0,none⟩) l.held.length R),(67,.int .i64 (↑p.code.length:Int)),(66,.slice ac p.code.length cc),(7,.pointer (some (Addr.mk u 0 none))),(6,.int .i64 (↑p.code.length:Int)),(4,.slice nb1 (List.length (tC p)) nc1),(3,.int .i64 0),(2,.pointer none),(1,.pointer (some ⟨b1,0,none⟩))],[(60,some x,Row 3 l.a []),(61,some y,Row 3 l.b []),(62,some z,Row 3 l.sets []),(64,some b2,Row 3 l.held []),(63,some u,.cells #[.int .i64 p.ins,.int .i64 p.regs,.slice ac p.code.length cc,.slice ao p.outs.length co,.slice nb1 (tC p).length nc1,.slice (some ⟨x,0,none⟩) l.a.length (wM p).a.length,.slice (some ⟨y,0,none⟩) l.b.length (wM p).a.length,.slice (some ⟨z,0,none⟩) l.sets.length (wM p).a.length,.slice none 0 0,.slice o l.till.length d] 143),(65,o.map (·.block),Row 3 l.till j),(1,Option.map (fun x=>Go.Addr.block x) nb1,Row (α:=Bool) 4 (tC p) (nj1)),(0,some b1,.cells (J1 p ac cc ao co) 26)])) (fun (k,l,(o,d,j))=>k≤p.code.length∧l=tF p k∧A3 o d l.till j) (fun (k,l,(o,d,j))=>p.code.length - k) ((0,wM p,(o,d,j))) (⟨aP _,U,hot⟩) ⟨U,U,U,U,U,U,U,U,U,U,I3⟩ ⟨U,U,U,U,U,U,U,U,I3⟩ fun ⟨k,l,(o,d,j)⟩=>fun hk=>?_;obtain ⟨hk9,hlk,hol⟩:=hk;have hok:=xX hR k hk9;rw [←hlk] at hok;obtain ⟨k1,k2,k3,k4,k5,k6,k7,k8,k9,k10,k11⟩:=hok;have hoa:=hno9 x l.a k1;have hob:=hno9 y l.b k2;have hoz:=hno9 z l.sets k3;have hoh2:=hown l.held sU;rcases aN k p.code.length with hkc | hkc
 · have hm:=xU hR hkc;unfold yX at hm;have hnl:(tC p).length=p.code.length:=(wX p _).2;have hva:0≤l.held[(p.code[(k:Int).toNat]?.getD default).a.toNat]?.getD default∧l.held[(p.code[(k:Int).toNat]?.getD default).a.toNat]?.getD default<l.till.length:=k7 _ (get_mem (by have:=(tZ hm).2.2.1;omega));obtain ⟨m1,m2,m3,m4,m5,m6,m7,m8⟩:=tZ hm;have hI:yX p k=p.code[(k:Int).toNat]?.getD default:=rfl;have m4':1<((tM (p.code[(k:Int).toNat]?.getD default)).length:Int)→0≤(p.code[(k:Int).toNat]?.getD default).b∧(p.code[(k:Int).toNat]?.getD default).b<p.regs:=fun h=>m4 (Nd sU);refine aK 14 [1] ?_;refine gG (α:=I5) T.sl23 ?_;refine mL T.agg91 ?_;refine aV 66 U T.zero91 fun b3=>?_;refine aS 9 [66] ?_;refine gY (α:=Bool) T.sl138 ?_;refine jS 1 0 T.one4 ?_;refine bG 3 [] ?_;refine mE U (fun hc1=>?_) fun hc1=>?_;refine bE 8 [] ?_;rotate_left;refine bJ 3 [] ?_;refine dL [0,1,65,63,64,62,61,60,66] [(66,23),(60,23),(61,23),(62,23),(64,23),(63,23),(65,23),(1,23),(0,23),(66,21),(60,21),(61,21),(62,21),(64,21),(63,21),(65,21),(1,21),(0,21)] T.mixed [[0],[1],[2],[3,63],[4],[5],[6],[7],[8,63],[9],[10],[11],[12,66]] ?_;refine iA (α:=Int) 13 T.sl24 ?_;refine fH 14 [0,64] U (eX 64 0 T.one3 U U sV sU U U) ?_;refine eO [[15],[16]] ?_;refine dB 17 ?_;refine aB 1 [66] ?_;refine bW ?_;refine iA (α:=Int) 18 T.sl24 ?_;refine fH 19 [0,64] U (eX 64 0 T.one3 U U sV sU U U) ?_;refine iA (α:=Int) 20 T.sl24 ?_;refine dB 21 ?_;refine dJ (z:=_) 60 T.size3 U U U sV sU U fun ho1=>?_;refine bW ?_;refine iA (α:=Int) 22 T.sl24 ?_;refine dB 23 ?_;refine dJ (z:=_) 61 T.size3 U U U sV sU U fun ho2=>?_;refine fB ?_;refine cH ?_;rotate_left
   · have hn:¬Ct p k=true:=by unfold Ct;simpa using hc1
     refine cO ((k+1,l,(o,d,j))) ?_ ?_
     · exact ⟨hkc,by rw [hlk];exact (aC hn).symm,hol⟩
     show p.code.length - (k+1)<p.code.length - k;omega
   have hn:Ct p k=true:=by unfold Ct;simpa using hc1
   refine rR (ι:=Int) (fun v=>([(4,.slice nb1 (tC p).length nc1),(66,.slice ac p.code.length cc),(67,.int .i64 (p.code.length:Int)),(10,.int .i64 (↑k:Int)),(11,.pointer (some (Addr.mk b3 0 none))),(68,.int .i64 (↑k:Int)),(8,.slice (some (Addr.mk b2 0 none)) (List.length (Life.held l)) R),(7,.pointer (some (Addr.mk u 0 none))),(6,.int .i64 (↑p.code.length:Int)),(3,.int .i64 0),(2,.pointer none),(1,.pointer (some ⟨b1,0,none⟩))],[(61,some y,Row 3 (l.b.set (k:Int).toNat v) []),(60,Option.map (fun x=>Go.Addr.block x) (some (Addr.mk x 0 none)),Row (α:=Int) 3 (List.set (Life.a l) (Int.toNat (↑k:Int)) (Option.getD (Life.held l)[Int.toNat (Instr.a (Option.getD p.code[Int.toNat (↑k:Int)]? default))]? default)) ([])),(66,some b3,.cells (List.toArray (A0.enc (Option.getD p.code[Int.toNat (↑k:Int)]? default))) 91),(62,some z,Row (α:=Int) 3 (Life.sets l) ([])),(64,some b2,Row (α:=Int) 3 (Life.held l) ([])),(63,some u,.cells #[.int .i64 p.ins,.int .i64 p.regs,.slice ac p.code.length cc,.slice ao p.outs.length co,.slice nb1 (List.length (tC p)) nc1,.slice (some (Addr.mk x 0 none)) (List.length (Life.a l)) (List.length (Life.a (wM p))),.slice (some (Addr.mk y 0 none)) (List.length (Life.b l)) (List.length (Life.a (wM p))),.slice (some (Addr.mk z 0 none)) (List.length (Life.sets l)) (List.length (Life.a (wM p))),.slice none 0 0,.slice o (List.length (Life.till l)) d] 143),(65,Option.map (fun x=>Go.Addr.block x) o,Row (α:=Int) 3 (Life.till l) (j)),(1,Option.map (fun x=>Go.Addr.block x) nb1,Row (α:=Bool) 4 (tC p) (nj1)),(0,some b1,.cells (J1 p ac cc ao co) 26)])) (fun v=>v=vB l (p.code[(k:Int).toNat]?.getD default)) ?_ fun v=>fun (hk:v=vB l (p.code[(k:Int).toNat]?.getD default))=>?_
   · by_cases h2:1<((tM (p.code[((k:Nat):Int).toNat]?.getD default)).length:Int)
     · have m4b:=m4' h2;have hlb:(l.b.set (k:Int).toNat (l.held[(p.code[(k:Int).toNat]?.getD default).a.toNat]?.getD default)).length=l.b.length:=aI;refine aK 3 [66] ?_;refine cU 67 U (MZ _ _) fun v2 G2 Ho2 hle2 hp=>?_;obtain ⟨ad2,cd2,junk2,rfl,hoa2,rfl,rfl⟩:=hp;refine bG 5 [1] ?_;refine dL [0,1,65,63,64,62,66,60,61,68] [(68,11),(61,11),(60,11),(66,11),(62,11),(64,11),(63,11),(65,11),(1,11),(0,11)] T.mixed [[0],[1],[2],[3,63],[4],[5],[6],[7,66]] ?_;refine iA (α:=Int) 8 T.sl24 ?_;refine fH 9 [0,64] U (eX 64 0 T.one3 U U sV sU U U) ?_;refine iA (α:=Int) 10 T.sl24 ?_;refine dB 11 ?_;refine dJ (z:=_) 61 T.size3 U U U sV sU U fun ho3=>?_;refine fB ?_;rw [List.set_set];refine Oa (l.held[(p.code[(k:Int).toNat]?.getD default).b.toNat]?.getD default) ?_;exact (aE (by omega)).symm
     refine aK 3 [66] ?_;refine cU 67 U (MZ _ _) fun v2 G2 Ho2 hle2 hp=>?_;obtain ⟨ad2,cd2,junk2,rfl,hoa2,rfl,rfl⟩:=hp;refine aY 6 [0] ?_;refine Oa (l.held[(p.code[(k:Int).toNat]?.getD default).a.toNat]?.getD default) ?_;exact (aC (by omega)).symm
   have hvb:=UA ⟨k1,k2,k3,k4,k5,k6,k7,k8,k9,k10,k11⟩ hm;rw [←hk] at hvb;have hob3:=hno9 y (l.b.set (k:Int).toNat v) (by rw [aI];exact k2);have hra:(l.a.set (k:Int).toNat (l.held[(p.code[(k:Int).toNat]?.getD default).a.toNat]?.getD default))[(k:Int).toNat]?.getD default=l.held[(p.code[(k:Int).toNat]?.getD default).a.toNat]?.getD default:=Je sU;have hrb:(l.b.set (k:Int).toNat v)[(k:Int).toNat]?.getD default=v:=Je sU;have hla:(l.a.set (k:Int).toNat (l.held[(p.code[(k:Int).toNat]?.getD default).a.toNat]?.getD default)).length=l.a.length:=aI;have hlb:(l.b.set (k:Int).toNat v).length=l.b.length:=aI;have hlt1:(l.till.set (l.held[(p.code[(k:Int).toNat]?.getD default).a.toNat]?.getD default).toNat (k:Int)).length=l.till.length:=aI;have hlt2:((l.till.set (l.held[(p.code[(k:Int).toNat]?.getD default).a.toNat]?.getD default).toNat (k:Int)).set v.toNat (k:Int)).length=l.till.length:=by rw [aI,aI]
   refine dG ?_;refine dL [0,1,65,63,64,62,66,60,61] [(61,27),(60,27),(66,27),(62,27),(64,27),(63,27),(65,27),(1,27),(0,27),(61,25),(60,25),(66,25),(62,25),(64,25),(63,25),(65,25),(1,25),(0,25)] T.mixed [[0],[1],[2],[3,63],[4],[5],[6],[7,63],[8]] ?_;refine iA (α:=Int) 9 T.sl24 ?_;refine fH 10 [0,60] U (eX 60 0 T.one3 U U sV sU U U) ?_;refine eO [[11],[12],[13],[14,63],[15],[16],[17],[18,63],[19]] ?_;refine iA (α:=Int) 20 T.sl24 ?_;refine fH 21 [0,61] U (eX 61 0 T.one3 U U sV sU U U) ?_;refine eO [[22],[23]] ?_;refine iA (α:=Int) 24 T.sl24 ?_;refine dB 25 ?_;refine dJ (z:=_) 65 T.size3 U U U sV sU U fun ho3=>?_;refine bW ?_;refine iA (α:=Int) 26 T.sl24 ?_;refine dB 27 ?_;rw [hra,hrb];have hol2:A3 o d (l.till.set (l.held[(p.code[(k:Int).toNat]?.getD default).a.toNat]?.getD default).toNat (k:Int)) j:=AQ hol _ _;have hoh3:=hown (l.held.set (p.code[(k:Int).toNat]?.getD default).to.toNat (l.till.length:Int)) (by rw [aI];omega);refine dJ (z:=_) 65 T.size3 U U U sV sU U fun ho4=>?_;refine fB ?_;refine oS 2 [] ?_;refine dL [0,1,63,64,62,66,60,61,65] [(65,21),(61,21),(60,21),(66,21),(62,21),(64,21),(63,21),(1,21),(0,21),(65,19),(61,19),(60,19),(66,19),(62,19),(64,19),(63,19),(1,19),(0,19)] T.mixed [[0],[1],[2],[3,63],[4],[5],[6],[8],[9],[10],[11,63],[12],[13],[14],[15],[16,63],[17]] ?_;refine iA (α:=Int) 18 T.sl24 ?_;refine oO 7 19 ?_ ?_;refine aB 1 [66] ?_;refine cY 19 ?_;refine dJ (z:=_) 62 T.size3 U U U sV sU U fun ho5=>?_;refine bW ?_;refine iA (α:=Int) 20 T.sl24 ?_;refine dB 21 ?_;refine dJ (z:=_) 64 T.size3 U U U sV sU U fun ho6=>?_;refine fB ?_;refine oR 7 [63] ?_;refine eH (α:=Int) 67 [(-1)] U T.sl24 T.el3 U U U U U fun b4=>?_;rotate_left;refine dJ (z:=_) 62 T.size3 U U U sV sU U fun ho5=>?_;refine cY 7 ?_;refine aB 1 [66] ?_;refine bW ?_;refine iA (α:=Int) 20 T.sl24 ?_;refine dB 21 ?_;refine dJ (z:=_) 64 T.size3 U U U sV sU U fun ho6=>?_;refine fB ?_;refine oR 7 [63] ?_;refine eH (α:=Int) 67 [(-1)] U T.sl24 T.el3 U U U U U fun b4=>?_;rotate_left;all_goals
    refine iK 165 U (show _=Value.slice o ((l.till.set (l.held[(p.code[(k:Int).toNat]?.getD default).a.toNat]?.getD default).toNat (k:Int)).set v.toNat (k:Int)).length d by rw [hlt2]) ?_;have hol3:=AQ hol2 v.toNat (k:Int);refine iP (α:=Int) 65 T.sl24 T.el3 (eP 67 U) fun a7 c7 junk7 ho7=>?_;refine aY 10 [63] ?_;subst hk;have e1:(uY l k (p.code[(k:Int).toNat]?.getD default)).a.length=l.a.length:=aI;have e2:(uY l k (p.code[(k:Int).toNat]?.getD default)).b.length=l.b.length:=aI;have e3:(uY l k (p.code[(k:Int).toNat]?.getD default)).sets.length=l.sets.length:=aI;have e4:(uY l k (p.code[(k:Int).toNat]?.getD default)).held.length=l.held.length:=aI;refine iV 63 (.cells #[.int .i64 p.ins,.int .i64 p.regs,.slice ac p.code.length cc,.slice ao p.outs.length co,.slice nb1 (tC p).length nc1,.slice (some ⟨x,0,none⟩) (uY l k (p.code[(k:Int).toNat]?.getD default)).a.length (wM p).a.length,.slice (some ⟨y,0,none⟩) (uY l k (p.code[(k:Int).toNat]?.getD default)).b.length (wM p).a.length,.slice (some ⟨z,0,none⟩) (uY l k (p.code[(k:Int).toNat]?.getD default)).sets.length (wM p).a.length,.slice none 0 0,.slice a7 (uY l k (p.code[(k:Int).toNat]?.getD default)).till.length c7] 143) U (by rw [e1,e2,e3];rfl) ?_;refine dW 8 U (show _=Value.slice (some ⟨b2,0,none⟩) (uY l k (p.code[(k:Int).toNat]?.getD default)).held.length R by rw [e4]) ?_;refine cO ((k+1,uY l k (p.code[(k:Int).toNat]?.getD default),(a7,c7,junk7))) ?_ ?_
    · refine ⟨hkc,?_,?_⟩
      · rw [hlk];exact (aE hn).symm
      show A3 a7 c7 (((l.till.set _ _).set _ _)++[-1]) junk7;assumption
    show p.code.length - (k+1)<p.code.length - k;omega
 have hke:k=p.code.length:=qG hk9 hkc;subst hke;have hlo:l.outs=[]:=by rw [hlk];exact Aw p _
 refine bJ 22 [0,0] ?_;refine dK 69 (Row 3 l.outs []) ?_;refine rJ 63 (.cells #[.int .i64 p.ins,.int .i64 p.regs,.slice ac p.code.length cc,.slice ao p.outs.length co,.slice nb1 (tC p).length nc1,.slice (some ⟨x,0,none⟩) l.a.length (wM p).a.length,.slice (some ⟨y,0,none⟩) l.b.length (wM p).a.length,.slice (some ⟨z,0,none⟩) l.sets.length (wM p).a.length,.slice none l.outs.length 0,.slice o l.till.length d] 143) U (by rw [hlo];rfl) ?_;refine fY (ι:=Nat×Life×(J0 Addr×Nat×List Value)) (fun (q,l2,(oo,od,oj))=>([(174,.int .i64 (q:Int)),(173,.int .i64 (↑p.outs.length:Int)),(172,.slice ao p.outs.length co),(8,.slice (some (Addr.mk b2 0 none)) (List.length (Life.held l)) R),(7,.pointer (some (Addr.mk u 0 none))),(6,.int .i64 (↑p.code.length:Int)),(3,.int .i64 0),(2,.pointer none)],[(65,o.map (·.block),Row 3 l2.till j),(69,oo.map (·.block),Row 3 l2.outs oj),(63,some u,.cells #[.int .i64 p.ins,.int .i64 p.regs,.slice ac p.code.length cc,.slice ao p.outs.length co,.slice nb1 (tC p).length nc1,.slice (some ⟨x,0,none⟩) l.a.length (wM p).a.length,.slice (some ⟨y,0,none⟩) l.b.length (wM p).a.length,.slice (some ⟨z,0,none⟩) l.sets.length (wM p).a.length,.slice oo l2.outs.length od,.slice o l2.till.length d] 143),(60,some x,Row (α:=Int) 3 (Life.a l) ([])),(61,some y,Row (α:=Int) 3 (Life.b l) ([])),(62,some z,Row (α:=Int) 3 (Life.sets l) ([])),(64,some b2,Row (α:=Int) 3 (Life.held l) ([])),(1,Option.map (fun x=>Go.Addr.block x) nb1,Row (α:=Bool) 4 (tC p) (nj1)),(0,some b1,.cells (J1 p ac cc ao co) 26)])) (fun (q,l2,(oo,od,oj))=>q≤p.outs.length∧l2=wN p q∧A3 oo od l2.outs oj∧A3 o d l2.till j) (fun (q,l2,(oo,od,oj))=>p.outs.length - q) ((0,l,(none,0,[]))) (⟨aP _,hlk,by show A3 none 0 l.outs [];rw [hlo];exact dN,hol⟩) ⟨U,U,U,U,U,U,U,U,I3⟩ ⟨U,U,U,U,U,U,U,U,U,I3⟩ fun ⟨q,l2,(oo,od,oj)⟩=>fun hk=>?_;obtain ⟨hq1,hl2,hoo,hot2⟩:=hk;have h2ok:=Sy hR q hq1;have h2h:=Tj p q;have h2l:=Nf p q;rw [←hl2] at h2ok h2h h2l;rw [←hlk] at h2h h2l;rw [hlo] at h2l;have h2l':l2.outs.length=q:=by rw [h2l];exact cP q
 have h2t:=h2ok.t1;rcases aN q p.outs.length with hqc | hqc
 · have hr:=Px hR hqc;have hv2:0≤l.held[(p.outs[(q:Int).toNat]?.getD default).toNat]?.getD default∧l.held[(p.outs[(q:Int).toNat]?.getD default).toNat]?.getD default<l2.till.length:=h2ok.hb _ (by rw [h2h];exact get_mem sU);refine aK 13 [1] ?_;refine gG (α:=Int) T.sl24 ?_;refine kT 0 T.one3 ?_;refine bG 4 [] ?_;refine dL [0,1,64,62,61,60,63,69,65] [(63,13),(65,10),(69,10),(60,10),(61,10),(62,10),(64,10),(1,10)] T.mixed [[0],[1],[2],[3],[4,63],[5],[6]] ?_;refine iA (α:=Int) 7 T.sl24 ?_;refine dB 8 ?_;refine jS 64 0 T.one3 ?_;refine cY 9 ?_;refine eH (α:=Int) 70 [(Option.getD (Go.Proofs.YtfdcckcadfhpeaaGreatDoor.Life.held l)[Int.toNat (Option.getD p.outs[Int.toNat (↑q:Int)]? Inhabited.default)]? Inhabited.default)] U T.sl24 T.el3 U U U U U fun b3=>?_;refine cY 10 ?_;refine iP (α:=Int) 69 T.sl24 T.el3 (eP 70 U) fun a1 c1 junk1 ho1=>?_;refine bW ?_;refine eO [[11],[12]] ?_;refine dB 13 ?_;refine aB 1 [63] ?_;refine fB ?_;refine cH ?_;refine dL [0,1,64,62,61,60,65,70,69,63] [(63,10),(69,10),(70,10),(65,10),(60,10),(61,10),(62,10),(64,10),(1,10),(0,10)] T.mixed [[0],[1],[2],[3,63],[4],[5]] ?_;refine iA (α:=Int) 6 T.sl24 ?_;refine fH 7 [0,64] U (eX 64 0 T.one3 U U sV sU U U) ?_;refine eO [[8]] ?_;refine iA (α:=Int) 9 T.sl24 ?_;refine dB 10 ?_;refine dJ (z:=_) 65 T.size3 U U U sV sU U fun ho2=>?_;refine fB ?_;refine fI 6 [] ?_;have e5:(Fa p l2 (p.outs[(q:Int).toNat]?.getD default)).till.length=l2.till.length:=aI;have eS:Fa p l2 (p.outs[(q:Int).toNat]?.getD default)={ l2 with outs:=l2.outs++[l.held[(p.outs[(q:Int).toNat]?.getD default).toNat]?.getD default],till:=l2.till.set (l.held[(p.outs[(q:Int).toNat]?.getD default).toNat]?.getD default).toNat p.code.length }:=by
    unfold Fa;rw [h2h]
   rw [eS] at e5;refine iV 63 (.cells #[.int .i64 p.ins,.int .i64 p.regs,.slice ac p.code.length cc,.slice ao p.outs.length co,.slice nb1 (tC p).length nc1,.slice (some ⟨x,0,none⟩) l.a.length (wM p).a.length,.slice (some ⟨y,0,none⟩) l.b.length (wM p).a.length,.slice (some ⟨z,0,none⟩) l.sets.length (wM p).a.length,.slice a1 (l2.outs++[l.held[(p.outs[(q:Int).toNat]?.getD default).toNat]?.getD default]).length c1,.slice o (l2.till.set (l.held[(p.outs[(q:Int).toNat]?.getD default).toNat]?.getD default).toNat p.code.length).length d] 143) U (by rw [e5];rfl) ?_;refine cO ((q+1,{ l2 with outs:=l2.outs++[l.held[(p.outs[(q:Int).toNat]?.getD default).toNat]?.getD default],till:=l2.till.set (l.held[(p.outs[(q:Int).toNat]?.getD default).toNat]?.getD default).toNat p.code.length },(a1,c1,junk1))) ?_ ?_
   · refine ⟨hqc,?_,by assumption,AQ hot2 _ _⟩;show _=Fa p (wN p q) _;rw [←hl2,eS]
   show p.outs.length - (q+1)<p.outs.length - q;omega
 have hqe:q=p.outs.length:=qG hq1 hqc;subst hqe;have hlp:l2=lifeP p:=hl2;have s1:l.a=(lifeP p).a:=by rw [hlk];exact (Ck p _).1.symm
 have s2:l.b=(lifeP p).b:=by rw [hlk];exact (Ck p _).2.1.symm
 have s3:l.sets=(lifeP p).sets:=by rw [hlk];exact (Ck p _).2.2.symm
 subst hlp;refine bE 20 [0] ?_;refine lW [63,1,60,61,62,69,65] tI (gD (.inr U) U (.tmp U) (.tmp U) (lI 0 _) ?_);rw [s1] at hoa;rw [s2] at hob;rw [s3] at hoz;refine ⟨u,nb1,nc1,nj1,x,y,z,(wM p).a.length,oo,od,oj,o,d,j,U,hon1,hoa,hob,hoz,hoo,hot2,?_,U⟩;rw [s1,s2,s3];rfl
section
variable {P:I6} {B:Bs} {e:B0} {D:List Deferred} {H:Hp} {G:A2}
theorem Xv {ty:I9} {T et:I9} {len i:Nat} {x y:I7} {cs:List Value} {v:Value} (hT:P.underlying T=some (.array len et)) (h1:P.plainKey et=true) (hs:(P.info? et).map (·.size)=some 1)
 (hx:e.ev x=some (.agg cs.toArray)) (hy:e.ev y=some (.int .i64 (i:Int))) (hi:i<len) (hv:cs[i]?=some v):Qy P (.index T x y) ty e H G v:=fun a w _ _ _ _ hh=>by
 have hp:(part et cs.toArray i).run P w=.ok v w:=by
  unfold Program.plainKey at h1;cases hu:P.underlying et with
  | none=>simp [hu] at h1
  | some d=>cases d <;> simp [hu] at h1 <;> simp [part,isAgg,bB hu,hv,Result.andThen]
 have hsz:=Go.Sl.run_sizeOf (P:=P) w hs;have h2:(0:Int)≤(i:Int)∧(i:Int)<(len:Int):=sU;simp only [execOp,hh.eval hx,hh.eval hy,Instr.index,asIntOf,bK,bO,aR,bB hT];rw [aE h2];simp only [bK,hsz,aR,aG,Nat.mul_one,hp,bO]
end
theorem be:Tryz.prog.underlying 145=some (.array 2 3):=sX
theorem pk3:Tryz.prog.plainKey 3=true:=sX
theorem size3:(Tryz.prog.info? 3).map (·.size)=some 1:=sX
section
variable {P:I6} {B:Bs} {e:B0} {D:List Deferred} {H:Hp} {G:A2}
theorem UT {r:J0 Nat} {c:Code} {Q:Exit→Act→I8→Prop} (t t':Nat) {k:J0 Nat} {o:Obj} (ht:H.get t=some (k,o)) (hn:Nat.beq t t'=false) (h:Wc r P c B ⟨e,D,(t',k,o) :: (t,none,o) :: H,G⟩ Q):Wc r P c B ⟨e,D,H,G⟩ Q:=
 fun a w hh=>h a w (retagH hh t t' ht (fun e=>by subst e;simp at hn) (.inr trivial))
end
theorem FI (p:PV):(tC p).length=p.code.length:=by unfold tC;exact (wX p _).2
def ZF (l:Life) (k:Nat) (s:Pl):Nat→Pl
 | 0=>s
 | 1=>vU l k s (l.a[((k:Nat):Int).toNat]?.getD default)
 | _=>vU l k (vU l k s (l.a[((k:Nat):Int).toNat]?.getD default)) (l.b[((k:Nat):Int).toNat]?.getD default)
theorem Xw (p:PV) {k:Nat}:∀ (j:Nat),k<j→j≤p.code.length→(tF p j).sets[((k:Nat):Int).toNat]?.getD default=(tF p (k+1)).sets[((k:Nat):Int).toNat]?.getD default
 | 0,h,_=>absurd h (Nat.not_lt_zero _)
 | j+1,h,hj=>by
   by_cases hk:k=j
   · rw [hk]
   rw [←Xw p j sU sU];show (if Ct p j=true then uY (tF p j) j (yX p j) else tF p j).sets[_]?.getD default=_;split
   · show ((tF p j).sets.set j _)[(k:Int).toNat]?.getD default=_;rw [cE,aC (by omega)]
   rfl
theorem OO {p:PV} (hR:sW p=true) {k:Nat} (hk:k<p.code.length) (hn:Ct p k=true):(lifeP p).sets[((k:Nat):Int).toNat]?.getD default=(tF p k).till.length:=by
 unfold lifeP;rw [(Ck p _).2.2,Xw p p.code.length hk (aH _)];show (if Ct p k=true then uY (tF p k) k (yX p k) else tF p k).sets[_]?.getD default=_;rw [aE hn];exact Je (by rw [(xX hR k sU).sl];exact hk)
theorem Vh {l:List Int} {f:Int→Int} {k:Nat} (h:k<l.length):(l.map f).take (k+1)=(l.map f).take k++[f (l[((k:Nat):Int).toNat]?.getD default)]:=by
 rw [gH (by rw [aT];exact h),aG,aA h,gE];rfl
theorem Tk (l:Life):∀ (n:Nat) (v:Int),(n:Int)≤v→A9 (Ax l n).at_ v=none
 | 0,v,_=>rfl
 | n+1,v,h=>by
   show A9 (Bk (Ax l n).at_ n _) v=none;rw [xW,aC (by omega),Tk l n v sU]
theorem OP {p:PV} {s:Pl} (hs:s=Be p (lifeP p)) (h:1≤p.ins) (v:Int) (hv:(tF p 0).till.length≤v):A9 s.at_ v=none:=by
 have h1:(tF p 0).till.length=p.ins.toNat+1:=aM;rw [h1] at hv;rw [hs];unfold Be;split
 · show A9 (Bk (Ax (lifeP p) p.ins.toNat).at_ p.ins _) v=none;rw [xW,aC (by omega),Tk _ _ v sU]
 exact Tk _ _ v sU
section
attribute [local irreducible] lifeP tC sW least
theorem ln (G:A2) (p:PV) (ac ao:J0 Addr) (cc co:Nat) (hc:Arr G ac p.code) (ho:Arr G ao p.outs) (h1:p.code.length≤1099511627776) (h2:p.outs.length≤1099511627776) (hR:sW p=true) :
 Does Tryz.prog 41 [.agg (J1 p ac cc ao co)] G [] (fun v G' Ho =>
  ∃ bc bo dc do_ j1 j2,v=.tuple #[.agg #[.int .i64 (tV p).ins,.int .i64 (tV p).regs,.slice bc (tV p).code.length dc,.slice bo (tV p).outs.length do_],.int .i64 0]∧
   A3 bc dc (tV p).code j1∧A3 bo do_ (tV p).outs j2∧Ho=[(0,bc.map (·.block),Row 91 (tV p).code j1),(1,bo.map (·.block),Row 3 (tV p).outs j2)]∧G'=G):=by
 obtain ⟨r1,r2,r3,r4,r5,r6,r7,r8⟩:=sZ hR;have hlok:=UC hR;obtain ⟨k1,k2,k3,k4,k5,k6,k7,k8,k9,k10,k11⟩:=hlok;refine D0 Tryz.func41 Tryz.ntmps41 fun w=>?_;refine aK 2 [] ?_;refine eG 0 fun b1=>?_;refine aV 1 U T.zero26 fun b2=>?_;refine aS 6 [0] ?_;refine cU 2 U (c81 _ _ _ _ _ _ sV sV sU sU hR) fun v1 G1 Ho1 hle1 hp=>?_;obtain ⟨lu1,lnb1,lnc1,lnj1,lx1,ly1,lz1,ln1,loo1,lod1,loj1,lo1,ld1,lj1,rfl,hln1,hlx1,hly1,hlz1,hlo1,hlt1,rfl,rfl⟩:=hp;refine aS 19 [0] ?_;refine Wl.makeMap (κ:=Int) 9 U fun b3=>?_;refine aZ (cQ (cs:=[_,_]) T.st140 U U U) ?_;refine eG 10 fun b4=>?_;refine bG 12 [0] ?_;refine UT 9 11 U U ?_;refine dK 12 (Row 4 ([]:List Bool) []) ?_;refine fY (ι:=Nat×Pl×(J0 Addr×Nat×List Value)) (fun (v,s,(a,c,j))=>([(30,.int .i64 (v:Int)),(29,.int .i64 p.ins),(6,.pointer (some (Addr.mk b4 0 none))),(4,.pointer (some (Addr.mk lu1 0 none))),(3,.int .i64 0),(2,.pointer (some ⟨b2,0,none⟩)),(1,.pointer (some ⟨b1,0,none⟩))],[(10,some b4,.cells #[.map (some b3),.slice a s.free.length c] 140),(11,some b3,A4 s.at_),(12,a.map (·.block),Row 4 s.free j),(2,some lu1,.cells #[.int .i64 p.ins,.int .i64 p.regs,.slice ac p.code.length cc,.slice ao p.outs.length co,.slice lnb1 (List.length (tC p)) lnc1,.slice (some (Addr.mk lx1 0 none)) (List.length (Life.a (lifeP p))) ln1,.slice (some (Addr.mk ly1 0 none)) (List.length (Life.b (lifeP p))) ln1,.slice (some (Addr.mk lz1 0 none)) (List.length (Life.sets (lifeP p))) ln1,.slice loo1 (List.length (Life.outs (lifeP p))) lod1,.slice lo1 (List.length (Life.till (lifeP p))) ld1] 143),(3,Option.map (fun x=>Go.Addr.block x) lnb1,Row (α:=Bool) 4 (tC p) (lnj1)),(4,some lx1,Row (α:=Int) 3 (Life.a (lifeP p)) ([])),(5,some ly1,Row (α:=Int) 3 (Life.b (lifeP p)) ([])),(6,some lz1,Row (α:=Int) 3 (Life.sets (lifeP p)) ([])),(7,Option.map (fun x=>Go.Addr.block x) loo1,Row (α:=Int) 3 (Life.outs (lifeP p)) (loj1)),(8,Option.map (fun x=>Go.Addr.block x) lo1,Row (α:=Int) 3 (Life.till (lifeP p)) (lj1)),(1,some b2,.cells #[.int .i64 0,.int .i64 0,.slice none 0 0,.slice none 0 0] 26),(0,some b1,.cells (J1 p ac cc ao co) 26)])) (fun (v,s,(a,c,j))=>(v:Int)≤p.ins∧s=Ax (lifeP p) v∧A3 a c s.free j) (fun (v,s,(a,c,j))=>p.ins.toNat - v) ((0,⟨[],[]⟩,(none,0,[]))) (⟨by show (0:Int)≤_;omega,U,dN⟩) ⟨U,U,U,U,U,U,U,I3⟩ ⟨U,U,U,U,U,U,U,U,U,U,U,U,I3⟩ fun ⟨v,s,(a,c,j)⟩=>fun hk=>?_;obtain ⟨hv1,hs,hoa⟩:=hk;have hsl:s.free.length=v:=by rw [hs];exact Bt _ v
 by_cases hvi:(v:Int)<p.ins
 · refine aK 25 [1,2] ?_;refine gY (α:=Int) T.sl24 ?_;refine jS 8 0 T.one3 ?_;refine cU 10 U (c82 _ s _ _ _ _ _ _ _ hoa sU) fun v2 G2 Ho2 hle2 hp=>?_;obtain ⟨pa2,pc2,pj2,rfl,hpo2,rfl,rfl⟩:=hp;refine aY 7 [] ?_;refine cO ((v+1,Ng s v ((lifeP p).till[(v:Int).toNat]?.getD default),(pa2,pc2,pj2))) ?_ ?_
   · exact ⟨by omega,by rw [hs];rfl,hpo2⟩
   show p.ins.toNat - (v+1)<p.ins.toNat - v;omega
 have hve:v=p.ins.toNat:=sU;refine bJ 12 [0] ?_;refine rR (ι:=Pl×(J0 Addr×Nat×List Value)) (fun (s0,(a0,c0,j0))=>([(6,.pointer (some (Addr.mk b4 0 none))),(4,.pointer (some (Addr.mk lu1 0 none))),(3,.int .i64 0),(2,.pointer (some ⟨b2,0,none⟩)),(1,.pointer (some ⟨b1,0,none⟩))],[(10,some b4,.cells #[.map (some b3),.slice a0 s0.free.length c0] 140),(11,some b3,A4 s0.at_),(12,a0.map (·.block),Row 4 s0.free j0),(2,some lu1,.cells #[.int .i64 p.ins,.int .i64 p.regs,.slice ac p.code.length cc,.slice ao p.outs.length co,.slice lnb1 (List.length (tC p)) lnc1,.slice (some (Addr.mk lx1 0 none)) (List.length (Life.a (lifeP p))) ln1,.slice (some (Addr.mk ly1 0 none)) (List.length (Life.b (lifeP p))) ln1,.slice (some (Addr.mk lz1 0 none)) (List.length (Life.sets (lifeP p))) ln1,.slice loo1 (List.length (Life.outs (lifeP p))) lod1,.slice lo1 (List.length (Life.till (lifeP p))) ld1] 143),(3,Option.map (fun x=>Go.Addr.block x) lnb1,Row (α:=Bool) 4 (tC p) (lnj1)),(4,some lx1,Row (α:=Int) 3 (Life.a (lifeP p)) ([])),(5,some ly1,Row (α:=Int) 3 (Life.b (lifeP p)) ([])),(6,some lz1,Row (α:=Int) 3 (Life.sets (lifeP p)) ([])),(7,Option.map (fun x=>Go.Addr.block x) loo1,Row (α:=Int) 3 (Life.outs (lifeP p)) (loj1)),(8,Option.map (fun x=>Go.Addr.block x) lo1,Row (α:=Int) 3 (Life.till (lifeP p)) (lj1)),(1,some b2,.cells #[.int .i64 0,.int .i64 0,.slice none 0 0,.slice none 0 0] 26),(0,some b1,.cells (J1 p ac cc ao co) 26)])) (fun (s0,(a0,c0,j0))=>s0=Be p (lifeP p)∧A3 a0 c0 s0.free j0) ?_ fun ⟨s0,(a0,c0,j0)⟩=>fun (hk:s0=Be p (lifeP p)∧A3 a0 c0 s0.free j0)=>?_
 · refine dG ?_;refine dL [0,1,8,7,6,5,4,3,2,12,11,10] [] T.mixed [[0],[1],[2],[3,2],[4],[5,0]] ?_;refine iA (α:=Int) 6 T.sl24 ?_;refine fH 7 [0,8] U (eX 8 0 T.one3 U U sV sU U U) ?_;refine eO [[8]] ?_;refine eU ?_;refine cH ?_;refine cF (fun hc1=>?_) fun hc1=>?_;refine dL [0,1,8,7,6,5,4,3,2,12,11,10] [(12,11),(11,11),(10,11)] T.mixed [[0],[1],[2,0],[3],[4],[5],[6,2],[7],[8,0]] ?_;refine iA (α:=Int) 9 T.sl24 ?_;refine fH 10 [0,8] U (eX 8 0 T.one3 U U sV sU U U) ?_;refine dB 11 ?_;refine cU 10 U (c82 _ s _ _ _ _ _ _ _ hoa sU) fun v2 G2 Ho2 hle2 hp=>?_;obtain ⟨pa2,pc2,pj2,rfl,hpo2,rfl,rfl⟩:=hp;refine fB ?_;rotate_left;refine kG ?_;rotate_left
   · refine Oa ((Ng s p.ins ((lifeP p).till[p.ins.toNat]?.getD default),(pa2,pc2,pj2))) ?_;exact ⟨by rw [hs,hve];exact (aE (by omega)).symm,hpo2⟩
   refine Oa ((s,(a,c,j))) ?_;exact ⟨by rw [hs,hve];exact (aC (by omega)).symm,hoa⟩
 obtain ⟨hs0,hoa0⟩:=hk;have hl0:=Hd r1 (lifeP p);rw [←hs0] at hl0;obtain ⟨hp0,hf1,hf2⟩:=hl0;refine dG ?_;refine dL [0,1,8,7,6,5,4,3,2,12,11,10] [] T.mixed [[0],[1,0],[2],[3,0],[4],[5],[6],[7,10],[8]] ?_;refine fH 9 [] U (Qy.max U U) ?_;refine fH 10 [] U (cQ (cs:=[_,_,_,_]) T.st26 U U U) ?_;refine dB 11 ?_;refine aV 13 U T.zero26 fun b5=>?_;refine cY 12 ?_;refine aB 1 [13] ?_;refine fB ?_;refine oS 11 [0] ?_;refine rJ 13 (.cells #[.int .i64 p.ins,.int .i64 (tY p 0).regs,.slice none 0 0,.slice none 0 0] 26) U (by rw [show (tY p 0).regs=(if p.ins<(s0.free.length:Int) then (s0.free.length:Int) else p.ins) from by show max p.ins ((Be p (lifeP p)).free.length:Int)=_;rw [←hs0];split <;> omega]) ?_;refine dK 14 (Row 91 ([]:List I5) []) ?_;refine fY (ι:=Nat×PkS×(J0 Addr×Nat×List Value)×(J0 Addr×Nat×List Value)) (fun (k,x,(oa,oc,oj),(a,c,j))=>([(79,.int .i64 (k:Int)),(78,.int .i64 (↑p.code.length:Int)),(77,.slice ac p.code.length cc),(8,.pointer (some (Addr.mk b5 0 none))),(6,.pointer (some (Addr.mk b4 0 none))),(4,.pointer (some (Addr.mk lu1 0 none))),(3,.int .i64 0),(2,.pointer (some ⟨b2,0,none⟩))],[(10,some b4,.cells #[.map (some b3),.slice a x.s.free.length c] 140),(11,some b3,A4 x.s.at_),(12,a.map (·.block),Row 4 x.s.free j),(13,some b5,.cells #[.int .i64 p.ins,.int .i64 x.regs,.slice oa x.code.length oc,.slice none 0 0] 26),(14,oa.map (·.block),Row 91 x.code oj),(2,some lu1,.cells #[.int .i64 p.ins,.int .i64 p.regs,.slice ac p.code.length cc,.slice ao p.outs.length co,.slice lnb1 (List.length (tC p)) lnc1,.slice (some (Addr.mk lx1 0 none)) (List.length (Life.a (lifeP p))) ln1,.slice (some (Addr.mk ly1 0 none)) (List.length (Life.b (lifeP p))) ln1,.slice (some (Addr.mk lz1 0 none)) (List.length (Life.sets (lifeP p))) ln1,.slice loo1 (List.length (Life.outs (lifeP p))) lod1,.slice lo1 (List.length (Life.till (lifeP p))) ld1] 143),(3,Option.map (fun x=>Go.Addr.block x) lnb1,Row (α:=Bool) 4 (tC p) (lnj1)),(4,some lx1,Row (α:=Int) 3 (Life.a (lifeP p)) ([])),(5,some ly1,Row (α:=Int) 3 (Life.b (lifeP p)) ([])),(6,some lz1,Row (α:=Int) 3 (Life.sets (lifeP p)) ([])),(7,Option.map (fun x=>Go.Addr.block x) loo1,Row (α:=Int) 3 (Life.outs (lifeP p)) (loj1)),(8,Option.map (fun x=>Go.Addr.block x) lo1,Row (α:=Int) 3 (Life.till (lifeP p)) (lj1)),(1,some b2,.cells #[.int .i64 0,.int .i64 0,.slice none 0 0,.slice none 0 0] 26),(0,some b1,.cells (J1 p ac cc ao co) 26)])) (fun (k,x,(oa,oc,oj),(a,c,j))=>k≤p.code.length∧x=tY p k∧A3 oa oc x.code oj∧A3 a c x.s.free j∧(∀ v:Int,(tF p k).till.length≤v→A9 x.s.at_ v=none)) (fun (k,x,(oa,oc,oj),(a,c,j))=>p.code.length - k) ((0,⟨s0,(tY p 0).regs,[]⟩,(none,0,[]),(a0,c0,j0))) (⟨aP _,by rw [hs0];rfl,dN,hoa0,OP hs0 r1⟩) ⟨U,U,U,U,U,U,U,U,I3⟩ ⟨U,U,U,U,U,U,U,U,U,U,U,U,U,U,I3⟩ fun ⟨k,x,(oa,oc,oj),(a,c,j)⟩=>fun hk=>?_;obtain ⟨hkc0,hx,hoc,hof,hkeys⟩:=hk;have hxo:=KT r1 k;have hxl:=EX r1 k;rw [←hx] at hxo hxl;obtain ⟨hxl1,hxl2⟩:=hxl;rcases aN k p.code.length with hkc | hkc
 · have hm:=xU hR hkc;unfold yX at hm;have hnl:(tC p).length=p.code.length:=FI p;have hvA:=k8 _ (get_mem (r:=(k:Int)) (l:=(lifeP p).a) sU);have hvB:=k9 _ (get_mem (r:=(k:Int)) (l:=(lifeP p).b) sU);refine aK 14 [1] ?_;refine gG (α:=I5) T.sl23 ?_;refine mL T.agg91 ?_;refine aV 15 U T.zero91 fun b6=>?_;refine aS 12 [15,2] ?_;refine gY (α:=Bool) T.sl138 ?_;refine jS 3 0 T.one4 ?_;refine bG 3 [] ?_;refine mE U (fun hc1=>?_) fun hc1=>?_;refine bE 8 [] ?_;rotate_left;refine aK 5 [15] ?_;refine cU 16 U (MZ _ _) fun v2 G2 Ho2 hle2 hp=>?_;obtain ⟨ad2,cd2,junk2,rfl,hoa2,rfl,rfl⟩:=hp;refine bG 6 [] ?_;refine dL [0,1,8,7,6,5,4,3,2,14,13,12,11,10,15,17] [(15,13)] T.mixed [[0],[1],[2],[3,10],[4],[5],[6],[7,2],[8]] ?_;refine iA (α:=Int) 9 T.sl24 ?_;refine fH 10 [0,4] U (eX 4 0 T.one3 U U sV sU U U) ?_;refine fH 11 [11] U (jY 11 T.mp137 U U U) ?_;refine eO [[12]] ?_;refine dB 13 ?_;refine aB 1 [15] ?_;refine fB ?_;refine cH ?_;rotate_left
   · have hn:¬Ct p k=true:=by unfold Ct;simpa using hc1
     refine cO ((k+1,x,(oa,oc,oj),(a,c,j))) ?_ ?_
     · refine ⟨hkc,by rw [hx];exact (aC hn).symm,hoc,hof,fun v hv=>hkeys v ?_⟩;have e:tF p (k+1)=tF p k:=aC hn;rw [e] at hv;exact hv
     show p.code.length - (k+1)<p.code.length - k;omega
   have hn:Ct p k=true:=by unfold Ct;simpa using hc1
   refine rR (ι:=Int) (fun v=>([(4,.pointer (some ⟨lu1,0,none⟩)),(77,.slice ac p.code.length cc),(78,.int .i64 (p.code.length:Int)),(79,.int .i64 (k:Int)),(9,.int .i64 (↑k:Int)),(10,.pointer (some (Addr.mk b6 0 none))),(8,.pointer (some (Addr.mk b5 0 none))),(6,.pointer (some (Addr.mk b4 0 none))),(3,.int .i64 0),(2,.pointer (some ⟨b2,0,none⟩))],[(15,some b6,.cells #[.int .i64 (p.code[(k:Int).toNat]?.getD default).op,.int .i64 (p.code[(k:Int).toNat]?.getD default).to,.int .i64 (stand x.s ((lifeP p).a[(k:Int).toNat]?.getD default)),.int .i64 v,.int .i64 (p.code[(k:Int).toNat]?.getD default).c] 91),(17,Option.map (fun x=>Go.Addr.block x) ad2,Row (α:=Int) 3 (tM (Option.getD p.code[Int.toNat (↑k:Int)]? default)) (junk2)),(10,some b4,.cells #[Go.Value.map (some b3),.slice a (List.length (Pl.free (PkS.s x))) c] 140),(11,some b3,Go.Sl.A4 (κ:=Int) (Pl.at_ (PkS.s x))),(12,Option.map (fun x=>Go.Addr.block x) a,Row (α:=Bool) 4 (Pl.free (PkS.s x)) (j)),(13,some b5,.cells #[.int .i64 p.ins,.int .i64 (PkS.regs x),.slice oa (List.length (PkS.code x)) oc,.slice none 0 0] 26),(14,Option.map (fun x=>Go.Addr.block x) oa,Row (α:=Go.Sl.Instr) 91 (PkS.code x) (oj)),(2,some lu1,.cells #[.int .i64 p.ins,.int .i64 p.regs,.slice ac p.code.length cc,.slice ao p.outs.length co,.slice lnb1 (List.length (tC p)) lnc1,.slice (some (Addr.mk lx1 0 none)) (List.length (Life.a (lifeP p))) ln1,.slice (some (Addr.mk ly1 0 none)) (List.length (Life.b (lifeP p))) ln1,.slice (some (Addr.mk lz1 0 none)) (List.length (Life.sets (lifeP p))) ln1,.slice loo1 (List.length (Life.outs (lifeP p))) lod1,.slice lo1 (List.length (Life.till (lifeP p))) ld1] 143),(3,Option.map (fun x=>Go.Addr.block x) lnb1,Row (α:=Bool) 4 (tC p) (lnj1)),(4,some lx1,Row (α:=Int) 3 (Life.a (lifeP p)) ([])),(5,some ly1,Row (α:=Int) 3 (Life.b (lifeP p)) ([])),(6,some lz1,Row (α:=Int) 3 (Life.sets (lifeP p)) ([])),(7,Option.map (fun x=>Go.Addr.block x) loo1,Row (α:=Int) 3 (Life.outs (lifeP p)) (loj1)),(8,Option.map (fun x=>Go.Addr.block x) lo1,Row (α:=Int) 3 (Life.till (lifeP p)) (lj1)),(1,some b2,.cells #[.int .i64 0,.int .i64 0,.slice none 0 0,.slice none 0 0] 26),(0,some b1,.cells (J1 p ac cc ao co) 26)])) (fun v=>v=if 1<(tM (p.code[(k:Int).toNat]?.getD default)).length then stand x.s ((lifeP p).b[(k:Int).toNat]?.getD default) else (p.code[(k:Int).toNat]?.getD default).b) ?_ fun v=>fun (hk:v=if 1<(tM (p.code[(k:Int).toNat]?.getD default)).length then stand x.s ((lifeP p).b[(k:Int).toNat]?.getD default) else (p.code[(k:Int).toNat]?.getD default).b)=>?_
   · refine bJ 5 [] ?_;refine cF (fun hc2=>?_) fun hc2=>?_;refine dL [0,1,8,7,6,5,4,3,2,14,13,12,11,10,17,15] [(15,13)] T.mixed [[0],[1],[2],[3,10],[4],[5],[6],[7,2],[8]] ?_;refine iA (α:=Int) 9 T.sl24 ?_;refine fH 10 [0,5] U (eX 5 0 T.one3 U U sV sU U U) ?_;refine fH 11 [11] U (jY 11 T.mp137 U U U) ?_;refine eO [[12]] ?_;refine dB 13 ?_;refine aB 1 [15] ?_;refine fB ?_;rotate_left;refine kG ?_;rotate_left
     · refine Oa (stand x.s ((lifeP p).b[(k:Int).toNat]?.getD default)) ?_;exact (aE (by omega)).symm
     refine Oa ((p.code[(k:Int).toNat]?.getD default).b) ?_;exact (aC (by omega)).symm
   have hv9:=hk;refine bJ 2 [] ?_;refine dL [0,1,8,7,6,5,4,3,2,14,13,12,11,10,17,15] [] T.mixed [[0],[1],[2],[3,2],[4]] ?_;refine iA (α:=Int) 5 T.sl24 ?_;refine fH 6 [0,4] U (eX 4 0 T.one3 U U sV sU U U) ?_;refine eO [[7],[8],[9],[10,2],[11]] ?_;refine iA (α:=Int) 12 T.sl24 ?_;refine fH 13 [0,5] U (eX 5 0 T.one3 U U sV sU U U) ?_;refine fH 14 [] U (sL (cs:=[_,_]) T.ar145 U U U) ?_;refine eO [[15]] ?_;refine eU ?_;refine oS 2 [] ?_;refine gZ (ι:=Nat×Pl) (fun (m,s1)=>([(138,.int .i64 (m:Int)),(77,.slice ac p.code.length cc),(78,.int .i64 (p.code.length:Int)),(79,.int .i64 (k:Int)),(137,.agg #[.int .i64 (Option.getD (Life.a (lifeP p))[Int.toNat (↑k:Int)]? default),.int .i64 (Option.getD (Life.b (lifeP p))[Int.toNat (↑k:Int)]? default)]),(4,.pointer (some (Addr.mk lu1 0 none))),(9,.int .i64 (↑k:Int)),(10,.pointer (some (Addr.mk b6 0 none))),(8,.pointer (some (Addr.mk b5 0 none))),(6,.pointer (some (Addr.mk b4 0 none))),(3,.int .i64 0),(2,.pointer (some ⟨b2,0,none⟩))],[(10,some b4,.cells #[.map (some b3),.slice a s1.free.length c] 140),(11,some b3,A4 s1.at_),(12,a.map (·.block),Row 4 s1.free j),(15,some b6,.cells #[.int .i64 (Instr.op (Option.getD p.code[Int.toNat (↑k:Int)]? default)),.int .i64 (Instr.to (Option.getD p.code[Int.toNat (↑k:Int)]? default)),.int .i64 (stand (PkS.s x) (Option.getD (Life.a (lifeP p))[Int.toNat (↑k:Int)]? default)),.int .i64 v,.int .i64 (Instr.c (Option.getD p.code[Int.toNat (↑k:Int)]? default))] 91),(17,Option.map (fun x=>Go.Addr.block x) ad2,Row (α:=Int) 3 (tM (Option.getD p.code[Int.toNat (↑k:Int)]? default)) (junk2)),(13,some b5,.cells #[.int .i64 p.ins,.int .i64 (PkS.regs x),.slice oa (List.length (PkS.code x)) oc,.slice none 0 0] 26),(14,Option.map (fun x=>Go.Addr.block x) oa,Row (α:=Go.Sl.Instr) 91 (PkS.code x) (oj)),(2,some lu1,.cells #[.int .i64 p.ins,.int .i64 p.regs,.slice ac p.code.length cc,.slice ao p.outs.length co,.slice lnb1 (List.length (tC p)) lnc1,.slice (some (Addr.mk lx1 0 none)) (List.length (Life.a (lifeP p))) ln1,.slice (some (Addr.mk ly1 0 none)) (List.length (Life.b (lifeP p))) ln1,.slice (some (Addr.mk lz1 0 none)) (List.length (Life.sets (lifeP p))) ln1,.slice loo1 (List.length (Life.outs (lifeP p))) lod1,.slice lo1 (List.length (Life.till (lifeP p))) ld1] 143),(3,Option.map (fun x=>Go.Addr.block x) lnb1,Row (α:=Bool) 4 (tC p) (lnj1)),(4,some lx1,Row (α:=Int) 3 (Life.a (lifeP p)) ([])),(5,some ly1,Row (α:=Int) 3 (Life.b (lifeP p)) ([])),(6,some lz1,Row (α:=Int) 3 (Life.sets (lifeP p)) ([])),(7,Option.map (fun x=>Go.Addr.block x) loo1,Row (α:=Int) 3 (Life.outs (lifeP p)) (loj1)),(8,Option.map (fun x=>Go.Addr.block x) lo1,Row (α:=Int) 3 (Life.till (lifeP p)) (lj1)),(1,some b2,.cells #[.int .i64 0,.int .i64 0,.slice none 0 0,.slice none 0 0] 26),(0,some b1,.cells (J1 p ac cc ao co) 26)])) (fun (m,s1)=>m≤2∧s1=ZF (lifeP p) k x.s m∧A3 a c s1.free j) (fun (m,s1)=>2 - m) ((0,x.s)) (⟨aP _,U,hof⟩) fun ⟨m,s1⟩=>fun hk=>?_;obtain ⟨hm2,hs1,hof1⟩:=hk;by_cases hm0:m=0
   · subst hm0;have hs1:s1=x.s:=hs1;subst hs1;have hst:=hxo.ab ((lifeP p).a[(k:Int).toNat]?.getD default);unfold stand at hst;refine aK 13 [1] ?_;refine aZ (Xv (i:=0) be pk3 size3 U U tI U) ?_;refine aS 10 [2] ?_;refine gY (α:=Int) T.sl24 ?_;refine jS 8 0 T.one3 ?_;refine bG 4 [] ?_;refine cF (fun hc2=>?_) fun hc2=>?_;refine dL [0,1,8,7,6,5,4,3,2,14,13,17,15,12,11,10] [(10,11),(12,11),(15,11),(17,11),(13,11),(14,11),(2,11),(3,11),(4,11),(5,11),(6,11),(7,11),(8,11),(1,11),(0,11)] T.mixed [[0],[1],[2],[3,10],[4],[5],[6],[7,10],[8]] ?_;refine fH 9 [11] U (jY 11 T.mp137 U U U) ?_;refine iA (α:=Bool) 10 T.sl138 ?_;refine dB 11 ?_;refine dJ (z:=_) 12 T.size4 U U U sV sU U fun ho1=>?_;refine fB ?_;refine fI 6 [] ?_;rotate_left;refine bE 7 [] ?_;rotate_left
     · refine iV 10 (.cells #[.map (some b3),.slice a (x.s.free.set ((A9 x.s.at_ ((lifeP p).a[(k:Int).toNat]?.getD default)).getD 0).toNat true).length c] 140) U Fc ?_;refine cO ((0+1,⟨x.s.at_,x.s.free.set ((A9 x.s.at_ ((lifeP p).a[(k:Int).toNat]?.getD default)).getD 0).toNat true⟩)) ?_ ?_
       · refine ⟨by omega,?_,by assumption⟩;exact (aE sV).symm
       exact cR 1
     refine cO ((0+1,x.s)) ?_ ?_
     · refine ⟨by omega,?_,hof1⟩;exact (aC sV).symm
     exact cR 1
   by_cases hm1:m=1
   · subst hm1;have hs1:s1=vU (lifeP p) k x.s ((lifeP p).a[(k:Int).toNat]?.getD default):=hs1;have hst:=(Bu (l:=lifeP p) (k:=k) (v:=((lifeP p).a[(k:Int).toNat]?.getD default)) hxo).ab ((lifeP p).b[(k:Int).toNat]?.getD default);rw [←hs1] at hst;unfold stand at hst;refine aK 13 [1] ?_;refine aZ (Xv (i:=1) be pk3 size3 U U tI U) ?_;refine aS 10 [2] ?_;refine gY (α:=Int) T.sl24 ?_;refine jS 8 0 T.one3 ?_;refine bG 4 [] ?_;refine cF (fun hc2=>?_) fun hc2=>?_;refine dL [0,1,8,7,6,5,4,3,2,14,13,17,15,12,11,10] [(10,11),(12,11),(15,11),(17,11),(13,11),(14,11),(2,11),(3,11),(4,11),(5,11),(6,11),(7,11),(8,11),(1,11),(0,11)] T.mixed [[0],[1],[2],[3,10],[4],[5],[6],[7,10],[8]] ?_;refine fH 9 [11] U (jY 11 T.mp137 U U U) ?_;refine iA (α:=Bool) 10 T.sl138 ?_;refine dB 11 ?_;refine dJ (z:=_) 12 T.size4 U U U sV sU U fun ho1=>?_;refine fB ?_;refine fI 6 [] ?_;rotate_left;refine bE 7 [] ?_;rotate_left
     · refine iV 10 (.cells #[.map (some b3),.slice a (s1.free.set ((A9 s1.at_ ((lifeP p).b[(k:Int).toNat]?.getD default)).getD 0).toNat true).length c] 140) U Fc ?_;refine cO ((1+1,⟨s1.at_,s1.free.set ((A9 s1.at_ ((lifeP p).b[(k:Int).toNat]?.getD default)).getD 0).toNat true⟩)) ?_ ?_
       · refine ⟨by omega,?_,by assumption⟩;show _=vU (lifeP p) k (vU (lifeP p) k x.s ((lifeP p).a[(k:Int).toNat]?.getD default)) ((lifeP p).b[(k:Int).toNat]?.getD default);rw [←hs1];exact (aE sV).symm
       exact cR 0
     refine cO ((1+1,s1)) ?_ ?_
     · refine ⟨by omega,?_,hof1⟩;show _=vU (lifeP p) k (vU (lifeP p) k x.s ((lifeP p).a[(k:Int).toNat]?.getD default)) ((lifeP p).b[(k:Int).toNat]?.getD default);rw [←hs1];exact (aC sV).symm
     exact cR 0
   have hm3:m=2:=sU;subst hm3;have hs1:s1=vU (lifeP p) k (vU (lifeP p) k x.s ((lifeP p).a[(k:Int).toNat]?.getD default)) ((lifeP p).b[(k:Int).toNat]?.getD default):=hs1;have hs1l:s1.free.length=x.s.free.length:=by rw [hs1,wY,wY]
   have hsets:(lifeP p).sets[(k:Int).toNat]?.getD default=(tF p k).till.length:=OO hR hkc hn;have hm9:A9 s1.at_ ((lifeP p).sets[(k:Int).toNat]?.getD default)=none:=by
    rw [hs1,Ed,Ed,hsets];exact hkeys _ (lH _)
   have hle:=Ay s1.free;refine aK 20 [0,2] ?_;refine gY (α:=Int) T.sl24 ?_;refine jS 6 0 T.one3 ?_;refine cU 10 U (c84 _ s1 _ _ _ _ _ _ hof1 sU hm9) fun v3 G3 Ho3 hle3 hp=>?_;obtain ⟨pa3,pc3,pj3,rfl,hpo3,rfl,rfl⟩:=hp;refine aS 9 [15,13,15] ?_;refine eH (α:=I5) 18 [⟨Go.Sl.Instr.op (Option.getD p.code[Int.toNat (↑k:Int)]? Inhabited.default),(↑(Go.Proofs.YtfdcckcadfhpeaaGreatDoor.least (Go.Proofs.YtfdcckcadfhpeaaGreatDoor.Pl.free s1)):Int),Go.Proofs.YtfdcckcadfhpeaaGreatDoor.stand (Go.Proofs.YtfdcckcadfhpeaaGreatDoor.PkS.s x) (Option.getD (Go.Proofs.YtfdcckcadfhpeaaGreatDoor.Life.a (Go.Proofs.YtfdcckcadfhpeaaGreatDoor.lifeP p))[Int.toNat (↑k:Int)]? Inhabited.default),v,Go.Sl.Instr.c (Option.getD p.code[Int.toNat (↑k:Int)]? Inhabited.default)⟩] U T.sl23 T.el91 U U U U U fun b7=>?_;refine iP (α:=I5) 14 T.sl23 T.el91 (eP 18 U) fun a1 c1 junk1 ho1=>?_;refine aS 10 [13,13,15] ?_;refine aZ (Qy.max U U) ?_;refine aY 9 [13] ?_;have hst9:Ja (lifeP p) x k (p.code[(k:Int).toNat]?.getD default)=⟨xA s1 ((lifeP p).sets[(k:Int).toNat]?.getD default),max x.regs ((least s1.free:Int)+1),x.code++[⟨(p.code[(k:Int).toNat]?.getD default).op,(least s1.free:Int),stand x.s ((lifeP p).a[(k:Int).toNat]?.getD default),v,(p.code[(k:Int).toNat]?.getD default).c⟩]⟩:=by
    unfold Ja;simp only;rw [←hs1,←hv9]
   refine iV 13 (.cells #[.int .i64 p.ins,.int .i64 (max x.regs ((least s1.free:Int)+1)),.slice a1 (x.code++[(⟨(p.code[(k:Int).toNat]?.getD default).op,(least s1.free:Int),stand x.s ((lifeP p).a[(k:Int).toNat]?.getD default),v,(p.code[(k:Int).toNat]?.getD default).c⟩:I5)]).length c1,.slice none 0 0] 26) U (by rw [show max x.regs ((least s1.free:Int)+1)=(if x.regs<(least s1.free:Int)+1 then (least s1.free:Int)+1 else x.regs) from by split <;> omega];rfl) ?_;refine cO ((k+1,⟨xA s1 ((lifeP p).sets[(k:Int).toNat]?.getD default),max x.regs ((least s1.free:Int)+1),x.code++[⟨(p.code[(k:Int).toNat]?.getD default).op,(least s1.free:Int),stand x.s ((lifeP p).a[(k:Int).toNat]?.getD default),v,(p.code[(k:Int).toNat]?.getD default).c⟩]⟩,(a1,c1,junk1),(pa3,pc3,pj3))) ?_ ?_
   · refine ⟨hkc,?_,by assumption,hpo3,fun w hw=>?_⟩
     · show _=(if Ct p k=true then Ja (lifeP p) (tY p k) k (yX p k) else tY p k);rw [aE hn,←hx];exact hst9.symm
     have e:(tF p (k+1)).till.length=(tF p k).till.length+1:=by
      show (if Ct p k=true then uY (tF p k) k (yX p k) else tF p k).till.length=_;rw [aE hn];exact Dm _ _ _
     rw [e] at hw;show A9 (Bk s1.at_ ((lifeP p).sets[(k:Int).toNat]?.getD default) _) w=none;rw [xW,aC (by rw [hsets];omega),hs1,Ed,Ed];exact hkeys w sU
   show p.code.length - (k+1)<p.code.length - k;omega
 have hke:k=p.code.length:=qG hkc0 hkc;subst hke;have hlo:=Sz p;refine bJ 24 [0,2] ?_;refine dK 20 (Row 3 ([]:List Int) []) ?_;refine fY (ι:=Nat×List Int×(J0 Addr×Nat×List Value)) (fun (q,ol,(oo,od,ok))=>([(191,.int .i64 (q:Int)),(190,.int .i64 (↑(List.length (Life.outs (lifeP p))):Int)),(189,.slice loo1 (List.length (Life.outs (lifeP p))) lod1),(8,.pointer (some (Addr.mk b5 0 none))),(6,.pointer (some (Addr.mk b4 0 none))),(3,.int .i64 0),(2,.pointer (some ⟨b2,0,none⟩))],[(13,some b5,.cells #[.int .i64 p.ins,.int .i64 x.regs,.slice oa x.code.length oc,.slice oo ol.length od] 26),(20,oo.map (·.block),Row 3 ol ok),(10,some b4,.cells #[Go.Value.map (some b3),.slice a (List.length (Pl.free (PkS.s x))) c] 140),(11,some b3,Go.Sl.A4 (κ:=Int) (Pl.at_ (PkS.s x))),(12,Option.map (fun x=>Go.Addr.block x) a,Row (α:=Bool) 4 (Pl.free (PkS.s x)) (j)),(14,Option.map (fun x=>Go.Addr.block x) oa,Row (α:=Go.Sl.Instr) 91 (PkS.code x) (oj)),(2,some lu1,.cells #[.int .i64 p.ins,.int .i64 p.regs,.slice ac p.code.length cc,.slice ao p.outs.length co,.slice lnb1 (List.length (tC p)) lnc1,.slice (some (Addr.mk lx1 0 none)) (List.length (Life.a (lifeP p))) ln1,.slice (some (Addr.mk ly1 0 none)) (List.length (Life.b (lifeP p))) ln1,.slice (some (Addr.mk lz1 0 none)) (List.length (Life.sets (lifeP p))) ln1,.slice loo1 (List.length (Life.outs (lifeP p))) lod1,.slice lo1 (List.length (Life.till (lifeP p))) ld1] 143),(3,Option.map (fun x=>Go.Addr.block x) lnb1,Row (α:=Bool) 4 (tC p) (lnj1)),(4,some lx1,Row (α:=Int) 3 (Life.a (lifeP p)) ([])),(5,some ly1,Row (α:=Int) 3 (Life.b (lifeP p)) ([])),(6,some lz1,Row (α:=Int) 3 (Life.sets (lifeP p)) ([])),(7,Option.map (fun x=>Go.Addr.block x) loo1,Row (α:=Int) 3 (Life.outs (lifeP p)) (loj1)),(8,Option.map (fun x=>Go.Addr.block x) lo1,Row (α:=Int) 3 (Life.till (lifeP p)) (lj1)),(1,some b2,.cells #[.int .i64 0,.int .i64 0,.slice none 0 0,.slice none 0 0] 26),(0,some b1,.cells (J1 p ac cc ao co) 26)])) (fun (q,ol,(oo,od,ok))=>q≤p.outs.length∧ol=((lifeP p).outs.map (stand x.s)).take q∧A3 oo od ol ok) (fun (q,ol,(oo,od,ok))=>p.outs.length - q) ((0,[],(none,0,[]))) (⟨aP _,by rw [dP],dN⟩) ⟨U,U,U,U,U,U,U,I3⟩ ⟨U,U,U,U,U,U,U,U,U,U,U,U,U,U,U,I3⟩ fun ⟨q,ol,(oo,od,ok)⟩=>fun hk=>?_;obtain ⟨hq1,hol,hoo⟩:=hk;have hoq:ol.length=q:=by rw [hol,bM,aT];omega
 rcases aN q p.outs.length with hqc | hqc
 · refine aK 13 [1] ?_;refine gY (α:=Int) T.sl24 ?_;refine jS 7 0 T.one3 ?_;refine bG 3 [] ?_;refine dL [0,1,8,7,6,5,4,3,2,14,12,11,10,20,13] [(13,11),(20,9),(12,9),(14,9),(3,9),(4,9),(5,9),(6,9),(7,9),(8,9)] T.mixed [[0],[1,13],[2],[3],[4],[5,10],[6]] ?_;refine fH 7 [11] U (jY 11 T.mp137 U U U) ?_;refine dB 8 ?_;refine eH (α:=Int) 21 [(Option.getD (Go.Sl.A9 (Go.Proofs.YtfdcckcadfhpeaaGreatDoor.Pl.at_ (Go.Proofs.YtfdcckcadfhpeaaGreatDoor.PkS.s x)) (Option.getD (Go.Proofs.YtfdcckcadfhpeaaGreatDoor.Life.outs (Go.Proofs.YtfdcckcadfhpeaaGreatDoor.lifeP p))[Int.toNat (↑q:Int)]? Inhabited.default)) 0)] U T.sl24 T.el3 U U U U U fun b6=>?_;refine cY 9 ?_;refine iP (α:=Int) 20 T.sl24 T.el3 (eP 21 U) fun a1 c1 junk1 ho1=>?_;refine bW ?_;refine eO [[10]] ?_;refine dB 11 ?_;refine aB 1 [13] ?_;refine fB ?_;refine fI 6 [] ?_;refine cO ((q+1,ol++[stand x.s ((lifeP p).outs[(q:Int).toNat]?.getD default)],(a1,c1,junk1))) ?_ ?_
   · exact ⟨hqc,by rw [Vh sU,hol],by assumption⟩
   show p.outs.length - (q+1)<p.outs.length - q;omega
 have hqe:q=p.outs.length:=qG hq1 hqc;subst hqe;rw [dU Qm] at hol;subst hol hx;refine bE 20 [0,13,1] ?_;refine Ar.retag 1 30 U U (Ar.retag 14 0 U U (Ar.retag 20 1 U U ?_));refine gD (.inr U) (Ho:=Hp.only _ [0,1]) U (.agg 30 U U T.agg26) (.tmp U) (bH _ _) ?_;exact ⟨oa,oo,oc,od,oj,ok,U,hoc,hoo,U,U⟩
end
def Fit (ls:List (List Int)):Prop:=∀ z∈ls,z.length=(ls[0]?.getD []).length∧z.length≤20
instance (ls:List (List Int)):Decidable (Fit ls):=by unfold Fit;infer_instance
section
attribute [local irreducible] sY pw vG p2 yJ uC tJ sW Fit
end
theorem vh (G:A2) (a:J0 Addr) (c:Nat) (xs:List I5) (hx:Arr G a xs) (hl:xs.length≤1099511627776) :
 Does Tryz.prog 52 [.slice a xs.length c] G [] (fun v G' Ho=>∃ b d j,v=.slice b xs.length d∧A3 b d xs j∧Ho=[(0,b.map (·.block),Row 91 xs j)]∧G'=G):=by
 refine D0 Tryz.func52 Tryz.ntmps52 fun w=>?_;refine aK 9 [] ?_;refine aZ (gN T.sl23 U U) ?_;refine bG 2 [] ?_;refine cF (fun hc1=>?_) fun hc1=>?_;refine bE 7 [] ?_;rotate_left;refine aK 4 [] ?_;refine nY 0 U T.sl23 fun b1=>?_;refine aB 1 [] ?_;rotate_left
 · subst hc1;have hn:xs=[]:=by
    rcases hx.2 with h | ⟨b,o,h,_⟩
    · exact dT h
    cases h
   subst hn;refine Lw 0 (Row 91 ([]:List I5) []) ?_;refine Ar.p1 [0] ?_;exact ⟨none,0,[],U,dN,U,U⟩
 refine Wl.reH 0 (Row 91 ([]:List I5) []) U U ?_;refine lN (α:=I5) 0 U T.sl23 T.el91 U U U (iJ tW) (rT sV) (by simp only [cD];omega) (by simp only [cD,maxLen];omega) fun a1 c1 junk1 ho1=>?_;refine aY 4 [] ?_;refine Ar.p1 [0] ?_;exact ⟨_,_,_,U,ho1,U,U⟩
theorem c94 (G:A2) (p:PV) (ac ao:J0 Addr) (cc co:Nat) (hc:Arr G ac p.code) (ho:Arr G ao p.outs) (h1:p.code.length≤1099511627776) (h2:p.outs.length≤1099511627776) :
 Does Tryz.prog 94 [.agg (J1 p ac cc ao co)] G [] (fun v G' Ho=>∃ bc bo dc do_ j1 j2,v=.agg #[.int .i64 p.ins,.int .i64 p.regs,.slice bc p.code.length dc,.slice bo p.outs.length do_]∧
  A3 bc dc p.code j1∧A3 bo do_ p.outs j2∧Ho=[(0,bc.map (·.block),Row 91 p.code j1),(1,bo.map (·.block),Row 3 p.outs j2)]∧G'=G):=by
 refine D0 Tryz.func94 Tryz.ntmps94 fun w=>?_;refine aK 2 [] ?_;refine eG 0 fun b1=>?_;refine aV 1 U T.zero26 fun b2=>?_;refine bG 3 [] ?_;refine dL [0,1] [(0,9),(0,7)] T.mixed [[0],[1,0],[3],[4,0]] ?_;refine dB 2 ?_;refine cU 2 U (vh _ _ _ _ sV sU) fun v1 G1 Ho1 hle1 hp=>?_;obtain ⟨lb1,ld1,lj1,rfl,hlb1,rfl,rfl⟩:=hp;refine bW ?_;refine eO [[6]] ?_;refine dB 5 ?_;refine cU 3 U (ee _ _ _ _ sV sU) fun v2 G2 Ho2 hle2 hp=>?_;obtain ⟨lb2,ld2,lj2,rfl,hlb2,rfl,rfl⟩:=hp;refine cY 7 ?_;refine aB 1 [0] ?_;refine bW ?_;refine eO [[8]] ?_;refine dB 9 ?_;refine aB 1 [0] ?_;refine fB ?_;refine fI 8 [0,1] ?_;refine lW [2,3,1] tI (cW (.inr U) (Ho:=Hp.only _ [0,1]) U (.agg 2 U U T.agg26) (bH _ _) ?_);exact ⟨_,_,_,_,_,_,U,hlb1,hlb2,U,U⟩
theorem c45 (G:A2) (p:PV) (ac ao:J0 Addr) (cc co:Nat) :
 Does Tryz.prog 45 [.agg (J1 p ac cc ao co)] G [] (fun v G' Ho =>
  ∃ b,v=.func (.func 93) #[] #[.pointer (some ⟨b,0,none⟩)]∧Ho=[]∧G' b=some (.cells [.int .i64 p.ins,.int .i64 p.regs,.slice ac p.code.length cc,.slice ao p.outs.length co].toArray 26)):=by
 refine D0 Tryz.func45 Tryz.ntmps45 fun w=>?_;refine aK 2 [] ?_;refine eG 0 fun b1=>?_;refine aS 5 [] ?_;refine aZ (mO U U) ?_;refine aY 4 [] ?_;refine sT 0 U fun G' hle hb=>?_;refine cG ?_;exact ⟨_,U,U,hb⟩
def Tl (G:A2) (f:Nat) (p:PV) (ac ao:J0 Addr) (cc co:Nat) (q:PV):Prop:=
 Does Tryz.prog f [.agg (J1 p ac cc ao co)] G [] (fun v G' Ho =>
  ∃ bc bo dc do_,v=.tuple #[.agg #[.int .i64 q.ins,.int .i64 q.regs,.slice bc q.code.length dc,.slice bo q.outs.length do_],.int .i64 0]∧Arr G' bc q.code∧Arr G' bo q.outs∧Ho=[])
theorem Nm {G:A2} {f:Nat} {p:PV} {ac ao:J0 Addr} {cc co:Nat} {q:PV} (h:Does Tryz.prog f [.agg (J1 p ac cc ao co)] G [] (fun v G' Ho =>
 ∃ bc bo dc do_ j1 j2,v=.tuple #[.agg #[.int .i64 q.ins,.int .i64 q.regs,.slice bc q.code.length dc,.slice bo q.outs.length do_],.int .i64 0]∧
  A3 bc dc q.code j1∧A3 bo do_ q.outs j2∧Ho=[(0,bc.map (·.block),Row 91 q.code j1),(1,bo.map (·.block),Row 3 q.outs j2)]∧G'=G)):Tl G f p ac ao cc co q:=by
 refine (Wb (α:=I5) (β:=Int) (E:=91) (E':=3) (q:=fun v a c xs b d ys=>v=.tuple #[.agg #[.int .i64 q.ins,.int .i64 q.regs,.slice a q.code.length c,.slice b q.outs.length d],.int .i64 0]∧xs=q.code∧ys=q.outs)
  (h.mono fun v G' Ho _ ⟨bc,bo,dc,do_,j1,j2,g1,g2,g3,g4,g5⟩=>⟨bc,dc,q.code,j1,bo,do_,q.outs,j2,⟨g1,U,U⟩,g2,g3,g4,g5⟩)).mono
  fun v G' Ho _ ⟨a,c,xs,b,d,ys,⟨g1,hx,hy⟩,h2,h3,h4⟩=>?_
 subst hx hy;exact ⟨a,b,c,d,g1,h2,h3,h4⟩
theorem vj (G:A2) (hT:TabOk G) (p:PV) (ac ao:J0 Addr) (cc co:Nat) (hc:Arr G ac p.code) (ho:Arr G ao p.outs) (hR:sW p=true):Tl G 47 p ac ao cc co (Av p):=by
 obtain ⟨f1,f2,f3,f4,f5,f6,f7,f8⟩:=sZ hR;exact Nm (uu G hT p ac ao cc co hc ho sU sU hR)
theorem vk (G:A2) (p:PV) (ac ao:J0 Addr) (cc co:Nat) (hc:Arr G ac p.code) (ho:Arr G ao p.outs) (hR:sW p=true):Tl G 48 p ac ao cc co (yJ p):=by
 obtain ⟨f1,f2,f3,f4,f5,f6,f7,f8⟩:=sZ hR;exact Nm (uv G p ac ao cc co hc ho sU sU hR)
theorem vl (G:A2) (p:PV) (ac ao:J0 Addr) (cc co:Nat) (hc:Arr G ac p.code) (ho:Arr G ao p.outs) (hR:sW p=true):Tl G 49 p ac ao cc co (Bi p):=by
 obtain ⟨f1,f2,f3,f4,f5,f6,f7,f8⟩:=sZ hR;exact Nm (ve G p ac ao cc co hc ho sU sU hR)
theorem UU (p:PV) (k:Nat):wP p (k+1)=vN k (wP p k):=rfl
section
attribute [local irreducible] uG Av yJ Bi tV wP vH yN Ef sW uH
structure RP where
 name:ByteArray
 fn:Nat
instance:Inhabited RP:=⟨⟨ByteArray.empty,0⟩⟩
instance:A0 RP:=⟨2,fun x=>[.string x.name,.func (.func x.fn) #[] #[]],fun _=>rfl,fun _=>rfl⟩
structure PA where
 a:J0 Addr
 b:J0 Addr
 c:Nat
 d:Nat
 j:List Value
 k:List Value
def vm (x:NP) (y:PA):List Value:=[.string x.name,.agg #[.int .i64 x.p.ins,.int .i64 x.p.regs,.slice y.a x.p.code.length y.c,.slice y.b x.p.outs.length y.d]]
def vn (x:NP) (y:PA):J0 Nat×Obj:=(y.a.map (·.block),Row 91 x.p.code y.j)
def vo (x:NP) (y:PA):J0 Nat×Obj:=(y.b.map (·.block),Row 3 x.p.outs y.k)
def lu (x:NP) (y:PA):Prop:=A3 y.a y.c x.p.code y.j∧A3 y.b y.d x.p.outs y.k
theorem vp (G:A2) (p:PV) (ac ao:J0 Addr) (cc co:Nat) (hc:Arr G ac p.code) (ho:Arr G ao p.outs) (h1:p.code.length≤1099511627776) (h2:p.outs.length≤1099511627776) :
 Does Tryz.prog 94 [.agg (J1 p ac cc ao co)] G [] (fun v G' Ho=>∃ bc bo dc do_,v=.agg #[.int .i64 p.ins,.int .i64 p.regs,.slice bc p.code.length dc,.slice bo p.outs.length do_]∧
  Arr G' bc p.code∧Arr G' bo p.outs∧Ho=[]):=by
 refine (Wb (α:=I5) (β:=Int) (E:=91) (E':=3) (q:=fun v a c xs b d ys=>v=.agg #[.int .i64 p.ins,.int .i64 p.regs,.slice a p.code.length c,.slice b p.outs.length d]∧xs=p.code∧ys=p.outs)
  ((c94 G p ac ao cc co hc ho h1 h2).mono fun v G' Ho _ ⟨bc,bo,dc,do_,j1,j2,g1,g2,g3,g4,g5⟩=>⟨bc,dc,p.code,j1,bo,do_,p.outs,j2,⟨g1,U,U⟩,g2,g3,g4,g5⟩)).mono
  fun v G' Ho _ ⟨a,c,xs,b,d,ys,⟨g1,hx,hy⟩,h2,h3,h4⟩=>?_
 subst hx hy;exact ⟨a,b,c,d,g1,h2,h3,h4⟩
theorem UV (G:A2) (p:PV) (ac ao:J0 Addr) (cc co:Nat) (hc:Arr G ac p.code) (ho:Arr G ao p.outs) (h1:p.code.length≤1099511627776) (h2:p.outs.length≤1099511627776) (hR:sW p=true) :
 Does Tryz.prog 56 [.agg (J1 p ac cc ao co)] G [] (fun v G' Ho=>v=.tuple #[.int .i64 (uH p).1,.int .i64 0]∧G'=G∧Ho=[]):=YC G p ac ao cc co hc ho h1 h2 hR
def GI:List RP:=[{ name:={ data:=#[102,111,108,100] },fn:=47 },{ name:={ data:=#[115,104,97,114,101] },fn:=48 },{ name:={ data:=#[100,101,97,100] },fn:=49 }]
theorem LC:[({ name:={ data:=#[102,111,108,100] },fn:=47 }:RP),{ name:={ data:=#[115,104,97,114,101] },fn:=48 },{ name:={ data:=#[100,101,97,100] },fn:=49 }]=GI:=rfl
theorem ZG:GI.length=3:=rfl
theorem UW {m k:Nat} (hm:m<3) (hk:k % 3=m):(GI[((m:Nat):Int).toNat]?.getD default).name=AP k:=by
 rcases (show m=0∨m=1∨m=2 by omega) with rfl | rfl | rfl
 · unfold AP;rw [aE hk];rfl
 · unfold AP;rw [aC (by omega),aE hk];rfl
 unfold AP;rw [aC (by omega),aC (by omega)];rfl
theorem en {m:Nat} (hm:m<3):vF Tryz.prog (GI[((m:Nat):Int).toNat]?.getD default).fn:=by
 rcases (show m=0∨m=1∨m=2 by omega) with rfl | rfl | rfl
 · exact T.fn47
 · exact T.fn48
 exact T.fn49
theorem UX {G:A2} (hT:TabOk G) {m k:Nat} (hm:m<3) (hk:k % 3=m) {p:PV} {ac ao:J0 Addr} {cc co:Nat} (hc:Arr G ac p.code) (ho:Arr G ao p.outs) (hR:sW p=true) :
 Tl G (GI[((m:Nat):Int).toNat]?.getD default).fn p ac ao cc co (vN k p):=by
 rcases (show m=0∨m=1∨m=2 by omega) with rfl | rfl | rfl
 · unfold vN;rw [aE hk];exact vj G hT p ac ao cc co hc ho hR
 · unfold vN;rw [aC (by omega),aE hk];exact vk G p ac ao cc co hc ho hR
 unfold vN;rw [aC (by omega),aC (by omega)];exact vl G p ac ao cc co hc ho hR
attribute [local irreducible] GI vN AP
def zOk (G:A2) (p z:PV) (k:Nat) (a1 a2:J0 Addr):Prop:=z=wP p k∧Arr G a1 z.code∧Arr G a2 z.outs
theorem lv (G:A2) (hT:TabOk G) (p:PV) (ac ao:J0 Addr) (cc co:Nat) (b:Nat) (hc:Arr G ac p.code) (ho:Arr G ao p.outs)
 (hb:G b=some (.cells [.int .i64 p.ins,.int .i64 p.regs,.slice ac p.code.length cc,.slice ao p.outs.length co].toArray 26)) (hR:sW p=true) :
 Xh Tryz.prog 93 [.pointer (some ⟨b,0,none⟩)] G vm vn vo lu (vH p):=by
 intro ι J inv stop ly i0 hi0 hY;obtain ⟨r1,r2,r3,r4,r5,r6,r7,r8⟩:=sZ hR;have hrow:=KO hb;refine D0 Tryz.func93 Tryz.ntmps93 fun w=>?_;refine Ph 1000 ?_;refine aK 3 [] ?_;refine aZ (jK T.agg26 U sV U) ?_;refine cZ U (UV _ p _ _ _ _ sV sV sU sU hR) ?_;refine aS 18 [0] ?_;refine aZ (jK T.agg26 U sV U) ?_;refine cU 0 U (vp _ p _ _ _ _ sV sV sU sU) fun v1 G1 Ho1 hle1 hp=>?_;obtain ⟨na,no,nc,nd,rfl,hnc,hno,rfl⟩:=hp;replace hc:=hc.up hle1;replace ho:=ho.up hle1;refine aV 0 U T.zero26 fun b1=>?_;refine aS 5 [0] ?_;refine aZ (cQ (cs:=[_,_]) T.st158 U U U) ?_;refine aZ (cQ (cs:=[_,_]) T.st158 U U U) ?_;refine aZ (cQ (cs:=[_,_]) T.st158 U U U) ?_;refine eH (α:=RP) 1 [⟨_,_⟩,⟨_,_⟩,⟨_,_⟩] U T.sl159 T.el158 U U U U U fun b2=>?_;refine bG 10 [] ?_;refine rJ 1 (Row 158 GI []) U (by rw [LC]) ?_;refine kY 6 U (show _=Value.slice (some ⟨b2,0,none⟩) GI.length 3 by rw [←LC]) ?_;have hr3:=ZG;refine Xg (ι:=Nat×A2×PV×(J0 Addr×Nat×J0 Addr×Nat)×ι) 1000 (fun (n,Gx,z,(a1,c1,a2,c2),s)=>([(23,.int .i64 (n:Int)),(6,.slice (some (Addr.mk b2 0 none)) (List.length GI) 3),(5,.pointer (some ⟨b1,0,none⟩)),(0,.func (Go.Fn.yield ly) #[] #[])],[(0,some b1,.cells #[.int .i64 z.ins,.int .i64 z.regs,.slice a1 z.code.length c1,.slice a2 z.outs.length c2] 26),(1,some b2,Row (α:=RP) 158 (GI) ([]))])) (fun (n,Gx,z,(a1,c1,a2,c2),s)=>J s) (fun (n,Gx,z,(a1,c1,a2,c2),s)=>Gx) (fun (n,Gx,z,(a1,c1,a2,c2),s)=>n≤yN p+1∧(n=yN p+1→yN p=15)∧G.le Gx∧zOk Gx p z (3*n) a1 a2∧inv (3*n) s) (fun (n,Gx,z,(a1,c1,a2,c2),s)=>17 - n) ((0,G1,p,(na,nc,no,nd),i0)) (⟨aP _,fun h=>absurd h sU,hle1,⟨by rw [Nat.mul_zero];unfold wP;rfl,hnc,hno⟩,hi0⟩) U ⟨U,U,U,U,I3⟩ ⟨U,U,I3⟩ Al fun ⟨n,Gx,z,(a1,c1,a2,c2),s⟩=>fun hk=>?_;obtain ⟨hn1,hn2,hn3,hz,hinv⟩:=hk;have h15:=LB p;have hlen:Ef p=3*yN p+3:=by unfold Ef;rfl
 have hRz:sW z=true:=by rw [hz.1];exact xY hR _
 obtain ⟨z1,z2,z3,z4,z5,z6,z7,z8⟩:=sZ hRz;obtain ⟨hz0,hzc,hzo⟩:=hz;rcases aN n 16 with hn16 | hn16
 · have hnl:n≤yN p:=sU;refine aK 14 [1,0] ?_;refine aV 2 U T.zero26 fun b3=>?_;refine bG 12 [2] ?_;refine Xg (ι:=Nat×A2×PV×(J0 Addr×Nat×J0 Addr×Nat)×ι) 1000 (fun (m,Gy,y,(d1,e1,d2,e2),s)=>([(28,.int .i64 (m:Int)),(6,.slice (some ⟨b2,0,none⟩) GI.length 3),(27,.int .i64 (GI.length:Int)),(26,.slice (some (Addr.mk b2 0 none)) (List.length GI) 3),(7,.pointer (some (Addr.mk b3 0 none))),(23,.int .i64 (↑n:Int)),(5,.pointer (some ⟨b1,0,none⟩)),(0,.func (Go.Fn.yield ly) #[] #[])],[(0,some b1,.cells #[.int .i64 y.ins,.int .i64 y.regs,.slice d1 y.code.length e1,.slice d2 y.outs.length e2] 26),(2,some b3,.cells #[.int .i64 z.ins,.int .i64 z.regs,.slice a1 z.code.length c1,.slice a2 z.outs.length c2] 26),(1,some b2,Row (α:=RP) 158 (GI) ([]))])) (fun (m,Gy,y,(d1,e1,d2,e2),s)=>J s) (fun (m,Gy,y,(d1,e1,d2,e2),s)=>Gy) (fun (m,Gy,y,(d1,e1,d2,e2),s)=>m≤3∧Gx.le Gy∧zOk Gy p y (3*n+m) d1 d2∧inv (3*n+m) s) (fun (m,Gy,y,(d1,e1,d2,e2),s)=>3 - m) ((0,Gx,z,(a1,c1,a2,c2),s)) (⟨aP _,cX _,⟨hz0,hzc,hzo⟩,hinv⟩) U ⟨U,U,U,U,U,U,U,U,I3⟩ ⟨U,U,U,I3⟩ Al fun ⟨m,Gy,y,(d1,e1,d2,e2),s⟩=>fun hk=>?_;obtain ⟨hm1,hm2,⟨hy0,hy1,hy2⟩,hinv2⟩:=hk;have hRy:sW y=true:=by rw [hy0];exact xY hR _
   obtain ⟨y1,y2,y3,y4,y5,y6,y7,y8⟩:=sZ hRy;replace hzc:=hzc.up hm2;replace hzo:=hzo.up hm2;have hT2:TabOk Gy:=hT.up (bL hn3 hm2);rcases aN m 3 with hm3 | hm3
   · refine aK 13 [1] ?_;refine aZ (oB T.sl159 U U sU) ?_;refine aZ (Vx (α:=RP) 1 T.agg158 U U ⟨by omega,by omega⟩) ?_;refine aV 3 U T.zero158 fun b4=>?_;refine aS 8 [3,3,0] ?_;obtain ⟨u,hu⟩:∃ u,u=vN (3*n+m) y:=⟨_,U⟩
     have hP:=UX hT2 hm3 (k:=3*n+m) sU (cc:=e1) (co:=e2) hy1 hy2 hRy;rw [←hu] at hP;refine kX (fst:=[]) (cap:=[]) 100 U (en hm3) U U hP (tB I3) fun v9 G9 Ho9 hle9 hp=>?_;obtain ⟨qa,qb,qc,qd,rfl,hqA,hqB,rfl⟩:=hp;have hRu:sW u=true:=by rw [hu];exact Tf hRy _
     obtain ⟨u1,u2,u3,u4,u5,u6,u7,u8⟩:=sZ hRu;refine bG 7 [0] ?_;refine dL [1,2,3,0] [(0,5),(3,5),(2,5),(1,5)] T.mixed [[0],[1],[2,3]] ?_;refine dB 3 ?_;refine aB 1 [0] ?_;refine cY 4 ?_;refine cU 4 U (c94 _ _ _ _ _ _ sV sV sU sU) fun v2 G2 Ho2 hle2 hp=>?_;obtain ⟨ya2,yb2,yc2,yd2,yj2,yk2,rfl,hya2,hyb2,rfl,rfl⟩:=hp;refine cY 5 ?_;have hun:u=wP p (3*n+m+1):=by rw [hu,hy0,UU]
     have hxs:(vH p)[3*n+m]?=some ⟨(GI[(m:Int).toNat]?.getD default).name,u⟩:=by rw [UW hm3 (k:=3*n+m) sU,hun];exact Xu p sU
     refine Mx (A:=[(0,some b1,.cells #[.int .i64 u.ins,.int .i64 u.regs,.slice qa u.code.length qc,.slice qb u.outs.length qd] 26),(3,some b4,.cells (A0.enc (GI[(m:Int).toNat]?.getD default)).toArray 158),(2,some b3,.cells #[.int .i64 z.ins,.int .i64 z.regs,.slice a1 z.code.length c1,.slice a2 z.outs.length c2] 26),(1,some b2,Row 158 GI [])]) 1000 4 5 U U U U U U ⟨U,U,U,U,I3⟩ U U Al U
      ((hY (3*n+m) ⟨(GI[((m:Nat):Int).toNat]?.getD default).name,u⟩ ⟨ya2,yb2,yc2,yd2,yj2,yk2⟩ s hxs ⟨hya2,hyb2⟩ hinv2).up (bL hn3 (bL hm2 hle9))) (fun vy Gv Hv hlv hp=>?_)
     obtain ⟨rfl,s',rfl,hp⟩:=hp;rcases hp with ⟨rfl,hinv'⟩ | ⟨rfl,hst⟩
     · refine bW ?_;refine eO [[6]] ?_;refine eU ?_;refine fI 9 [0] ?_;refine Iu ((m+1,_,u,(qa,qc,qb,qd),s')) ?_ ?_ U ⟨U,U,U,U,U,U,U,U,I3⟩ ⟨U,U,U,I3⟩ Al
       · exact ⟨by omega,bL hm2 hle9,⟨hun,hqA,hqB⟩,hinv'⟩
       show 3 - (m+1)<3 - m;omega
     refine bW ?_;refine eO [[6]] ?_;refine eU ?_;refine fI 13 [1] ?_;refine qE ?_;refine pB (k:=1000) (.inr U) U Al ⟨U,s',U,.inr hst⟩
   have hm:m=3:=sU;subst hm;refine aK 16 [0,2,0] ?_;refine cZ U (c42 _ _ _ _ _ _ _ _ _ _ _ sV sV sV sV sU sU sU sU) ?_;refine bG 2 [] ?_;refine cF (fun hc1=>?_) fun hc1=>?_;refine aK 9 [0] ?_;refine cU 3 U (ln _ _ _ _ _ _ sV sV sU sU sV) fun v2 G2 Ho2 hle2 hp=>?_;obtain ⟨pa2,pb2,pc2,pd2,pj2,pk2,rfl,hpa2,hpb2,rfl,rfl⟩:=hp;refine aS 9 [0,0] ?_;rotate_left;refine bE 7 [] ?_;rotate_left
   · have hzy:z=y:=hc1;have hnn:n=yN p:=by
      rcases aN n (yN p) with h9 | h9
      · exact absurd (by rw [←hz0,hzy,hy0]) (UQ p h9)
      omega
     have hyl:y=wP p (Ef p):=by rw [hy0,hlen,hnn]
     have hxs:(vH p)[3*n+3]?=some ⟨Xt,tV y⟩:=by rw [hyl,hnn,←hlen];exact zG p
     have hrl:=Cj p;refine Mx (A:=[(0,some b1,.cells #[.int .i64 (tV y).ins,.int .i64 (tV y).regs,.slice pa2 (tV y).code.length pc2,.slice pb2 (tV y).outs.length pd2] 26)]) 1000 3 4 U U U U U U ⟨U,I3⟩ U U Al U
      ((hY (3*n+3) ⟨Xt,tV y⟩ ⟨pa2,pb2,pc2,pd2,pj2,pk2⟩ s hxs ⟨hpa2,hpb2⟩ hinv2).up (bL hn3 hm2)) (fun vy Gv Hv hlv hp=>?_)
     obtain ⟨rfl,s',rfl,hp⟩:=hp;rw [show 3*n+3+1=(vH p).length by rw [hrl];omega] at hp;refine eC ?_;refine qE ?_;refine pB (k:=1000) (.inl U) U Al ⟨U,s',U,hp.imp And.right And.right⟩
   have hne:¬z=y:=hc1;refine Iu ((n+1,Gy,y,(d1,e1,d2,e2),s)) ?_ ?_ U ⟨U,U,U,U,I3⟩ ⟨U,U,I3⟩ Al
   · refine ⟨by omega,fun h=>?_,bL hn3 hm2,⟨by rw [hy0];congr 1,hy1,hy2⟩,by rw [show 3*(n+1)=3*n+3 by omega];exact hinv2⟩;rcases UP p with h9 | h9
     · exact h9
     have:n=yN p:=sU;subst this;exact absurd (by rw [hz0,hy0];exact h9.symm) hne
   show 17 - (n+1)<17 - n;omega
 have hnn:n=16:=sU;have hl15:yN p=15:=hn2 sU;have hzl:z=wP p (Ef p):=by rw [hz0,hlen,hnn,hl15]
 have hxs:(vH p)[3*n]?=some ⟨Xt,tV z⟩:=by rw [hzl,show 3*n=Ef p by omega];exact zG p
 have hrl:=Cj p;refine aK 15 [0,0] ?_;refine cU 2 U (ln _ _ _ _ _ _ sV sV sU sU sV) fun v2 G2 Ho2 hle2 hp=>?_;obtain ⟨pa2,pb2,pc2,pd2,pj2,pk2,rfl,hpa2,hpb2,rfl,rfl⟩:=hp;refine aS 9 [0,0] ?_;refine Mx (A:=[(0,some b1,.cells #[.int .i64 (tV z).ins,.int .i64 (tV z).regs,.slice pa2 (tV z).code.length pc2,.slice pb2 (tV z).outs.length pd2] 26)]) 1000 2 3 U U U U U U ⟨U,I3⟩ U U Al U
  ((hY (3*n) ⟨Xt,tV z⟩ ⟨pa2,pb2,pc2,pd2,pj2,pk2⟩ s hxs ⟨hpa2,hpb2⟩ hinv).up hn3) (fun vy Gv Hv hlv hp=>?_)
 obtain ⟨rfl,s',rfl,hp⟩:=hp;rw [show 3*n+1=(vH p).length by rw [hrl];omega] at hp;refine eC ?_;refine qE ?_;refine pB (k:=1000) (.inl U) U Al ⟨U,s',U,hp.imp And.right And.right⟩
end
section
attribute [local irreducible] uG Av yJ Bi tV wP vH yN Ef sW uH GI vN AP
def tU (p:PV):PV:=tV (wP p (Ef p))
theorem lw (G:A2) (hT:TabOk G) (p:PV) (ac ao:J0 Addr) (cc co:Nat) (hc:Arr G ac p.code) (ho:Arr G ao p.outs) (hR:sW p=true) :
 Does Tryz.prog 50 [.agg (J1 p ac cc ao co)] G [] (fun v G' Ho=>∃ q bc bo dc do_,v=.tuple #[.agg #[.int .i64 q.ins,.int .i64 q.regs,.slice bc q.code.length dc,.slice bo q.outs.length do_],.int .i64 0]∧q=tU p∧Arr G' bc q.code∧Arr G' bo q.outs∧Ho=[]):=by
 obtain ⟨r1,r2,r3,r4,r5,r6,r7,r8⟩:=sZ hR;refine nQ Tryz.func50 U Tryz.ntmps50 U fun w=>?_;refine aK 2 [] ?_;refine eG 0 fun b1=>?_;refine aV 1 U T.zero26 fun b2=>?_;refine aS 7 [0] ?_;refine cZ U (UV _ p _ _ _ _ sV sV sU sU hR) ?_;refine aS 18 [0] ?_;refine aV 2 U T.zero26 fun b3=>?_;refine aS 6 [0] ?_;refine cU 3 U (c45 _ p _ _ _ _) fun v1 G1 Ho1 hle1 hp=>?_;obtain ⟨bi1,rfl,rfl,hbi1⟩:=hp;replace hc:=hc.up hle1;replace ho:=ho.up hle1;refine bG 3 [] ?_;refine dK 5 (Row 91 ([]:List I5) []) (dK 6 (Row 3 ([]:List Int) []) ?_);have hT1:TabOk G1:=hT.up hle1;refine Ia (ι:=PV×PA) 900 901 902 903 (fun (q,y)=>[(2,some b3,.cells #[.int .i64 q.ins,.int .i64 q.regs,.slice y.a q.code.length y.c,.slice y.b q.outs.length y.d] 26),(5,y.a.map (·.block),Row 91 q.code y.j),(6,y.b.map (·.block),Row 3 q.outs y.k),(1,some b2,.cells #[.int .i64 0,.int .i64 0,.slice none 0 0,.slice none 0 0] 26),(0,some b1,.cells (J1 p ac cc ao co) 26)]) (fun k (q,y)=>A3 y.a y.c q.code y.j∧A3 y.b y.d q.outs y.k∧(∀ x,0<k→(vH p)[k - 1]?=some x→q=x.p)) (fun c (q,y)=>False) ((⟨0,0,[],[]⟩,⟨none,none,0,0,[],[]⟩)) U T.fn93 (fun _ _=>rfl) U (lv _ hT1 p _ _ _ _ _ hc ho hbi1 hR) (⟨dN,dN,fun x h=>absurd h sU⟩) (oM ⟨U,U,U,U,U,I3⟩) ⟨U,fun _=>rfl⟩ U (fun k xk yk ⟨q,y⟩ l dd qq w0 hx hgd hi=>?_) (fun ⟨q,y⟩ dd hi=>?_) fun ⟨q,y⟩ dd c hi=>?_
 · refine aK 1 [] ?_;refine aV 904 U T.zero26 fun b4=>?_;refine aY 2 [904] ?_;refine qX 900 U ?_;refine bE 6 [904,2] ?_;refine Ar.retag 902 5 U U (Ar.retag 903 6 U U ?_);refine kF none (.inl ⟨U,U⟩) 900 U ⟨U,((xk.p,yk),none),U,.inl ⟨U,U,?_⟩⟩ (oM ⟨U,U,U,U,U,U,U,I3⟩);refine ⟨hgd.1,hgd.2,fun x _ hx'=>?_⟩;rw [iQ,hx] at hx';cases hx';rfl
 · obtain ⟨hoc,hoo,hl⟩:=hi;have hq:q=tU p:=by
    have h9:=Cj p;exact hl _ sU (by rw [h9,iQ];exact zG p)
   refine fI 10 [2,1] ?_;refine nH (.inr U) 901 U ?_;refine nT (.inr U) ?_;refine fO 5 U hoc (fun G8 hle8 hA8=>fO 6 U hoo (fun G9 hle9 hA9=>?_));refine gD (.inr U) (Ho:=[]) U (.agg 1 U U T.agg26) (.tmp U) I3 ?_;exact ⟨_,_,_,_,_,U,hq,hA8.up hle9,hA9,U⟩
 exact hi.elim
end
structure PtV where
 b:Nat
 o:Nat
instance:Inhabited PtV:=⟨⟨0,0⟩⟩
instance:A0 PtV:=⟨1,fun x=>[.pointer (some ⟨x.b,x.o,none⟩)],fun _=>rfl,fun _=>rfl⟩
section
attribute [local irreducible] tT sW uO xG tK tU xF
theorem lx (G:A2) (k1 k2:Int) (a:J0 Addr) (c:Nat) (l:List R2) (ha:Arr G a l) (hl:l.length≤1048576) (hlc:l.length≤c) (hW:¬tT k1 k2 l=0) :
 Does Tryz.prog 34 [.int .i64 k1,.int .i64 k2,.slice a l.length c] G [] (fun v G' Ho=>v=.tuple #[.agg #[.int .i64 0,.int .i64 0,.slice none 0 0,.int .i64 0,.int .i64 0,.slice none 0 0,.slice none 0 0,.int .i64 0,.int .i64 0,.slice none 0 0,.slice none 0 0,.int .i64 0,.int .i64 0,.slice none 0 0,.slice none 0 0],.int .i64 (tT k1 k2 l)]∧Ho=[]):=by
 refine D0 Tryz.func34 Tryz.ntmps34 fun w=>?_;refine aK 2 [] ?_;refine aV 0 U T.zero28 fun b1=>?_;refine aS 8 [] ?_;refine cU 1 U (c54 _ _ _ _ _ _ sV sU sU) fun v1 G1 Ho1 hle1 hp=>?_;obtain ⟨pv1,rfl,rfl⟩:=hp;replace ha:=ha.up hle1;refine aS 17 [1] ?_;refine aZ (cQ (cs:=[_,_,_,_,_,_,_,_,_,_,_,_,_,_,_]) T.st28 U U U) ?_;refine aY 7 [0] ?_;refine gD (.inr U) (Ho:=[]) U (.agg 0 U U T.agg28) (.tmp U) I3 ?_;exact ⟨U,U⟩
theorem lz (G:A2) (hT:TabOk G) (n1 n2:Nat) (a:J0 Addr) (c:Nat) (l:List R2) (ha:Arr G a l) (hl:l.length≤1048576) (hlc:l.length≤c) (hW:tT (n1:Int) (n2:Int) l=0) :
 Does Tryz.prog 34 [.int .i64 (n1:Int),.int .i64 (n2:Int),.slice a l.length c] G [] (fun v G' Ho=>∃ (pa xc xo yc yo zc zo:J0 Addr) (pd xcc xoc ycc yoc zcc zoc:Nat) (pj zj zk:List Value),v=.tuple #[.agg #[.int .i64 (n1:Int),.int .i64 (n2:Int),.slice pa l.length pd,.int .i64 (xG n1 l).ins,.int .i64 (xG n1 l).regs,.slice xc (xG n1 l).code.length xcc,.slice xo (xG n1 l).outs.length xoc,.int .i64 (xG n2 l).ins,.int .i64 (xG n2 l).regs,.slice yc (xG n2 l).code.length ycc,.slice yo (xG n2 l).outs.length yoc,.int .i64 (tK l (xF l.length)).ins,.int .i64 (tK l (xF l.length)).regs,.slice zc (tK l (xF l.length)).code.length zcc,.slice zo (tK l (xF l.length)).outs.length zoc],.int .i64 0]∧
  A3 pa pd l pj∧Arr G' xc (xG n1 l).code∧Arr G' xo (xG n1 l).outs∧Arr G' yc (xG n2 l).code∧Arr G' yo (xG n2 l).outs∧A3 zc zcc (tK l (xF l.length)).code zj∧A3 zo zoc (tK l (xF l.length)).outs zk∧Ho=[(1,pa.map (·.block),Row 52 l pj),(3,zc.map (·.block),Row 91 (tK l (xF l.length)).code zj),(4,zo.map (·.block),Row 3 (tK l (xF l.length)).outs zk)]):=by
 obtain ⟨hP1,hP2,hL,hRL⟩:=vZ hW;have hn1:1≤n1∧n1≤8:=by have:=hP1.1;have:=hP1.2;omega
 have hn2:1≤n2∧n2≤8:=by have:=hP2.1;have:=hP2.2;omega
 refine D0 Tryz.func34 Tryz.ntmps34 fun w=>?_;refine aK 2 [] ?_;refine aV 0 U T.zero28 fun b1=>?_;refine aS 8 [] ?_;refine cU 1 U (c54 _ _ _ _ _ _ sV sU sU) fun v1 G1 Ho1 hle1 hp=>?_;obtain ⟨pv1,rfl,rfl⟩:=hp;replace ha:=ha.up hle1;refine aS 22 [0] ?_;refine cU 1 U (c33 _ _ _ _ sV sU) fun v2 G2 Ho2 hle2 hp=>?_;obtain ⟨s2,d2,j2,rfl,ho2,rfl,rfl⟩:=hp;refine aZ (cQ (cs:=[_,_,_,_,_,_,_,_,_,_,_,_,_,_,_]) T.st28 U U U) ?_;refine aV 2 U T.zero28 fun b2=>?_;refine aS 7 [2] ?_;refine cU 3 U (c43 _ (hT.up Hl) _ _ _ _ sV sU hRL sU sU) fun v3 G3 Ho3 hle3 hp=>?_;obtain ⟨ca3,oa3,cc3,oc3,rfl,hcA3,hoA3,rfl⟩:=hp;replace ha:=ha.up hle3;refine aB 4 [] ?_;refine oG 2 T.size26 U U U U U U ?_;refine aS 17 [0] ?_;refine cU 3 U (c43 _ (hT.up Hl) _ _ _ _ sV sU hRL sU sU) fun v4 G4 Ho4 hle4 hp=>?_;obtain ⟨ca4,oa4,cc4,oc4,rfl,hcA4,hoA4,rfl⟩:=hp;replace hcA3:=hcA3.up hle4;replace hoA3:=hoA3.up hle4;replace ha:=ha.up hle4;refine aB 4 [] ?_;refine oG 2 T.size26 U U U U U U ?_;refine aS 16 [0] ?_;refine cU 3 U (uk _ _ _ _ sV sU hRL) fun v5 G5 Ho5 hle5 hp=>?_;obtain ⟨za5,zb5,zc5,zd5,zj5,zk5,rfl,hza5,hzb5,rfl⟩:=hp;refine aB 4 [] ?_;refine oG 2 T.size26 U U U U U U ?_;refine aY 21 [0,2,0] ?_;refine gD (.inr U) (Ho:=[(1,s2.map (·.block),Row 52 l j2),(3,za5.map (·.block),Row 91 (tK l (xF l.length)).code zj5),(4,zb5.map (·.block),Row 3 (tK l (xF l.length)).outs zk5)]) U (.agg 0 U U T.agg28) (.tmp U) ⟨U,U,U,I3⟩ ?_;exact ⟨s2,ca3,oa3,ca4,oa4,za5,zb5,d2,cc3,oc3,cc4,oc4,zc5,zd5,j2,zj5,zk5,U,ho2,hcA3.up sV,hoA3.up sV,hcA4.up sV,hoA4.up sV,hza5,hzb5,U⟩
end
section
attribute [local irreducible] uG Av yJ Bi tV wP vH yN Ef sW uH GI vN AP
theorem vq (G:A2) (hT:TabOk G) (p:PV) (ac ao:J0 Addr) (cc co:Nat) (hc:Arr G ac p.code) (ho:Arr G ao p.outs) (hR:sW p=true) :
 Does Tryz.prog 50 [.agg (J1 p ac cc ao co)] G [] (fun v G' Ho=>∃ q bc bo dc do_ jo,v=.tuple #[.agg #[.int .i64 q.ins,.int .i64 q.regs,.slice bc q.code.length dc,.slice bo q.outs.length do_],.int .i64 0]∧q=tU p∧Arr G' bc q.code∧A3 bo do_ q.outs jo∧Ho=[(6,bo.map (·.block),Row 3 q.outs jo)]):=by
 obtain ⟨r1,r2,r3,r4,r5,r6,r7,r8⟩:=sZ hR;refine nQ Tryz.func50 U Tryz.ntmps50 U fun w=>?_;refine aK 2 [] ?_;refine eG 0 fun b1=>?_;refine aV 1 U T.zero26 fun b2=>?_;refine aS 7 [0] ?_;refine cZ U (UV _ p _ _ _ _ sV sV sU sU hR) ?_;refine aS 18 [0] ?_;refine aV 2 U T.zero26 fun b3=>?_;refine aS 6 [0] ?_;refine cU 3 U (c45 _ p _ _ _ _) fun v1 G1 Ho1 hle1 hp=>?_;obtain ⟨bi1,rfl,rfl,hbi1⟩:=hp;replace hc:=hc.up hle1;replace ho:=ho.up hle1;refine bG 3 [] ?_;refine dK 5 (Row 91 ([]:List I5) []) (dK 6 (Row 3 ([]:List Int) []) ?_);have hT1:TabOk G1:=hT.up hle1;refine Ia (ι:=PV×PA) 900 901 902 903 (fun (q,y)=>[(2,some b3,.cells #[.int .i64 q.ins,.int .i64 q.regs,.slice y.a q.code.length y.c,.slice y.b q.outs.length y.d] 26),(5,y.a.map (·.block),Row 91 q.code y.j),(6,y.b.map (·.block),Row 3 q.outs y.k),(1,some b2,.cells #[.int .i64 0,.int .i64 0,.slice none 0 0,.slice none 0 0] 26),(0,some b1,.cells (J1 p ac cc ao co) 26)]) (fun k (q,y)=>A3 y.a y.c q.code y.j∧A3 y.b y.d q.outs y.k∧(∀ x,0<k→(vH p)[k - 1]?=some x→q=x.p)) (fun c (q,y)=>False) ((⟨0,0,[],[]⟩,⟨none,none,0,0,[],[]⟩)) U T.fn93 (fun _ _=>rfl) U (lv _ hT1 p _ _ _ _ _ hc ho hbi1 hR) (⟨dN,dN,fun x h=>absurd h sU⟩) (oM ⟨U,U,U,U,U,I3⟩) ⟨U,fun _=>rfl⟩ U (fun k xk yk ⟨q,y⟩ l dd qq w0 hx hgd hi=>?_) (fun ⟨q,y⟩ dd hi=>?_) fun ⟨q,y⟩ dd c hi=>?_
 · refine aK 1 [] ?_;refine aV 904 U T.zero26 fun b4=>?_;refine aY 2 [904] ?_;refine qX 900 U ?_;refine bE 6 [904,2] ?_;refine Ar.retag 902 5 U U (Ar.retag 903 6 U U ?_);refine kF none (.inl ⟨U,U⟩) 900 U ⟨U,((xk.p,yk),none),U,.inl ⟨U,U,?_⟩⟩ (oM ⟨U,U,U,U,U,U,U,I3⟩);refine ⟨hgd.1,hgd.2,fun x _ hx'=>?_⟩;rw [iQ,hx] at hx';cases hx';rfl
 · obtain ⟨hoc,hoo,hl⟩:=hi;have hq:q=tU p:=by
    have h9:=Cj p;exact hl _ sU (by rw [h9,iQ];exact zG p)
   refine fI 10 [2,1] ?_;refine nH (.inr U) 901 U ?_;refine nT (.inr U) ?_;refine fO 5 U hoc fun G8 hle8 hA8=>?_;refine gD (.inr U) (Ho:=[(6,y.b.map (·.block),Row 3 q.outs y.k)]) U (.agg 1 U U T.agg26) (.tmp U) ⟨U,I3⟩ ?_;exact ⟨_,_,_,_,_,_,U,hq,hA8,hoo,U⟩
 exact hi.elim
end
theorem c67 (G:A2) (b:Nat):Does Tryz.prog 67 [.pointer (some ⟨b,0,none⟩)] G [] (fun v G' Ho=>∃ s,v=.slice s ([⟨b,3⟩,⟨b,7⟩,⟨b,11⟩]:List PtV).length 3∧Arr G' s ([⟨b,3⟩,⟨b,7⟩,⟨b,11⟩]:List PtV)∧Ho=[]):=by
 refine D0 Tryz.func67 Tryz.ntmps67 fun w=>?_;refine bJ 6 [] ?_;refine dL [] [] T.mixed [[0],[1],[2],[3],[4],[5],[6],[7],[8]] ?_;refine dB 9 ?_;refine eH (α:=PtV) 0 [⟨_,_⟩,⟨_,_⟩,⟨_,_⟩] U T.sl86 T.el85 U U U U U fun b1=>?_;refine bW ?_;refine eO [[10]] ?_;refine eU ?_;refine fI 2 [] ?_;refine fO (α:=PtV) 0 U (iJ Vt) fun G2 hle2 hA2=>?_;refine cG ?_;exact ⟨_,U,hA2,U⟩
section
attribute [local irreducible] tT sW uO xG tK tU xF
theorem vt (G:A2) (k1 k2:Int) (a:J0 Addr) (c:Nat) (l:List R2) (ha:Arr G a l) (hl:l.length≤1048576) (hlc:l.length≤c) (hW:¬tT k1 k2 l=0) :
 Does Tryz.prog 20 [.int .i64 k1,.int .i64 k2,.slice a l.length c] G [] (fun v G' Ho=>v=.tuple #[.agg #[.int .i64 0,.int .i64 0,.slice none 0 0,.int .i64 0,.int .i64 0,.slice none 0 0,.slice none 0 0,.int .i64 0,.int .i64 0,.slice none 0 0,.slice none 0 0,.int .i64 0,.int .i64 0,.slice none 0 0,.slice none 0 0],.int .i64 (tT k1 k2 l)]∧Ho=[]):=by
 refine D0 Tryz.func20 Tryz.ntmps20 fun w=>?_;refine aK 2 [] ?_;refine aV 0 U T.zero28 fun b1=>?_;refine aS 8 [] ?_;refine cU 1 U (lx _ _ _ _ _ _ sV sU sU hW) fun v1 G1 Ho1 hle1 hp=>?_;obtain ⟨rfl,rfl⟩:=hp;replace ha:=ha.up hle1;refine aB 3 [] ?_;refine aV 1 U T.zero28 fun b2=>?_;refine aS 14 [1,1] ?_;refine aZ (cQ (cs:=[_,_,_,_,_,_,_,_,_,_,_,_,_,_,_]) T.st28 U U U) ?_;refine aY 7 [0] ?_;refine gD (.inr U) (Ho:=[]) U (.agg 0 U U T.agg28) (.tmp U) I3 ?_;exact ⟨U,U⟩
theorem xB {k:Nat} {l:List R2} (hR:uO l) (hk:1≤k∧k≤8):sW (xG k l)=true:=Sd (Gz hR hk)
theorem Cl {l:List R2} (hR:uO l):sW (tK l (xF l.length))=true:=Is hR (Ha l.length)
theorem vu (G:A2) (hT:TabOk G) (n1 n2:Nat) (a:J0 Addr) (c:Nat) (l:List R2) (ha:Arr G a l) (hl:l.length≤1048576) (hlc:l.length≤c) (hW:tT (n1:Int) (n2:Int) l=0) :
 Does Tryz.prog 20 [.int .i64 (n1:Int),.int .i64 (n2:Int),.slice a l.length c] G [] (fun v G' Ho=>∃ (pa xc xo yc yo zc zo:J0 Addr) (pd xcc xoc ycc yoc zcc zoc:Nat) (pj zk:List Value),v=.tuple #[.agg #[.int .i64 (n1:Int),.int .i64 (n2:Int),.slice pa l.length pd,.int .i64 (tU (xG n1 l)).ins,.int .i64 (tU (xG n1 l)).regs,.slice xc (tU (xG n1 l)).code.length xcc,.slice xo (tU (xG n1 l)).outs.length xoc,.int .i64 (tU (xG n2 l)).ins,.int .i64 (tU (xG n2 l)).regs,.slice yc (tU (xG n2 l)).code.length ycc,.slice yo (tU (xG n2 l)).outs.length yoc,.int .i64 (tU (tK l (xF l.length))).ins,.int .i64 (tU (tK l (xF l.length))).regs,.slice zc (tU (tK l (xF l.length))).code.length zcc,.slice zo (tU (tK l (xF l.length))).outs.length zoc],.int .i64 0]∧
  A3 pa pd l pj∧Arr G' xc (tU (xG n1 l)).code∧Arr G' xo (tU (xG n1 l)).outs∧Arr G' yc (tU (xG n2 l)).code∧Arr G' yo (tU (xG n2 l)).outs∧Arr G' zc (tU (tK l (xF l.length))).code∧A3 zo zoc (tU (tK l (xF l.length))).outs zk∧Ho=[(2,pa.map (·.block),Row 52 l pj),(7,zo.map (·.block),Row 3 (tU (tK l (xF l.length))).outs zk)]):=by
 obtain ⟨hP1,hP2,hL,hRL⟩:=vZ hW;have hn1:1≤n1∧n1≤8:=by have:=hP1.1;have:=hP1.2;omega
 have hn2:1≤n2∧n2≤8:=by have:=hP2.1;have:=hP2.2;omega
 have hRx:=xB hRL hn1;have hRy:=xB hRL hn2;have hRz:=Cl hRL;refine D0 Tryz.func20 Tryz.ntmps20 fun w=>?_;refine aK 2 [] ?_;refine aV 0 U T.zero28 fun b1=>?_;refine aS 8 [] ?_;refine cU 1 U (lz _ hT n1 n2 _ _ _ sV sU sU hW) fun v1 G1 Ho1 hle1 hp=>?_;obtain ⟨pa1,xc1,xo1,yc1,yo1,zc1,zo1,pd1,xcc1,xoc1,ycc1,yoc1,zcc1,zoc1,pj1,zj1,zk1,rfl,hpo1,hxc1,hxo1,hyc1,hyo1,hzc1,hzo1,rfl⟩:=hp;replace ha:=ha.up hle1;refine aB 3 [] ?_;refine aV 6 U T.zero28 fun b2=>?_;refine aS 17 [6,0] ?_;refine cU 7 U (c67 _ _) fun v2 G2 Ho2 hle2 hp=>?_;obtain ⟨ps2,rfl,hps2,rfl⟩:=hp;replace hxc1:=hxc1.up hle2;replace hxo1:=hxo1.up hle2;replace hyc1:=hyc1.up hle2;replace hyo1:=hyo1.up hle2;replace ha:=ha.up hle2;refine bG 5 [] ?_;refine nZ 4 U hzc1 (fun G3 hle3 hzcA=>nZ 5 U hzo1 (fun G4 hle4 hzoA=>?_));replace hps2:=(hps2.up hle3).up hle4;replace hxc1:=(hxc1.up hle3).up hle4;replace hxo1:=(hxo1.up hle3).up hle4;replace hyc1:=(hyc1.up hle3).up hle4;replace hyo1:=(hyo1.up hle3).up hle4;replace hzcA:=hzcA.up hle4;refine dK 7 (Row 3 ([]:List Int) []) ?_;refine nN (ι:=Nat×A2×PH×PH×PH×(J0 Addr×Nat×List Int×List Value)) (fun (k,Gx,u,v,q,(ro,rd,os,rj))=>([(27,.int .i64 (k:Int)),(26,.int .i64 ((3:Nat):Int)),(8,.pointer (some ⟨b2,0,none⟩)),(6,.pointer (some ⟨b1,0,none⟩)),(25,.slice ps2 (List.length [PtV.mk b2 3,PtV.mk b2 7,PtV.mk b2 11]) 3)],[(0,some b1,.cells #[.int .i64 0,.int .i64 0,.slice none 0 0,.int .i64 0,.int .i64 0,.slice none 0 0,.slice none 0 0,.int .i64 0,.int .i64 0,.slice none 0 0,.slice none 0 0,.int .i64 0,.int .i64 0,.slice none 0 0,.slice none 0 0] 28),(2,pa1.map (·.block),Row 52 l pj1),(6,some b2,.cells #[.int .i64 (n1:Int),.int .i64 (n2:Int),.slice pa1 l.length pd1,.int .i64 u.ins,.int .i64 u.regs,.slice u.ac u.cn u.cc,.slice u.ao u.on u.oc,.int .i64 v.ins,.int .i64 v.regs,.slice v.ac v.cn v.cc,.slice v.ao v.on v.oc,.int .i64 q.ins,.int .i64 q.regs,.slice q.ac q.cn q.cc,.slice q.ao q.on q.oc] 28),(7,ro.map (·.block),Row 3 os rj)])) (fun (k,Gx,u,v,q,(ro,rd,os,rj))=>Gx) (fun (k,Gx,u,v,q,(ro,rd,os,rj))=>k≤3∧G4.le Gx∧E9 Gx (if 0<k then (tU (xG n1 l)) else (xG n1 l)) u∧E9 Gx (if 1<k then (tU (xG n2 l)) else (xG n2 l)) v∧(k<3→E9 Gx (tK l (xF l.length)) q)∧A3 ro rd os rj∧(k=3→os=(tU (tK l (xF l.length))).outs∧q=⟨(tU (tK l (xF l.length))).ins,(tU (tK l (xF l.length))).regs,q.ac,(tU (tK l (xF l.length))).code.length,q.cc,ro,os.length,rd⟩∧Arr Gx q.ac (tU (tK l (xF l.length))).code)) (fun (k,Gx,u,v,q,(ro,rd,os,rj))=>3 - k) ((0,G4,⟨(xG n1 l).ins,(xG n1 l).regs,xc1,(xG n1 l).code.length,xcc1,xo1,(xG n1 l).outs.length,xoc1⟩,⟨(xG n2 l).ins,(xG n2 l).regs,yc1,(xG n2 l).code.length,ycc1,yo1,(xG n2 l).outs.length,yoc1⟩,⟨(tK l (xF l.length)).ins,(tK l (xF l.length)).regs,zc1,(tK l (xF l.length)).code.length,zcc1,zo1,(tK l (xF l.length)).outs.length,zoc1⟩,(none,0,[],[]))) (⟨aP _,cX _,⟨U,U,U,U,hxc1,hxo1⟩,⟨U,U,U,U,hyc1,hyo1⟩,fun _=>⟨U,U,U,U,hzcA,hzoA⟩,dN,fun h=>absurd h sU⟩) U ⟨U,U,U,U,U,I3⟩ ⟨U,U,U,U,I3⟩ fun ⟨k,Gx,u,v,q,(ro,rd,os,rj)⟩=>fun hk=>?_;obtain ⟨hk3,hgx,hu,hv,hq,hro,hq3⟩:=hk;replace hps2:=hps2.up hgx;have hk4:k=0∨k=1∨k=2∨k=3:=sU;rcases hk4 with rfl | rfl | rfl | rfl
 · have hu0:E9 Gx (xG n1 l) u:=hu;obtain ⟨ei,er,eac,ecn,ecc,eao,eon,eoc⟩:=u;obtain ⟨e1,e2,e3,e4,hec,heo⟩:=hu0;dsimp only at e1 e2 e3 e4 hec heo;subst e1 e2 e3 e4;refine bJ 6 [] ?_;refine rS U (show ((0:Nat):Int)<((3:Nat):Int) by decide) ?_;refine aK 6 [] ?_;refine aZ (lY (α:=PtV) T.sl86 U U hps2 (show 0≤((0:Nat):Int)∧((0:Nat):Int)<((3:Nat):Int) by decide)) ?_;refine aZ (eE T.one85 U (jO hps2 (show 0≤((0:Nat):Int)∧((0:Nat):Int)<((3:Nat):Int) by decide) 0 U U)) ?_;refine iK 30 U (show _=Value.pointer (some ⟨b2,3,none⟩) from U) ?_;refine aS 7 [] ?_;refine aZ (iG 6 T.agg26 U U U U) ?_;refine cU 8 U (lw _ (hT.up Hl) (xG n1 l) _ _ _ _ sV sV hRx) fun v5 G5 Ho5 hle5 hp=>?_;obtain ⟨lq5,la5,lb5,lc5,ld5,rfl,hlq5,hla5,hlb5,rfl⟩:=hp;replace hps2:=hps2.up hle5;replace hec:=hec.up hle5;replace heo:=heo.up hle5;refine aB 3 [] ?_;refine aV 8 U T.zero26 fun b3=>?_;refine aS 18 [8,0,8] ?_;refine oG 6 T.size26 U U U U U U ?_;refine aY 7 [] ?_;replace hle5:Gx.le G5:=hle5;subst hlq5;refine dW 27 U (show _=Value.int .i64 ((1:Nat):Int) from U) ?_;refine cO ((1,G5,⟨(tU (xG n1 l)).ins,(tU (xG n1 l)).regs,la5,(tU (xG n1 l)).code.length,lc5,lb5,(tU (xG n1 l)).outs.length,ld5⟩,v,q,(ro,rd,os,rj))) ?_ ?_
   · exact ⟨by omega,bL hgx hle5,⟨U,U,U,U,hla5,hlb5⟩,hv.up hle5,fun _=>(hq tI).up hle5,hro,fun h=>absurd h sU⟩
   show 3 - 1<3 - 0;omega
 · have hv1:E9 Gx (xG n2 l) v:=hv;obtain ⟨ei,er,eac,ecn,ecc,eao,eon,eoc⟩:=v;obtain ⟨e1,e2,e3,e4,hec,heo⟩:=hv1;dsimp only at e1 e2 e3 e4 hec heo;subst e1 e2 e3 e4;refine bJ 6 [] ?_;refine rS U (show ((1:Nat):Int)<((3:Nat):Int) by decide) ?_;refine aK 6 [] ?_;refine aZ (lY (α:=PtV) T.sl86 U U hps2 (show 0≤((1:Nat):Int)∧((1:Nat):Int)<((3:Nat):Int) by decide)) ?_;refine aZ (eE T.one85 U (jO hps2 (show 0≤((1:Nat):Int)∧((1:Nat):Int)<((3:Nat):Int) by decide) 0 U U)) ?_;refine iK 30 U (show _=Value.pointer (some ⟨b2,7,none⟩) from U) ?_;refine aS 7 [] ?_;refine aZ (iG 6 T.agg26 U U U U) ?_;refine cU 8 U (lw _ (hT.up Hl) (xG n2 l) _ _ _ _ sV sV hRy) fun v5 G5 Ho5 hle5 hp=>?_;obtain ⟨lq5,la5,lb5,lc5,ld5,rfl,hlq5,hla5,hlb5,rfl⟩:=hp;replace hps2:=hps2.up hle5;replace hec:=hec.up hle5;replace heo:=heo.up hle5;refine aB 3 [] ?_;refine aV 8 U T.zero26 fun b3=>?_;refine aS 18 [8,0,8] ?_;refine oG 6 T.size26 U U U U U U ?_;refine aY 7 [] ?_;replace hle5:Gx.le G5:=hle5;subst hlq5;refine dW 27 U (show _=Value.int .i64 ((2:Nat):Int) from U) ?_;refine cO ((2,G5,u,⟨(tU (xG n2 l)).ins,(tU (xG n2 l)).regs,la5,(tU (xG n2 l)).code.length,lc5,lb5,(tU (xG n2 l)).outs.length,ld5⟩,q,(ro,rd,os,rj))) ?_ ?_
   · exact ⟨by omega,bL hgx hle5,hu.up hle5,⟨U,U,U,U,hla5,hlb5⟩,fun _=>(hq tI).up hle5,hro,fun h=>absurd h sU⟩
   show 3 - 2<3 - 1;omega
 · have hq2:E9 Gx (tK l (xF l.length)) q:=hq tI;obtain ⟨ei,er,eac,ecn,ecc,eao,eon,eoc⟩:=q;obtain ⟨e1,e2,e3,e4,hec,heo⟩:=hq2;dsimp only at e1 e2 e3 e4 hec heo;subst e1 e2 e3 e4;refine bJ 6 [] ?_;refine rS U (show ((2:Nat):Int)<((3:Nat):Int) by decide) ?_;refine aK 6 [] ?_;refine aZ (lY (α:=PtV) T.sl86 U U hps2 (show 0≤((2:Nat):Int)∧((2:Nat):Int)<((3:Nat):Int) by decide)) ?_;refine aZ (eE T.one85 U (jO hps2 (show 0≤((2:Nat):Int)∧((2:Nat):Int)<((3:Nat):Int) by decide) 0 U U)) ?_;refine iK 30 U (show _=Value.pointer (some ⟨b2,11,none⟩) from U) ?_;refine aS 7 [] ?_;refine aZ (iG 6 T.agg26 U U U U) ?_;refine cU 8 U (vq _ (hT.up Hl) (tK l (xF l.length)) _ _ _ _ sV sV hRz) fun v5 G5 Ho5 hle5 hp=>?_;obtain ⟨lq5,la5,lb5,lc5,ld5,lj5,rfl,hlq5,hla5,hlb5,rfl⟩:=hp;replace hps2:=hps2.up hle5;replace hec:=hec.up hle5;replace heo:=heo.up hle5;refine aB 3 [] ?_;refine aV 15 U T.zero26 fun b3=>?_;refine aS 18 [15,0,15] ?_;refine oG 6 T.size26 U U U U U U ?_;refine aY 7 [] ?_;replace hle5:Gx.le G5:=hle5;subst hlq5;refine dW 27 U (show _=Value.int .i64 ((3:Nat):Int) from U) ?_;refine Ar.retag 14 7 U U ?_;refine cO ((3,G5,u,v,⟨(tU (tK l (xF l.length))).ins,(tU (tK l (xF l.length))).regs,la5,(tU (tK l (xF l.length))).code.length,lc5,lb5,(tU (tK l (xF l.length))).outs.length,ld5⟩,(lb5,ld5,(tU (tK l (xF l.length))).outs,lj5))) ?_ ?_
   · exact ⟨by omega,bL hgx hle5,hu.up hle5,hv.up hle5,fun h=>absurd h sU,hlb5,fun _=>⟨U,U,hla5⟩⟩
   show 3 - 3<3 - 2;omega
 have hu3:E9 Gx (tU (xG n1 l)) u:=hu;have hv3:E9 Gx (tU (xG n2 l)) v:=hv;obtain ⟨ui,ur,uac,ucn,ucc,uao,uon,uoc⟩:=u;obtain ⟨e1,e2,e3,e4,huc,huo⟩:=hu3;dsimp only at e1 e2 e3 e4 huc huo;subst e1 e2 e3 e4;obtain ⟨vi,vr,vac,vcn,vcc,vao,von,voc⟩:=v;obtain ⟨e1,e2,e3,e4,hvc,hvo⟩:=hv3;dsimp only at e1 e2 e3 e4 hvc hvo;subst e1 e2 e3 e4;obtain ⟨ho3,hq4,hac⟩:=hq3 U;obtain ⟨qi,qr,qac,qcn,qcc,qao,qon,qoc⟩:=q;rw [PH.mk.injEq] at hq4;obtain ⟨rfl,rfl,-,rfl,-,rfl,rfl,rfl⟩:=hq4;subst ho3;refine bE 20 [0,6,0] ?_;refine gD (.inr U) (Ho:=[(2,pa1.map (·.block),Row 52 l pj1),(7,qao.map (·.block),Row 3 (tU (tK l (xF l.length))).outs rj)]) U (.agg 0 U U T.agg28) (.tmp U) ⟨U,U,I3⟩ ?_;exact ⟨pa1,uac,uao,vac,vao,qac,qao,pd1,ucc,uoc,vcc,voc,qcc,qoc,pj1,rj,U,hpo1,huc,huo,hvc,hvo,hac,hro,U⟩
end
def nd (i:I5):Prop:=¬(i.op=6∨i.op=8)
theorem UY {l:List I5} (h:∀ i∈l,nd i) (k:Nat):nd (l[k]?.getD default):=by
 rcases aN k l.length with hk | hk
 · rw [aA hk];exact h _ (bY hk)
 rw [bV hk];show ¬((0:Int)=6∨(0:Int)=8);decide
theorem FJ {i:I5} (h:nd i):nd (uE i):=by
 unfold nd at h;unfold uE
 repeat' split
 all_goals unfold nd
 all_goals simp only [not_or] at h ⊢
 all_goals first | exact h | (constructor <;> decide) | omega
theorem ep {f c s d:Int} (h1:¬(f=6∨f=8)) (h2:¬(s=6∨s=8)):¬((vM f c s d).1=6∨(vM f c s d).1=8):=by
 unfold vM
 repeat' split
 all_goals (try simp only)
 all_goals omega
theorem ZH {a b:I5} (ha:nd a) (hb:nd b) (h:(uP a b).2=true):nd (uP a b).1:=by
 unfold uP at h ⊢;split at h
 · cases h
 rename_i h0;rw [aC h0];split at h
 · rename_i h1;rw [aE h1];exact FJ (ep ha hb)
 cases h
theorem ZI {p:PV} (h:zX p):zX (Av p):=fun i hi =>
 Sv (q:=nd) (fun a b ha hb h=>ZH ha hb h) (fun i h=>FJ h) p.code h i (sO.1 hi)
theorem ZJ {p:PV} (h:zX p):zX (yJ p):=by
 have aux:∀ k,∀ i∈(uC p k).2,nd i:=by
  intro k;induction k with
  | zero=>intro i hi;cases hi
  | succ k ih =>
    intro i hi;have hk:=UY h (k:Int).toNat;unfold uC tP at hi;simp only at hi;split at hi
    · exact ih i hi
    rcases dR.1 hi with hi | hi
    · exact ih i hi
    rw [eD.1 hi];split
    · show ¬((1:Int)=6∨(1:Int)=8);decide
    unfold askedP
    repeat' split
    all_goals exact hk
 exact aux _
theorem ZK {p:PV} (h:zX p):zX (Bi p):=by
 have aux:∀ k,∀ i∈wE p k,nd i:=by
  intro k;induction k with
  | zero=>intro i hi;cases hi
  | succ k ih =>
    intro i hi;unfold wE at hi;split at hi
    · rcases dR.1 hi with hi | hi
      · exact ih i hi
      rw [eD.1 hi];exact UY h _
    exact ih i hi
 exact aux _
theorem UZ {p:PV} (h:zX p):zX (tV p):=by
 have aux:∀ k,∀ i∈(tY p k).code,nd i:=by
  intro k;induction k with
  | zero=>intro i hi;cases hi
  | succ k ih =>
    intro i hi;unfold tY at hi;split at hi
    · unfold Ja at hi;simp only at hi;rcases dR.1 hi with hi | hi
      · exact ih i hi
      rw [eD.1 hi];exact UY h (k:Int).toNat
    exact ih i hi
 exact aux _
theorem AR {p:PV} (h:zX p):∀ k,zX (wP p k)
 | 0=>h
 | k+1=>by
   show zX (vN k (wP p k));unfold vN;split
   · exact ZI (AR h k)
   split
   · exact ZJ (AR h k)
   exact ZK (AR h k)
theorem ZL {p:PV} (h:zX p):zX (tU p):=UZ (AR h _)
theorem Ba {p:PV} (hR:sW p=true):sW (tU p)=true∧(tU p).ins=p.ins∧(tU p).outs.length=p.outs.length∧(tU p).code.length≤p.code.length∧
 ∀ (gs os:List (List Int)) (N:Nat),(gs.length:Int)=p.ins→Flat N gs→tJ p gs=some os→tJ (tU p) gs=some os:=by
 have h:=ID hR (zG p);unfold tU;generalize tV (wP p (Ef p))=q at h ⊢;exact h
theorem IF (k:Nat):Flat k (vT k):=fun r hr=>by
 unfold vT at hr;obtain ⟨i,hi,rfl⟩:=cT.1 hr;exact Br k i
theorem OQ (l:List R2):Flat l.length (xJ l):=fun r hr=>by
 unfold xJ at hr;obtain ⟨q,hq,rfl⟩:=cT.1 hr;exact Kg _ _ _
theorem Xx {p:PV} {k:Nat} {l:List R2} (hR:sW p=true) (h:yK p k l):yK (tU p) k l:=by
 obtain ⟨h1,h2,h3,h4⟩:=h;obtain ⟨g1,g2,g3,g4,g5⟩:=Ba hR;rw [aG] at h4;refine ⟨by rw [g2,h1],by rw [g3,h2],ZL h3,?_⟩;rw [aG];exact g5 _ _ k (by rw [yV,h1]) (IF k) h4
theorem FK {p:PV} {l:List R2} (h:Aj p l):Aj (tU p) l:=by
 obtain ⟨h0,h1,h2,h3⟩:=h;obtain ⟨g1,g2,g3,g4,g5⟩:=Ba h0;exact ⟨g1,by rw [g2,h1],by rw [g3,h2],g5 _ _ l.length (by rw [Eu,h1]) (OQ l) h3⟩
theorem VA {n1 n2:Nat} {l:List R2} (hW:tT (n1:Int) (n2:Int) l=0):xQ n1 n2 l (xG n1 l) (xG n2 l) (tK l (xF l.length))=(0,0):=by
 obtain ⟨hP1,hP2,hL,hRL⟩:=vZ hW;have hn1:1≤n1∧n1≤8:=by have:=hP1.1;have:=hP1.2;omega
 have hn2:1≤n2∧n2≤8:=by have:=hP2.1;have:=hP2.2;omega
 exact Zv hW (xB hRL hn1) (Gw (Gz hRL hn1)) (xB hRL hn2) (Gw (Gz hRL hn2)) (Cl hRL) (Ok hRL (Ha l.length))
theorem Vi {n1 n2:Nat} {l:List R2} (hW:tT (n1:Int) (n2:Int) l=0):xQ n1 n2 l (tU (xG n1 l)) (tU (xG n2 l)) (tU (tK l (xF l.length)))=(0,0):=by
 obtain ⟨hP1,hP2,hL,hRL⟩:=vZ hW;have hn1:1≤n1∧n1≤8:=by have:=hP1.1;have:=hP1.2;omega
 have hn2:1≤n2∧n2≤8:=by have:=hP2.1;have:=hP2.2;omega
 exact Zv hW (Ba (xB hRL hn1)).1 (Xx (xB hRL hn1) (Gw (Gz hRL hn1))) (Ba (xB hRL hn2)).1 (Xx (xB hRL hn2) (Gw (Gz hRL hn2))) (Ba (Cl hRL)).1 (FK (Ok hRL (Ha l.length)))
structure U8 where
 v:Int
 deriving DecidableEq
instance:Inhabited U8:=⟨⟨0⟩⟩
instance:A0 U8:=⟨1,fun n=>[.int .u8 n.v],fun _=>rfl,fun _=>rfl⟩
structure RS where
 k:Nat
 wr:Bool
def nx (B:List U8) (s:RS) (g:Int→Bool):Int×RS:=
 if s.wr=true∨s.k=B.length∨g (B[s.k]?.getD default).v=false then (0,⟨s.k,true⟩) else ((B[s.k]?.getD default).v,⟨s.k+1,false⟩)
def vv (op c:Int):Bool:=
 if op=5∨op=6 then decide ((c≠0∧-512≤c)∧c≤512) else if op=7∨op=8 then decide (1≤c∧c≤64) else decide (c=0)
def i16 (h l:Int):Int:=if 32768≤h*256+l then h*256+l - 65536 else h*256+l
def hiC (op h:Int):Bool:=(List.range 256).any fun l=>vv op (i16 h (l:Int))
end Go.Proofs.YtfdcckcadfhpeaaGreatDoor
namespace Go.Sl.Ev
open Go Go.Sl
def s4 {β:Sort _} (a b c d:β) (n:Nat):β:=Nat.rec (motive:=fun _=>β) a (fun n _=>Nat.rec (motive:=fun _=>β) b (fun n _=>Nat.rec (motive:=fun _=>β) c (fun _ _=>d) n) n) n
theorem vw {β:Sort _} (a b c d:β):s4 a b c d 0=a:=rfl
theorem wb {β:Sort _} (a b c d:β):s4 a b c d 1=b:=rfl
theorem we {β:Sort _} (a b c d:β):s4 a b c d 2=c:=rfl
theorem wf {β:Sort _} (a b c d:β):s4 a b c d 3=d:=rfl
inductive Tr (α:Type) where
 | e
 | n (x:J0 α) (a b c d:Tr α)
def Tr.get {α:Type} (t:Tr α):Nat→J0 α:=
 Tr.rec (motive:=fun _=>Nat→J0 α) (fun _=>none) (fun x _ _ _ _ ga gb gc gd k=>Nat.rec (motive:=fun _=>J0 α) x (fun m _=>s4 ga gb gc gd (Nat.mod m 4) (Nat.div m 4)) k) t
def Tr.put {α:Type} (v:J0 α) (ih:Tr α→Nat→Tr α) (k:Nat) (x:J0 α) (a b c d:Tr α):Tr α:=
 Nat.rec (motive:=fun _=>Tr α) (.n v a b c d) (fun m _=>s4 (.n x (ih a (Nat.div m 4)) b c d) (.n x a (ih b (Nat.div m 4)) c d) (.n x a b (ih c (Nat.div m 4)) d) (.n x a b c (ih d (Nat.div m 4))) (Nat.mod m 4)) k
def Tr.set {α:Type} (v:J0 α) (f:Nat):Tr α→Nat→Tr α:=
 Nat.rec (motive:=fun _=>Tr α→Nat→Tr α) (fun t _=>t) (fun _ ih t k=>Tr.rec (motive:=fun _=>Tr α) (Tr.put v ih k none .e .e .e .e) (fun x a b c d _ _ _ _=>Tr.put v ih k x a b c d) t) f
theorem FL {α:Type} (a b c d:Tr α) (x:J0 α) (m:Nat):Tr.get (.n x a b c d) (m+1)=s4 a.get b.get c.get d.get (Nat.mod m 4) (Nat.div m 4):=rfl
theorem VB {α:Type} (v:J0 α) (f k:Nat):Tr.set v (f+1) (.e:Tr α) k=Tr.set v (f+1) (.n none .e .e .e .e) k:=rfl
theorem VC {α:Type} (v:J0 α) (f:Nat) (a b c d:Tr α) (x:J0 α):Tr.set v (f+1) (.n x a b c d) 0=.n v a b c d:=rfl
theorem VD {α:Type} (v:J0 α) (f m:Nat) (a b c d:Tr α) (x:J0 α):Tr.set v (f+1) (.n x a b c d) (m+1) =
 s4 (.n x (Tr.set v f a (Nat.div m 4)) b c d) (.n x a (Tr.set v f b (Nat.div m 4)) c d) (.n x a b (Tr.set v f c (Nat.div m 4)) d) (.n x a b c (Tr.set v f d (Nat.div m 4))) (Nat.mod m 4):=rfl
theorem ZM (m:Nat):Nat.mod m 4=0∨Nat.mod m 4=1∨Nat.mod m 4=2∨Nat.mod m 4=3:=by
 have h:∀ k,k<4→k=0∨k=1∨k=2∨k=3:=sU;exact h _ (pT m tI)
theorem ma {i m r:Nat} (h1:Nat.mod i 4=r) (h2:Nat.mod m 4=r):(Nat.div i 4=Nat.div m 4)=(i+1=m+1):=by
 have e1:i % 4=r:=h1;have e2:m % 4=r:=h2;apply propext;show (i / 4=m / 4)↔_;constructor <;> intro h <;> omega
theorem mb {i m r s:Nat} (h1:Nat.mod i 4=r) (h2:Nat.mod m 4=s) (h:r≠s):¬(i+1=m+1):=fun e=>by
 have:i=m:=sU;subst this;exact h (h1.symm.trans h2)
theorem Tr.get_set {α:Type} (v:J0 α):∀ (f:Nat) (t:Tr α) (k j:Nat),k<f→(Tr.set v f t k).get j=if j=k then v else t.get j:=by
 intro f;induction f with
 | zero=>intro t k j h;omega
 | succ f ih =>
   have key:∀ (a b c d:Tr α) (x:J0 α) (k j:Nat),k<f+1→(Tr.set v (f+1) (.n x a b c d) k).get j=if j=k then v else (Tr.n x a b c d).get j:=by
    intro a b c d x k j h;cases k with
    | zero =>
      rw [VC];cases j with
      | zero=>rfl
      | succ i=>rw [aC (by omega)];rfl
    | succ m =>
      rw [VD];have hm:Nat.div m 4<f:=by show m / 4<f;omega
      cases j with
      | zero =>
        rw [aC (by omega)];rcases ZM m with h1 | h1 | h1 | h1 <;> rw [h1] <;> rfl
      | succ i =>
        rcases ZM m with h1 | h1 | h1 | h1 <;> rcases ZM i with h2 | h2 | h2 | h2 <;> simp only [h1,vw,wb,we,wf,FL,h2] <;>
         first
         | (rw [aC (mb h2 h1 tI)])
         | (simp only [ih _ _ _ hm,ma h2 h1])
   intro t k j h;cases t with
   | e =>
     rw [VB,key _ _ _ _ _ _ _ h];congr 1;cases j with
     | zero=>rfl
     | succ i=>rw [FL];rcases ZM i with h2 | h2 | h2 | h2 <;> rw [h2] <;> rfl
   | n x a b c d=>exact key a b c d x k j h
abbrev fP:=@Tr.get_set
inductive CV where
 | int (k:IntKind) (n:Int)
 | bool (b:Bool)
 | str (s:CV)
 | ptr (t o:Nat)
 | nilp
 | sl (t o n sz:Nat) (c:J0 Nat)
 | nils
 | sle
 | mp (t:Nat)
 | nilm
 | fn (f:Nat) (fst cap:CV)
 | nilf
 | yl (t:Nat)
 | agg (l:CV)
 | tup (l:CV)
 | nil
 | cons (a b:CV)
abbrev Pl:=Nat→Nat×Nat
def D (ρ:Pl) (x:CV):(Value→Prop)×(List Value→Prop):=
 CV.rec (motive:=fun _=>(Value→Prop)×(List Value→Prop))
  (fun k n=>(fun v=>v=.int k n,fun _=>False))
  (fun b=>(fun v=>v=.bool b,fun _=>False))
  (fun _ ih=>(fun v=>∃ (vs:List Value) (bs:List UInt8),ih.2 vs∧vs=bs.map (fun b=>Value.int .u8 b.toNat)∧v=.string ⟨bs.toArray⟩,fun _=>False))
  (fun t o=>(fun v=>v=.pointer (some ⟨(ρ t).1,o,none⟩),fun _=>False))
  (fun v=>v=.pointer none,fun _=>False)
  (fun t o n sz c=>(fun v=>match c with
   | some c=>v=.slice (some ⟨(ρ t).1,o,none⟩) n c∧o+c*sz≤(ρ t).2∧n≤c∧c≤maxLen
   | none=>∃ c,v=.slice (some ⟨(ρ t).1,o,none⟩) n c∧o+c*sz=(ρ t).2∧n≤c∧c≤maxLen,fun _=>False))
  (fun v=>v=.slice none 0 0,fun _=>False)
  (fun v=>∃ a c,v=.slice a 0 c,fun _=>False)
  (fun t=>(fun v=>v=.map (some (ρ t).1),fun _=>False))
  (fun v=>v=.map none,fun _=>False)
  (fun f _ _ i1 i2=>(fun v=>∃ xs ys,i1.2 xs∧i2.2 ys∧v=.func (.func f) xs.toArray ys.toArray,fun _=>False))
  (fun v=>v=.nilFunc,fun _=>False)
  (fun t=>(fun v=>v=.func (.yield (ρ t).1) #[] #[],fun _=>False))
  (fun _ ih=>(fun v=>∃ vs,ih.2 vs∧v=.agg vs.toArray,fun _=>False))
  (fun _ ih=>(fun v=>∃ vs,ih.2 vs∧v=.tuple vs.toArray,fun _=>False))
  (fun _=>False,fun l=>l=[])
  (fun _ _ i1 i2=>(fun _=>False,fun l=>∃ v vs,l=v :: vs∧i1.1 v∧i2.2 vs)) x
def DV (ρ:Pl) (x:CV) (v:Value):Prop:=(D ρ x).1 v
def DL (ρ:Pl) (x:CV) (l:List Value):Prop:=(D ρ x).2 l
section
variable {ρ:Pl} {v:Value} {l:List Value}
theorem DV.int {k:IntKind} {n:Int}:DV ρ (.int k n) v↔v=.int k n:=mY
abbrev iU:=@DV.int
theorem DV.bool {b:Bool}:DV ρ (.bool b) v↔v=.bool b:=mY
abbrev qZ:=@DV.bool
theorem DV.ptr {t o:Nat}:DV ρ (.ptr t o) v↔v=.pointer (some ⟨(ρ t).1,o,none⟩):=mY
abbrev rO:=@DV.ptr
theorem DV.nilp:DV ρ .nilp v↔v=.pointer none:=mY
theorem DV.nils:DV ρ .nils v↔v=.slice none 0 0:=mY
abbrev oF:=@DV.nils
theorem DV.mp {t:Nat}:DV ρ (.mp t) v↔v=.map (some (ρ t).1):=mY
theorem es {t o n sz c:Nat}:DV ρ (.sl t o n sz (some c)) v↔v=.slice (some ⟨(ρ t).1,o,none⟩) n c∧o+c*sz≤(ρ t).2∧n≤c∧c≤maxLen:=mY
abbrev kS:=@es
theorem eu {t o n sz:Nat}:DV ρ (.sl t o n sz none) v↔∃ c,v=.slice (some ⟨(ρ t).1,o,none⟩) n c∧o+c*sz=(ρ t).2∧n≤c∧c≤maxLen:=mY
abbrev nE:=@eu
theorem DV.fn {f:Nat} {x y:CV}:DV ρ (.fn f x y) v↔∃ xs ys,DL ρ x xs∧DL ρ y ys∧v=.func (.func f) xs.toArray ys.toArray:=mY
theorem DV.agg {x:CV}:DV ρ (.agg x) v↔∃ vs,DL ρ x vs∧v=.agg vs.toArray:=mY
abbrev sR:=@DV.agg
theorem DV.tup {x:CV}:DV ρ (.tup x) v↔∃ vs,DL ρ x vs∧v=.tuple vs.toArray:=mY
abbrev rN:=@DV.tup
theorem DL.nil:DL ρ .nil l↔l=[]:=mY
theorem DL.cons {a b:CV}:DL ρ (.cons a b) l↔∃ v vs,l=v :: vs∧DV ρ a v∧DL ρ b vs:=mY
abbrev nJ:=@DL.cons
end
def Bd (nx:Nat) (x:CV):Prop:=
 CV.rec (motive:=fun _=>Prop) (fun _ _=>True) (fun _=>True) (fun _ ih=>ih) (fun t _=>t<nx) True (fun t _ _ _ _=>t<nx) True True (fun t=>t<nx) True (fun _ _ _ i1 i2=>i1∧i2) True (fun t=>t<nx)
  (fun _ ih=>ih) (fun _ ih=>ih) True (fun _ _ i1 i2=>i1∧i2) x
def F8 (nx:Nat) (ρ ρ':Pl):Prop:=∀ t,t<nx→ρ' t=ρ t
theorem F8.refl (nx:Nat) (ρ:Pl):F8 nx ρ ρ:=fun _ _=>rfl
abbrev gA:=@F8.refl
theorem F8.trans {nx nx':Nat} {a b c:Pl} (h:F8 nx a b) (k:F8 nx' b c) (hn:nx≤nx'):F8 nx a c:=fun t ht=>(k t (bZ ht hn)).trans (h t ht)
theorem bg {nx:Nat} {ρ ρ':Pl} (h:F8 nx ρ ρ') (x:CV) (hb:Bd nx x):D ρ' x=D ρ x:=by
 induction x with
 | int k n=>rfl
 | bool b=>rfl
 | str s ih=>have:=ih hb;show (_,_)=(_,_);simp only [D] at this ⊢;rw [this]
 | ptr t o=>have e:=h t hb;show (_,_)=(_,_);simp only [e]
 | nilp=>rfl
 | sl t o n sz c=>have e:=h t hb;show (_,_)=(_,_);simp only [e]
 | nils=>rfl
 | sle=>rfl
 | mp t=>have e:=h t hb;show (_,_)=(_,_);simp only [e]
 | nilm=>rfl
 | fn f x y i1 i2=>have e1:=i1 hb.1;have e2:=i2 hb.2;show (_,_)=(_,_);simp only [D] at e1 e2 ⊢;rw [e1,e2]
 | nilf=>rfl
 | yl t=>have e:=h t hb;show (_,_)=(_,_);simp only [e]
 | agg l ih=>have:=ih hb;show (_,_)=(_,_);simp only [D] at this ⊢;rw [this]
 | tup l ih=>have:=ih hb;show (_,_)=(_,_);simp only [D] at this ⊢;rw [this]
 | nil=>rfl
 | cons a b i1 i2=>have e1:=i1 hb.1;have e2:=i2 hb.2;show (_,_)=(_,_);simp only [D] at e1 e2 ⊢;rw [e1,e2]
theorem Bd.mono {nx nx':Nat} (h:nx≤nx') (x:CV) (hb:Bd nx x):Bd nx' x:=by
 induction x with
 | str s ih=>exact ih hb
 | ptr t o=>exact bZ (show t<nx from hb) h
 | sl t o n sz c=>exact bZ (show t<nx from hb) h
 | mp t=>exact bZ (show t<nx from hb) h
 | fn f x y i1 i2=>exact ⟨i1 hb.1,i2 hb.2⟩
 | yl t=>exact bZ (show t<nx from hb) h
 | agg l ih=>exact ih hb
 | tup l ih=>exact ih hb
 | cons a b i1 i2=>exact ⟨i1 hb.1,i2 hb.2⟩
 | _=>trivial
def Kn (nx:Nat) (ρ:Pl) (x:CV) (v:Value):Prop:=Bd nx x∧DV ρ x v
def KL (nx:Nat) (ρ:Pl) (x:CV) (l:List Value):Prop:=Bd nx x∧DL ρ x l
theorem Kn.up {nx nx':Nat} {ρ ρ':Pl} {x:CV} {v:Value} (h:Kn nx ρ x v) (hn:nx≤nx') (he:F8 nx ρ ρ'):Kn nx' ρ' x v:=
 ⟨h.1.mono hn,by unfold DV;rw [bg he x h.1];exact h.2⟩
theorem KL.up {nx nx':Nat} {ρ ρ':Pl} {x:CV} {v:List Value} (h:KL nx ρ x v) (hn:nx≤nx') (he:F8 nx ρ ρ'):KL nx' ρ' x v:=
 ⟨h.1.mono hn,by unfold DL;rw [bg he x h.1];exact h.2⟩
theorem KL.nil {nx:Nat} {ρ:Pl}:KL nx ρ .nil []:=⟨I3,U⟩
abbrev nC:=@KL.nil
theorem KL.cons {nx:Nat} {ρ:Pl} {a b:CV} {v:Value} {vs:List Value} (h1:Kn nx ρ a v) (h2:KL nx ρ b vs):KL nx ρ (.cons a b) (v :: vs):=⟨⟨h1.1,h2.1⟩,⟨v,vs,U,h1.2,h2.2⟩⟩
abbrev oX:=@KL.cons
structure Rw where
 n:Nat
 t:Tr CV
def RT (nx:Nat) (ρ:Pl) (t:Tr CV) (vs:List Value):Prop:=∀ i x,t.get i=some x→∃ v,vs[i]?=some v∧Kn nx ρ x v
def RL (nx:Nat) (ρ:Pl) (r:Rw) (vs:List Value):Prop:=r.n=vs.length∧RT nx ρ r.t vs
theorem RL.up {nx nx':Nat} {ρ ρ':Pl} {r:Rw} {vs:List Value} (h:RL nx ρ r vs) (hn:nx≤nx') (he:F8 nx ρ ρ'):RL nx' ρ' r vs:=
 ⟨h.1,fun i x hx=>by obtain ⟨v,h1,h2⟩:=h.2 i x hx;exact ⟨v,h1,h2.up hn he⟩⟩
inductive CB where
 | cells (l:Rw) (ty:Nat) (op:Bool) (st:Nat)
 | ro (l:Rw) (ty:Nat) (st:Nat)
 | mapI (l:List (Int×Int)) (st:Nat)
 | mapK (l:List (K4×Int)) (st:Nat)
 | lp (E:Tr CV) (n:Nat) (ps:List Nat) (asg body:Code) (q:LoopState) (p:J0 Code) (st:Nat)
def AS:CB→Nat
 | .cells _ _ _ s=>s
 | .ro _ _ s=>s
 | .mapI _ s=>s
 | .mapK _ s=>s
 | .lp _ _ _ _ _ _ _ s=>s
def DB (nx:Nat) (ρ:Pl) (size:Nat):CB→Obj→Prop
 | .cells l ty op _,o=>∃ vs junk,RL nx ρ l vs∧o=.cells (vs++junk).toArray ty (0,0)∧vs.length+junk.length=size∧(op=false→junk=[])
 | .ro l ty _,o=>∃ vs fz,RL nx ρ l vs∧o=.cells vs.toArray ty fz
 | .mapI l _,o=>o=A4 l
 | .mapK l _,o=>o=A4 l
 | .lp E n ps asg body st p _,o=>∃ q:Loop,o=.loop q∧q.state=st∧q.pending=p∧q.params=ps.toArray∧q.assign=asg∧q.body=body∧q.tmps.size=n∧∀ i x,E.get i=some x→∃ v,q.tmps[i]?=some v∧Kn nx ρ x v
theorem DB.up {nx nx':Nat} {ρ ρ':Pl} {s:Nat} {b:CB} {o:Obj} (h:DB nx ρ s b o) (hn:nx≤nx') (he:F8 nx ρ ρ'):DB nx' ρ' s b o:=by
 cases b with
 | cells l ty op st=>obtain ⟨vs,junk,h1,h2⟩:=h;exact ⟨vs,junk,h1.up hn he,h2⟩
 | ro l ty st=>obtain ⟨vs,fz,h1,h2⟩:=h;exact ⟨vs,fz,h1.up hn he,h2⟩
 | mapI l st=>exact h
 | mapK l st=>exact h
 | lp E n ps asg body q p st =>
   obtain ⟨q,h1,h2,h3,h4,h5,h6,h7,h8⟩:=h;exact ⟨q,h1,h2,h3,h4,h5,h6,h7,fun i x hx=>by obtain ⟨v,g1,g2⟩:=h8 i x hx;exact ⟨v,g1,g2.up hn he⟩⟩
structure E7 (Φ:A2→Prop) where
 w:I8
 ks:List Nat
 G:A2
 ok:Φ G
 s:Nat
structure Mem {Φ:A2→Prop} (ρ:Pl) (w0:E7 Φ) (h:Tr CB) (nx:Nat) (w:World):Prop where
 upd:D9 (fun _=>False) w0.w w
 own:∀ t b,h.get t=some b→t<nx∧AS b<nx∧w0.w.heap.size≤(ρ t).1∧∃ o,w.heap[(ρ t).1]?=some o∧DB nx ρ (ρ t).2 b o
 one:∀ t t' b b',h.get t=some b→h.get t'=some b'→(ρ t).1=(ρ t').1→t=t'
 imm:∀ b o,w0.G b=some o→w0.w.heap[b]?=some o
 nod:w0.ks.Nodup
 kept:∀ b,b∈w0.ks→w0.w.heap.size≤b∧w.heap[b]?=some (.deferred (some []))∧∀ t c,h.get t=some c→(ρ t).1≠b
def B4 (ρ:Pl) (E:Tr CV) (nx:Nat) (n:Nat) (a:Act):Prop:=a.tmps.size=n∧∀ i x,E.get i=some x→∃ v,a.tmps[i]?=some v∧Kn nx ρ x v
def E7.plus {Φ:A2→Prop} (w0:E7 Φ) (os:List Nat):E7 Φ:=⟨w0.w,os++w0.ks,w0.G,w0.ok,w0.s⟩
structure Rel0 {Φ:A2→Prop} (ρ:Pl) (w0:E7 Φ) (os:List Nat) (n:Nat) (E:Tr CV) (h:Tr CB) (nx:Nat) (a:Act) (w:World):Prop where
 slots:B4 ρ E nx n a
 defers:a.defers=os.map mark
 mem:Mem ρ (w0.plus os) h nx w
 mks:∀ b,b∈os→w0.s≤b
 ss:w0.s≤w.heap.size
def F0 {Φ:A2→Prop} (ρ:Pl) (w0:E7 Φ) (n:Nat) (E:Tr CV) (h:Tr CB) (nx:Nat) (a:Act) (w:I8):Prop:=∃ os,Rel0 ρ w0 os n E h nx a w
def lrec {β:Sort _} (n:β) (c:CV→CV→β→β) (x:CV):β:=
 CV.rec (motive:=fun _=>β) (fun _ _=>n) (fun _=>n) (fun _ _=>n) (fun _ _=>n) n (fun _ _ _ _ _=>n) n n (fun _=>n) n (fun _ _ _ _ _=>n) n (fun _=>n) (fun _ _=>n) (fun _ _=>n) n (fun a b _ ih=>c a b ih) x
section
variable {β:Type} {n:β} {c:CV→CV→β→β}
end
def Tm (l:CV):Nat→J0 CV:=lrec (fun _=>none) (fun a _ ih k=>bif Nat.beq k 0 then some a else ih (Nat.pred k)) l
def uK (l:CV):Nat:=lrec 0 (fun _ _ ih=>Nat.succ ih) l
def Eg (l m:CV):CV:=lrec m (fun a _ ih=>.cons a ih) l
def Ih (k:Nat):CV→CV:=Nat.rec (fun l=>l) (fun _ ih l=>lrec .nil (fun _ b _=>ih b) l) k
def Ii (k:Nat):CV→CV:=Nat.rec (fun _=>.nil) (fun _ ih l=>lrec .nil (fun a b _=>.cons a (ih b)) l) k
def AT (x:CV):Bool:=
 CV.rec (motive:=fun _=>Bool) (fun _ _=>true) (fun _=>true) (fun _ _=>true) (fun _ _=>true) true (fun _ _ _ _ _=>true) true true (fun _=>true) true (fun _ _ _ _ _=>true) true (fun _=>true) (fun _ _=>false) (fun _ _=>false) false (fun _ _ _ _=>false) x
def Le (l:CV):Bool:=lrec true (fun a _ ih=>AT a && ih) l
def IG (l:CV) (k:Nat):CV:=Nat.rec .nil (fun _ ih=>Eg l ih) k
section
variable {nx:Nat} {ρ:Pl}
theorem KL.inv_nil {l:List Value} (h:KL nx ρ .nil l):l=[]:=h.2
theorem KL.inv_cons {a b:CV} {l:List Value} (h:KL nx ρ (.cons a b) l):∃ v vs,l=v :: vs∧Kn nx ρ a v∧KL nx ρ b vs:=by
 obtain ⟨h1,v,vs,h2,h3,h4⟩:=h;exact ⟨v,vs,h2,⟨h1.1,h3⟩,⟨h1.2,h4⟩⟩
theorem OR {motive:CV→List Value→Prop} (h0:motive .nil []) (h1:∀ a b v vs,Kn nx ρ a v→KL nx ρ b vs→motive b vs→motive (.cons a b) (v :: vs)):∀ {x:CV} {l:List Value},KL nx ρ x l→motive x l:=by
 intro x;induction x with
 | nil=>intro l h;rw [h.inv_nil];exact h0
 | cons a b _ ih =>
   intro l h;obtain ⟨v,vs,rfl,h2,h3⟩:=h.inv_cons;exact h1 a b v vs h2 h3 (ih h3)
 | _=>intro l h;exact absurd h.2 id
abbrev nD:=@OR
theorem Lf {x:CV} {l:List Value} (h:KL nx ρ x l):∀ {k:Nat} {c:CV},Tm x k=some c→∃ v,l[k]?=some v∧Kn nx ρ c v:=by
 refine nD (motive:=fun x l=>∀ {k:Nat} {c:CV},Tm x k=some c→∃ v,l[k]?=some v∧Kn nx ρ c v) ?_ ?_ h
 · intro k c hc;cases hc
 intro a b v vs hv hvs ih k c hc;have hc':(bif Nat.beq k 0 then some a else Tm b (Nat.pred k))=some c:=hc;cases hb:Nat.beq k 0 with
 | true =>
   rw [hb] at hc';have:=aJ hb;subst this;cases hc';exact ⟨v,U,hv⟩
 | false =>
   rw [hb] at hc';obtain ⟨u,h1,h2⟩:=ih hc';refine ⟨u,?_,h2⟩;cases k with
   | zero=>cases hb
   | succ k=>exact h1
theorem uU {x:CV} {l:List Value} (h:KL nx ρ x l):uK x=l.length:=by
 refine nD (motive:=fun x l=>uK x=l.length) U ?_ h;intro a b v vs _ _ ih;show Nat.succ (uK b)=_;rw [ih];rfl
theorem Hg {x y:CV} {l m:List Value} (h:KL nx ρ x l) (k:KL nx ρ y m):KL nx ρ (Eg x y) (l++m):=by
 refine nD (motive:=fun x l=>KL nx ρ (Eg x y) (l++m)) k ?_ h;intro a b v vs h1 _ ih;exact oX h1 ih
theorem Tn:∀ (k:Nat) {x:CV} {l:List Value},KL nx ρ x l→KL nx ρ (Ih k x) (l.drop k):=by
 intro k;induction k with
 | zero=>intro x l h;exact h
 | succ k ih =>
   intro x l h;refine nD (motive:=fun x l=>KL nx ρ (Ih (k+1) x) (l.drop (k+1))) nC ?_ h;intro a b v vs _ h2 _;exact ih h2
theorem To:∀ (k:Nat) {x:CV} {l:List Value},KL nx ρ x l→KL nx ρ (Ii k x) (l.take k):=by
 intro k;induction k with
 | zero=>intro x l h;exact nC
 | succ k ih =>
   intro x l h;refine nD (motive:=fun x l=>KL nx ρ (Ii (k+1) x) (l.take (k+1))) nC ?_ h;intro a b v vs h1 h2 _;exact oX h1 (ih h2)
theorem Pz {x:CV} {l:List Value} (h:KL nx ρ x l):∀ k:Nat,KL nx ρ (IG x k) (List.replicate k l).flatten:=by
 intro k;induction k with
 | zero=>exact nC
 | succ k ih =>
   rw [kB,mU];exact Hg h ih
theorem Xy {x:CV} {v:Value} (h:Kn nx ρ x v) (hs:AT x=true):v.oneCell'=true:=by
 cases x with
 | int k n=>rw [show v=_ from h.2];rfl
 | bool b=>rw [show v=_ from h.2];rfl
 | str s=>obtain ⟨_,_,_,_,h3⟩:=h.2;rw [h3];rfl
 | ptr t o=>rw [show v=_ from h.2];rfl
 | nilp=>rw [show v=_ from h.2];rfl
 | sl t o n sz c =>
   cases c with
   | some c=>rw [(kS.1 h.2).1];rfl
   | none=>obtain ⟨c,h1,_⟩:=nE.1 h.2;rw [h1];rfl
 | nils=>rw [show v=_ from h.2];rfl
 | sle=>obtain ⟨_,_,h1⟩:=h.2;rw [h1];rfl
 | mp t=>rw [show v=_ from h.2];rfl
 | nilm=>rw [show v=_ from h.2];rfl
 | fn f x y=>obtain ⟨_,_,_,_,h1⟩:=DV.fn.1 h.2;rw [h1];rfl
 | nilf=>rw [show v=_ from h.2];rfl
 | yl t=>rw [show v=_ from h.2];rfl
 | agg l=>cases hs
 | tup l=>cases hs
 | nil=>cases hs
 | cons a b=>cases hs
theorem Tp {x:CV} {l:List Value} (h:KL nx ρ x l):Le x=true→l.all (·.oneCell')=true:=by
 refine nD (motive:=fun x l=>Le x=true→l.all (·.oneCell')=true) (fun _=>rfl) ?_ h;intro a b v vs h1 _ ih hs;have hs':(AT a && Le b)=true:=hs;simp only [aF] at hs';rw [jI,aF];exact ⟨Xy h1 hs'.1,ih hs'.2⟩
end
def VE (r:Rw) (o:Nat):J0 CV:=r.t.get o
def vC (r:Rw) (o k:Nat):CV:=Nat.rec (motive:=fun _=>Nat→CV) (fun _=>.nil) (fun _ ih o=>match r.t.get o with | some a=>.cons a (ih (Nat.succ o)) | none=>.nil) k o
def OS (m:CV) (t:Tr CV) (p:Nat):Tr CV:=lrec (β:=Tr CV→Nat→Tr CV) (fun t _=>t) (fun a _ ih t p=>ih (t.set (some a) (Nat.succ p) p) (Nat.succ p)) m t p
def Vj (p:Nat) (m:CV) (r:Rw):Rw:=⟨r.n,OS m r.t p⟩
def fb (r:Rw) (m:CV):Rw:=⟨Nat.add r.n (uK m),OS m r.t r.n⟩
def Vk (m:CV):Rw:=⟨uK m,OS m .e 0⟩
theorem VF:∀ (m:CV) (t:Tr CV) (p i:Nat),(OS m t p).get i=if p≤i∧i<p+uK m then Tm m (i - p) else t.get i:=by
 intro m;induction m with
 | cons a b _ ih =>
   intro t p i;show (OS b (t.set (some a) (Nat.succ p) p) (Nat.succ p)).get i=if p≤i∧i<p+Nat.succ (uK b) then (bif Nat.beq (i - p) 0 then some a else Tm b (Nat.pred (i - p))) else t.get i;rw [ih,fP _ _ _ _ _ (cR p)];by_cases h1:i=p
   · subst h1;rw [aC (by omega),aE rfl,aE (by omega),iX];rfl
   · by_cases h2:p+1≤i∧i<p+1+uK b
     · rw [aE (show Nat.succ p≤i∧i<Nat.succ p+uK b from h2),aE (by omega)];have h3:Nat.beq (i - p) 0=false:=by
        cases hb:Nat.beq (i - p) 0 with
        | false=>rfl
        | true=>have:=aJ hb;omega
       rw [h3];show Tm b (i - (p+1))=Tm b (i - p - 1);rw [Nat.sub_add_eq]
     · rw [aC (show ¬(Nat.succ p≤i∧i<Nat.succ p+uK b) from h2),aC h1,aC (by omega)]
 | _=>intro t p i;exact (aC (show ¬(p≤i∧i<p+0) by omega)).symm
section
variable {nx:Nat} {ρ:Pl}
theorem LD {α:Type} {l n:List α} {p:Nat} (h:p+n.length≤l.length) (i:Nat):(l.take p++n++l.drop (p+n.length))[i]?=if p≤i∧i<p+n.length then n[i - p]? else l[i]?:=by
 have hl:(l.take p).length=p:=by rw [bM];omega
 by_cases h1:i<p
 · rw [aC (by omega),bA,bC sU,List.getElem?_take_of_lt h1]
 by_cases h2:i<p+n.length
 · rw [aE ⟨by omega,h2⟩,bA,cS sU,hl,bC sU]
 rw [aC (by omega),cS (by rw [aD,hl];omega),aD,hl,iR];congr 1;omega
theorem AU {m:CV} {t:Tr CV} {p:Nat} {vs us news:List Value} (hm:KL nx ρ m news) (ht:RT nx ρ t vs) (h1:∀ i,p≤i→i<p+news.length→us[i]?=news[i - p]?) (h2:∀ i v,¬(p≤i∧i<p+news.length)→vs[i]?=some v→us[i]?=some v):RT nx ρ (OS m t p) us:=fun i x hx=>by
 rw [VF,uU hm] at hx;by_cases h:p≤i∧i<p+news.length
 · rw [aE h] at hx;obtain ⟨v,e1,e2⟩:=Lf hm hx;exact ⟨v,by rw [h1 i h.1 h.2];exact e1,e2⟩
 rw [aC h] at hx;obtain ⟨v,e1,e2⟩:=ht i x hx;exact ⟨v,h2 i v h e1,e2⟩
theorem ZN {m:CV} {r:Rw} {p:Nat} {vs news:List Value} (hr:RL nx ρ r vs) (hm:KL nx ρ m news) (hp:p+news.length≤vs.length):RL nx ρ (Vj p m r) (vs.take p++news++vs.drop (p+news.length)):=
 ⟨by show r.n=_;rw [hr.1];simp only [aD,bM,eK];omega,
  AU hm hr.2 (fun i h1 h2=>by rw [LD hp,aE ⟨h1,h2⟩]) (fun i v h e=>by rw [LD hp,aC h];exact e)⟩
theorem LF {m:CV} {r:Rw} {vs news:List Value} (hr:RL nx ρ r vs) (hm:KL nx ρ m news):RL nx ρ (fb r m) (vs++news):=
 ⟨by show r.n+uK m=_;rw [hr.1,uU hm,aD],
  AU hm hr.2 (fun i h1 h2=>by rw [hr.1] at h1 ⊢;exact cS h1) (fun i v _ e=>by
   have:=(aW.1 e).1;rw [bC this];exact e)⟩
theorem AV {m:CV} {vs:List Value} (hm:KL nx ρ m vs):RL nx ρ (Vk m) vs:=
 ⟨uU hm,AU (vs:=[]) hm (fun i x hx=>by cases hx) (fun i _ h2=>by rw [mS]) (fun i v _ e=>by cases e)⟩
theorem LG {r:Rw} {vs:List Value} (hr:RL nx ρ r vs):r.n=vs.length:=hr.1
theorem LH {r:Rw} {vs:List Value} (hr:RL nx ρ r vs) {k:Nat} {c:CV} (h:VE r k=some c):∃ v,vs[k]?=some v∧Kn nx ρ c v:=hr.2 k c h
theorem Eh {r:Rw} {vs:List Value} (hr:RL nx ρ r vs):∀ {k o:Nat},uK (vC r o k)=k→KL nx ρ (vC r o k) ((vs.drop o).take k):=by
 intro k;induction k with
 | zero=>intro o h;exact nC
 | succ k ih =>
   intro o h;have hs:vC r o (k+1)=(match r.t.get o with | some a=>.cons a (vC r (o+1) k) | none=>.nil):=rfl;rw [hs] at h ⊢;split at h
   · rename_i a ha;obtain ⟨v,e1,e2⟩:=hr.2 o a ha;have h':uK (vC r (o+1) k)=k:=Nat.succ.inj h;obtain ⟨hl,hg⟩:=aW.1 e1;rw [dC hl,hg,List.take_succ_cons];exact oX e2 (ih h')
   cases h
end
def ofB (l:List UInt8):CV:=List.rec .nil (fun b _ ih=>.cons (.int .u8 b.toNat) ih) l
def VG:Value→J0 CV
 | .int k n=>some (.int k n)
 | .bool b=>some (.bool b)
 | .pointer none=>some .nilp
 | .slice none n c=>bif Nat.beq n 0 && Nat.beq c 0 then some .nils else none
 | .map none=>some .nilm
 | .nilFunc=>some .nilf
 | .string ⟨⟨l⟩⟩=>some (.str (ofB l))
 | _=>none
def px (l:List Value):J0 CV:=List.rec (some .nil) (fun v _ ih=>match VG v with | some a=>(match ih with | some b=>some (.cons a b) | none=>none) | none=>none) l
def py:Value→J0 CV
 | .agg ⟨l⟩=>match px l with | some x=>some (.agg x) | none=>none
 | .tuple ⟨l⟩=>match px l with | some x=>some (.tup x) | none=>none
 | v=>VG v
section
variable {nx:Nat} {ρ:Pl}
theorem fc:∀ l:List UInt8,KL nx ρ (ofB l) (l.map fun b=>Value.int .u8 b.toNat):=by
 intro l;induction l with
 | nil=>exact nC
 | cons b l ih=>exact oX ⟨I3,U⟩ ih
theorem LI {v:Value} {x:CV} (h:VG v=some x):Kn nx ρ x v:=by
 unfold VG at h;split at h
 · cases h;exact ⟨I3,U⟩
 · cases h;exact ⟨I3,U⟩
 · cases h;exact ⟨I3,U⟩
 · rename_i n c;cases hb:Nat.beq n 0 && Nat.beq c 0 with
   | true =>
     rw [hb] at h;cases h;simp only [aF] at hb;have e1:=aJ hb.1;have e2:=aJ hb.2;subst e1 e2;exact ⟨I3,U⟩
   | false=>rw [hb] at h;cases h
 · cases h;exact ⟨I3,U⟩
 · cases h;exact ⟨I3,U⟩
 · rename_i l;cases h;have:=fc (nx:=nx) (ρ:=ρ) l;exact ⟨this.1,⟨_,l,this.2,U,U⟩⟩
 cases h
theorem VH:∀ {l:List Value} {x:CV},px l=some x→KL nx ρ x l:=by
 intro l;induction l with
 | nil=>intro x h;cases h;exact nC
 | cons v l ih =>
   intro x h;have h':(match VG v with | some a=>(match px l with | some b=>some (.cons a b) | none=>none) | none=>none)=some x:=h;split at h'
   · rename_i a ha;split at h'
     · rename_i b hb;cases h';exact oX (LI ha) (ih hb)
     cases h'
   cases h'
theorem VI {v:Value} {x:CV} (h:py v=some x):Kn nx ρ x v:=by
 unfold py at h;split at h
 · split at h
   · rename_i l y hy;cases h;have:=VH (nx:=nx) (ρ:=ρ) hy;exact ⟨this.1,sR.2 ⟨_,this.2,U⟩⟩
   cases h
 · split at h
   · rename_i l y hy;cases h;have:=VH (nx:=nx) (ρ:=ρ) hy;exact ⟨this.1,rN.2 ⟨_,this.2,U⟩⟩
   cases h
 exact LI h
end
def vO (E:Tr CV):I7→J0 CV
 | .tmp t=>E.get t
 | .const v=>py v
 | .func f=>some (.fn f .nil .nil)
 | .global _=>none
def OT (E:Tr CV) (l:List I7):J0 CV:=List.rec (some .nil) (fun x _ ih=>match vO E x with | some a=>(match ih with | some b=>some (.cons a b) | none=>none) | none=>none) l
theorem Gk:∀ (vs:List Value) (i j:Nat),(wB i vs).get (i+j)=vs[j]?
 | [],i,j=>rfl
 | v :: vs,i,j=>by
   show B0.get ((i,v) :: wB (i+1) vs) (i+j)=_;rw [jA];cases j with
   | zero=>simp
   | succ j =>
     rw [aC (by omega),show i+(j+1)=(i+1)+j by omega,Gk vs (i+1) j];rfl
def eA (a:Act):B0:=wB 0 a.tmps.toList
theorem IH (a:Act) (i:Nat):(eA a).get i=a.tmps[i]?:=by
 have:=Gk a.tmps.toList 0 i;rw [cP] at this;unfold eA;rw [this,qI]
section
variable {nx n:Nat} {ρ:Pl} {E:Tr CV} {a:Act}
theorem tD (h:B4 ρ E nx n a) {x:I7} {c:CV} (hc:vO E x=some c):∃ v,(eA a).ev x=some v∧Kn nx ρ c v:=by
 cases x with
 | tmp t =>
   obtain ⟨v,h1,h2⟩:=h.2 t c hc;exact ⟨v,by show (eA a).get t=_;rw [IH];exact h1,h2⟩
 | const v=>exact ⟨v,U,VI hc⟩
 | func f =>
   cases hc;exact ⟨_,U,⟨⟨I3,I3⟩,DV.fn.2 ⟨[],[],U,U,U⟩⟩⟩
 | global g=>cases hc
theorem Qa (h:B4 ρ E nx n a):∀ {l:List I7} {c:CV},OT E l=some c→∃ vs,(eA a).evs l=some vs∧KL nx ρ c vs:=by
 intro l;induction l with
 | nil=>intro c hc;cases hc;exact ⟨[],U,nC⟩
 | cons x l ih =>
   intro c hc;have hc':(match vO E x with | some a=>(match OT E l with | some b=>some (.cons a b) | none=>none) | none=>none)=some c:=hc;split at hc'
   · rename_i c1 h1;split at hc'
     · rename_i c2 h2;cases hc';obtain ⟨v,e1,k1⟩:=tD h h1;obtain ⟨vs,e2,k2⟩:=ih h2;exact ⟨v :: vs,by unfold B0.evs;rw [e1,e2],oX k1 k2⟩
     cases hc'
   cases hc'
theorem lookN (a:Act) (w:I8):F9 (eA a) [] (fun _=>none) a w:=
 ⟨fun i v h=>by rw [IH] at h;exact h,⟨fun t b o h=>yA,fun t t' b o o' h=>yA,fun b o h=>yA,fun t b o h=>yA⟩⟩
theorem md (a:Act) {w:I8} {b:Nat} {o:Obj} (hb:w.heap[b]?=some o):F9 (eA a) [(0,some b,o)] (fun _=>none) a w:=
 ⟨fun i v h=>by rw [IH] at h;exact h,⟨fun t b' o' h=>(by
  rw [bF] at h;split at h
  · cases h;exact hb
  · cases h),fun t t' b1 o1 o2 h h'=>(by
  rw [bF] at h h';split at h <;> split at h'
  · omega
  · cases h'
  · cases h
  cases h),fun b o h=>yA,fun t b o h=>rfl⟩⟩
end
def VJ (P:I6) (T:Nat):J0 Nat:=match P.info? T with | some i=>some i.size | none=>none
def ig (P:I6) (T:Nat):J0 Nat:=match VJ P T with | some k=>bif yH P T k then some k else none | none=>none
def wg (P:I6) (s f:Nat):J0 Nat:=match P.underlying s with
 | some (.struct ⟨fs⟩)=>match Ur fs f with
   | some fd=>match VJ P fd.type with
     | some k=>bif Nat.beq k 0 then none else some fd.offset
     | none=>none
   | none=>none
 | _=>none
def BK (P:I6) (T:Nat):J0 (Nat×Nat):=match P.underlying T with
 | some (.slice E)=>match VJ P E with | some k=>some (E,k) | none=>none
 | _=>none
theorem Nn {P:I6} {T k:Nat} (h:VJ P T=some k):(P.info? T).map (·.size)=some k:=by
 unfold VJ at h;split at h
 · rename_i i hi;rw [hi];exact h
 cases h
theorem VK {P:I6} {T k:Nat} (h:ig P T=some k):yH P T k=true:=by
 unfold ig at h;split at h
 · rename_i m hm;cases hb:yH P T m with
   | true=>rw [hb] at h;cases h;exact hb
   | false=>rw [hb] at h;cases h
 cases h
theorem xH {P:I6} {T E k:Nat} (h:BK P T=some (E,k)):tR P T E k:=by
 unfold BK at h;split at h
 · rename_i E' hu;split at h
   · rename_i m hm;cases h;exact ⟨hu,Nn hm⟩
   cases h
 cases h
theorem fe {P:I6} {s f k:Nat} (h:wg P s f=some k):Cx P s f k:=by
 unfold wg at h;split at h
 · rename_i fs hu;split at h
   · rename_i fd hf;split at h
     · rename_i m hm;cases hb:Nat.beq m 0 with
       | true=>rw [hb] at h;cases h
       | false =>
         rw [hb] at h;cases h;intro b o w;rw [Ab] at hf;have h1:fs.toArray[f]?=some fd:=by simpa using hf
         have h2:=run_sizeOf (P:=P) w (Nn hm);have h3:m≠0:=fun e=>by subst e;simp at hb
         simp only [Instr.fieldAt,bK,bB hu,aR,h1,Instr.sureAddr,bO,fieldPlace,h2,h3,eQ,add_lit]
     cases h
   cases h
 cases h
end Go.Sl.Ev
end
