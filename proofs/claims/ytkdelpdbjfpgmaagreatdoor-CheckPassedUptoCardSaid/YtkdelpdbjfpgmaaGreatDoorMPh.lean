/- vD of the proof (part 8): what the rows' text needs of the texts that lead to it. -/
import Derived.Test.YtkdelpdbjfpgmaaGreatDoorMPg
set_option linter.unusedVariables false
set_option linter.unusedSimpArgs false
set_option linter.unusedSectionVars false
set_option maxHeartbeats 4000000
set_option maxRecDepth 100000
namespace Go.Proofs.YtkdelpdbjfpgmaaGreatDoor
open Go Go.Sl
theorem km (G:A3) (b:Nat) (ac:Option Addr) (cc:Nat) (code:List Sl.Instr) (j:List Value) (wa:Option Addr) (wc:Nat) (wh:List R2) (k:Int) (la:Option Addr) (lc:Nat) (left:List Int) (e:Nat) (ho:A4 ac cc code j) (hw:Arr G wa wh) (hla:Arr G la left)
 (hwl:wh.length≤15) (hk:0≤k∧k<wh.length) (hll:left.length≤15) (hleft:∀ i,i<left.length→0≤left[i]?.getD default∧left[i]?.getD default<wh.length) (he:e≤14) (hok:∀ i,i<wh.length→Nr (wh[i]?.getD default)) (hl:(code++yX wh.length wh k e left).length≤1048576) :
 Does Tryz.prog 194 [.pointer (some ⟨b,0,none⟩),.int .i64 k,.slice la left.length lc,.int .i64 e] G [(0,some b,.cells #[.int .i64 wh.length,.slice ac code.length cc,.slice wa wh.length wc] 267),(1,ac.map (·.block),Row 91 code j)]
  (fun v G' Ho=>v=.tuple #[]∧G'=G∧∃ (a':Option Addr) (c':Nat) (j':List Value),A4 a' c' (code++yX wh.length wh k e left) j'∧Ho=[(0,some b,.cells #[.int .i64 wh.length,.slice a' (code++yX wh.length wh k e left).length c',.slice wa wh.length wc] 267),(1,a'.map (·.block),Row 91 (code++yX wh.length wh k e left) j')]):=by
 have hl0:code.length≤1048576:=by rw [aB] at hl;omega
 obtain ⟨hnk,hzk⟩:=hok k.toNat sW;obtain ⟨_,b2,_,_⟩:=Fq hnk hzk;refine gM Tryz.func194 F9 Tryz.ntmps194 F9 fun w=>?_;refine lX ?_;refine aH 7 [0] ?_;refine bX F9 (iQ (α:=R2) T.sl22 F9 F9 sX sW) ?_;refine bX F9 (fY T.agg52 F9 (lJ sX sW) F9) ?_;refine aM 2 F9 T.zero52 fun b1=>?_;refine aL 6 [2,2] ?_;refine mW F9 T.fn192 F9 (YP _ _ _ sX sX) ?_;refine aZ 22 [] ?_;generalize hTg:code++yX wh.length wh k e left=Tg at *;refine fX (ι:=Nat×List Sl.Instr×(Option Addr×Nat×List Value)) (fun (t,cd,(o,d,q))=>([(35,.int .i64 (t:Int)),(34,Go.Value.int Go.IntKind.i64 (↑(List.length left):Int)),(33,Go.Value.slice la (List.length left) lc),(11,Go.Value.int Go.IntKind.i64 (Go.Proofs.YtkdelpdbjfpgmaaGreatDoor.bezT (Go.Sl.R2.a (Option.getD wh[Int.toNat k]? Inhabited.default)) (Go.Sl.R2.b (Option.getD wh[Int.toNat k]? Inhabited.default)))),(10,Go.Value.int Go.IntKind.i64 (Go.Proofs.YtkdelpdbjfpgmaaGreatDoor.bezS (Go.Sl.R2.a (Option.getD wh[Int.toNat k]? Inhabited.default)) (Go.Sl.R2.b (Option.getD wh[Int.toNat k]? Inhabited.default)))),(8,Go.Value.pointer (Option.some (Go.Addr.mk b1 0 Option.none))),(0,Go.Value.pointer (Option.some (Go.Addr.mk b 0 Option.none))),(1,Go.Value.int Go.IntKind.i64 k),(3,Go.Value.int Go.IntKind.i64 (↑e:Int))],[(0,some b,.cells #[.int .i64 wh.length,.slice o cd.length d,.slice wa wh.length wc] 267),(1,o.map (·.block),Row 91 cd q),(2,Option.some b1,Go.Obj.cells (List.toArray (Go.Sl.A2.enc (Option.getD wh[Int.toNat k]? Inhabited.default))) 52)])) (fun (t,cd,(o,d,q))=>t≤left.length∧cd++yX wh.length wh k e (left.drop t)=Tg∧A4 o d cd q) (fun (t,cd,(o,d,q))=>left.length - t) ((0,code,(ac,cc,j))) (⟨aN _,hTg,ho⟩) ⟨F9,F9,F9,F9,F9,F9,F9,F9,F9,H2⟩ ⟨F9,F9,F9,H2⟩ fun ⟨t,cd,(o,d,q)⟩=>fun hk=>?_;obtain ⟨ht1,ht3,ht4⟩:=hk;have htl:cd.length≤1048576:=by rw [←ht3,aB] at hl;omega
 rcases aK t left.length with hte | hte
 · have hi:=hleft t hte;have hdr:left.drop t=left[(t:Int).toNat]?.getD default :: left.drop (t+1):=by
    rw [dQ hte,aF,aA hte];rfl
   rw [aF] at hdr;obtain ⟨hni,hzi⟩:=hok (left[(t:Int).toNat]?.getD default).toNat Sn;have hi':0≤left[(t:Int).toNat]?.getD default∧left[(t:Int).toNat]?.getD default<wh.length:=by rw [aF];exact hi
   rw [hdr] at ht3;have ht3:cd++(Cb wh.length wh k e (left[(t:Int).toNat]?.getD default)++yX wh.length wh k e (left.drop (t+1)))=Tg:=by rw [aF];exact ht3
   have hlr:-512≤Br wh k (left[(t:Int).toNat]?.getD default)∧Br wh k (left[(t:Int).toNat]?.getD default)≤512:=FZ b2 hni;have hm1:(bezS (wh[k.toNat]?.getD default).a (wh[k.toNat]?.getD default).b*(wh[(left[(t:Int).toNat]?.getD default).toNat]?.getD default).a).natAbs≤17*16:=by rw [gG];exact gV sW (by unfold near at hni;omega)
   have hm2:(bezT (wh[k.toNat]?.getD default).a (wh[k.toNat]?.getD default).b*(wh[(left[(t:Int).toNat]?.getD default).toNat]?.getD default).b).natAbs≤17*16:=by rw [gG];exact gV sW (by unfold near at hni;omega)
   have hTl:cd.length+(Cb wh.length wh k e (left[(t:Int).toNat]?.getD default)).length≤1048576:=by rw [←ht3,aB,aB] at hl;omega
   unfold Cb at ht3 hTl;rw [aB] at hTl;refine aH 13 [1] ?_;refine bX F9 (iQ (α:=Int) T.sl24 F9 F9 sX sW) ?_;refine bX F9 (bV T.one3 F9 (gI sX sW 0 F9 F9)) ?_;refine aL 10 [0] ?_;refine bX F9 (iQ (α:=R2) T.sl22 F9 F9 sX sW) ?_;refine bX F9 (fY T.agg52 F9 (lJ sX sW) F9) ?_;refine aM 3 F9 T.zero52 fun b3=>?_;refine aL 7 [3,2,3] ?_;refine mW F9 T.fn229 F9 (dg _ _ _ _ _ sX sX) ?_;refine aL 12 [3] ?_;refine bX F9 (mD F9 F9 sW) ?_;refine aC 3 [3] ?_;refine bX F9 (mD F9 F9 sW) ?_;refine aL 10 [] ?_;apply dZ 3 63 66 F9;intro hg1;refine aC 5 [] ?_;exact jB 3 0 F9 F9 F9 F9 F9;intro hg1;refine aC 3 [] ?_;exact jB 3 0 F9 F9 F9 F9 F9;refine aZ 2 [] ?_;refine oB F9 (fun hc1=>?_) fun hc1=>?_;refine aH 4 [] ?_;refine eJ 0 F9 T.fn231 F9 (AV _ b _ _ _ sW) (tC ⟨F9,H2⟩) ?_;refine aC 3 [] ?_;rotate_left;refine bL 9 [] ?_;refine oB F9 (fun hc2=>?_) fun hc2=>?_;refine bG 8 [] ?_;rotate_left;refine aH 6 [] ?_;rotate_left
   · have hcc:Br wh k (left[(t:Int).toNat]?.getD default)≠0∨e=0:=by
      rcases hc1 with h | h
      · exact .inl h
      exact .inr sW
     rw [aE hcc] at ht3 hTl;rw [aB,jW] at hTl;have hq1:(cd++Am (3*(wh.length:Int)) k (Br wh k (left[(t:Int).toNat]?.getD default)) e).length≤1048576:=by rw [aB];omega
     refine eO 0 F9 T.fn230 F9 (kj _ b _ o d cd q wa _ wc (3*(wh.length:Int)) k (Br wh k (left[(t:Int).toNat]?.getD default)) e ht4 hq1 hlr sW) (tC ⟨F9,F9,H2⟩) fun v1 G1 Ho1 hle1 hp=>?_;obtain ⟨rfl,rfl,a1,d1,j1,ho1,rfl⟩:=hp;refine aL 7 [] ?_;refine eJ 0 F9 T.fn231 F9 (AV _ b _ _ _ sW) (tC ⟨F9,H2⟩) ?_;refine eO 0 F9 T.fn228 F9 (Sg _ b _ a1 d1 (cd++Am (3*(wh.length:Int)) k (Br wh k (left[(t:Int).toNat]?.getD default)) e) j1 wa _ wc _ _ _ _ _ ho1 hq1) (tC ⟨F9,F9,H2⟩) fun v2 G2 Ho2 hle2 hp=>?_;obtain ⟨rfl,rfl,a2,d2,j2,ho2,rfl⟩:=hp;refine aZ 9 [] ?_;refine oB F9 (fun hc2=>?_) fun hc2=>?_;refine bG 8 [] ?_;rotate_left;refine aH 6 [] ?_;rotate_left
     · have hdd:An wh k (left[(t:Int).toNat]?.getD default)=1:=hc2;rw [aE hdd,bB] at ht3;refine cE 35 F9 (show _=Value.int .i64 ((t+1:Nat):Int) from F9) ?_;refine eX ((t+1,(cd++Am (3*(wh.length:Int)) k (Br wh k (left[(t:Int).toNat]?.getD default)) e++[(⟨4,(left[(t:Int).toNat]?.getD default),(left[(t:Int).toNat]?.getD default),3*(wh.length:Int),0⟩:Sl.Instr)]),(a2,d2,j2))) ?_ ?_ F9 ⟨F9,F9,F9,F9,F9,F9,F9,F9,F9,H2⟩ ⟨F9,F9,F9,H2⟩
       · refine ⟨hte,?_,ho2⟩;rw [←ht3];simp only [aR]
       show left.length - (t+1)<left.length - t;omega
     have hdd:¬An wh k (left[(t:Int).toNat]?.getD default)=1:=hc2;rw [aD hdd] at ht3 hTl;have hq2:(cd++Am (3*(wh.length:Int)) k (Br wh k (left[(t:Int).toNat]?.getD default)) e++[(⟨4,(left[(t:Int).toNat]?.getD default),(left[(t:Int).toNat]?.getD default),3*(wh.length:Int),0⟩:Sl.Instr)]).length≤1048576:=by rw [aB,aB,jW];omega
     refine eO 0 F9 T.fn193 F9 (YM _ b _ a2 d2 (cd++Am (3*(wh.length:Int)) k (Br wh k (left[(t:Int).toNat]?.getD default)) e++[(⟨4,(left[(t:Int).toNat]?.getD default),(left[(t:Int).toNat]?.getD default),3*(wh.length:Int),0⟩:Sl.Instr)]) j2 wa _ wc _ _ ho2 hq2) (tC ⟨F9,F9,H2⟩) fun v3 G3 Ho3 hle3 hp=>?_;obtain ⟨rfl,rfl,a3,d3,j3,ho3,rfl⟩:=hp;refine aS 7 [] ?_;refine cE 35 F9 (show _=Value.int .i64 ((t+1:Nat):Int) from F9) ?_;refine eX ((t+1,(cd++Am (3*(wh.length:Int)) k (Br wh k (left[(t:Int).toNat]?.getD default)) e++[(⟨4,(left[(t:Int).toNat]?.getD default),(left[(t:Int).toNat]?.getD default),3*(wh.length:Int),0⟩:Sl.Instr)])++xW (left[(t:Int).toNat]?.getD default) (An wh k (left[(t:Int).toNat]?.getD default)),(a3,d3,j3))) ?_ ?_ F9 ⟨F9,F9,F9,F9,F9,F9,F9,F9,F9,H2⟩ ⟨F9,F9,F9,H2⟩
     · refine ⟨hte,?_,ho3⟩;rw [←ht3];simp only [aR]
     show left.length - (t+1)<left.length - t;omega
   · have hcc:¬(Br wh k (left[(t:Int).toNat]?.getD default)≠0∨e=0):=fun h=>hc1 (h.elim .inl (fun h=>.inr sW));rw [aD hcc] at ht3 hTl;have hdd:An wh k (left[(t:Int).toNat]?.getD default)=1:=hc2;rw [aE hdd] at ht3;refine cE 35 F9 (show _=Value.int .i64 ((t+1:Nat):Int) from F9) ?_;refine eX ((t+1,cd,(o,d,q))) ?_ ?_ F9 ⟨F9,F9,F9,F9,F9,F9,F9,F9,F9,H2⟩ ⟨F9,F9,F9,H2⟩
     · exact ⟨hte,ht3,ht4⟩
     show left.length - (t+1)<left.length - t;omega
   have hcc:¬(Br wh k (left[(t:Int).toNat]?.getD default)≠0∨e=0):=fun h=>hc1 (h.elim .inl (fun h=>.inr sW));rw [aD hcc] at ht3 hTl;have hdd:¬An wh k (left[(t:Int).toNat]?.getD default)=1:=hc2;rw [aD hdd] at ht3;refine eO 0 F9 T.fn193 F9 (YM _ b _ o d cd q wa _ wc _ _ ht4 htl) (tC ⟨F9,F9,H2⟩) fun v1 G1 Ho1 hle1 hp=>?_;obtain ⟨rfl,rfl,a1,d1,j1,ho1,rfl⟩:=hp;refine aS 7 [] ?_;refine cE 35 F9 (show _=Value.int .i64 ((t+1:Nat):Int) from F9) ?_;refine eX ((t+1,cd++xW (left[(t:Int).toNat]?.getD default) (An wh k (left[(t:Int).toNat]?.getD default)),(a1,d1,j1))) ?_ ?_ F9 ⟨F9,F9,F9,F9,F9,F9,F9,F9,F9,H2⟩ ⟨F9,F9,F9,H2⟩
   · refine ⟨hte,?_,ho1⟩;rw [←ht3,gA];simp only [aR]
   show left.length - (t+1)<left.length - t;omega
 have hte:t=left.length:=sW;subst hte;rw [nX] at ht3;have ht3:cd=Tg:=by rw [←ht3];exact (bB _).symm
 subst ht3;refine bG 11 [0] ?_;refine oA ?_;refine kH zS (Ho:=[(0,some b,.cells #[.int .i64 wh.length,.slice o cd.length d,.slice wa wh.length wc] 267),(1,o.map (·.block),Row 91 cd q)]) F9 ⟨F9,F9,H2⟩ ?_;exact ⟨F9,F9,o,d,q,ht4,F9⟩
end Go.Proofs.YtkdelpdbjfpgmaaGreatDoor
namespace Go.Sl
open Go
theorem C8 (y:Bool):Value.bool y=Value.bool (decide (y=true)):=by cases y <;> rfl
section
variable {α:Type} [A2 α] [Inhabited α] {P:Program} {ops:Array Oper} {rest:List Oper} {B:Bs} {e:A9} {D:List Deferred} {H:Hp} {G:A3} {K:Act→World→Prop}
 {ty:TypeId} {pos:String} {after:Array Edge} {d:Nat}
end
section
variable {α:Type} [A2 α] {P:Program} {ops:Array Oper} {rest:List Oper} {B:Bs} {e:A9} {D:List Deferred} {H:Hp} {G:A3} {K:Act→World→Prop}
 {ty:TypeId} {pos:String} {after:Array Edge} {d:Nat}
end
end Go.Sl
namespace Go.Proofs.YtkdelpdbjfpgmaaGreatDoor
open Go Go.Sl
theorem Cx {n u v:Int} {ti:List Bool} {m:Nat} {low own:Bool} (hl:(decide (0<m) && ti[m - 1]?.getD false && decide (u≠0))=low) (ho:(ti[m]?.getD false && decide (v≠0))=own) :
 Bi n u v ti m=(ti.set m (own || low),(if low then tE (3*n) (2*n+(m - 1)) u else [])++(if own && low then tE (2*n+m) (2*n+m) v++[⟨3,2*n+m,2*n+m,3*n,0⟩] else if own then tE (2*n+m) (2*n+m) v else if low then tE (2*n+m) (3*n) 1 else [])):=by
 subst hl ho;rfl
theorem kn (G:A3) (b:Nat) (ac:Option Addr) (cc:Nat) (code:List Sl.Instr) (j:List Value) (wa:Option Addr) (wc:Nat) (wh:List R2) (k:Int) (e:Nat) (ho:A4 ac cc code j) (hw:Arr G wa wh)
 (hwl:wh.length≤15) (hk:0≤k∧k<wh.length) (he:e<wh.length) (hok:Nr (wh[k.toNat]?.getD default)) (hl:(code++zR wh.length (bezS (wh[k.toNat]?.getD default).a (wh[k.toNat]?.getD default).b) (bezT (wh[k.toNat]?.getD default).a (wh[k.toNat]?.getD default).b) k e).length≤1048576) :
 Does Tryz.prog 232 [.pointer (some ⟨b,0,none⟩),.int .i64 k,.int .i64 e] G [(0,some b,.cells #[.int .i64 wh.length,.slice ac code.length cc,.slice wa wh.length wc] 267),(1,ac.map (·.block),Row 91 code j)]
  (fun v G' Ho=>G'=G∧∃ (a':Option Addr) (c':Nat) (j':List Value) (th:List Bool) (cd:List Sl.Instr) (tb:Nat),th=yC wh.length (bezS (wh[k.toNat]?.getD default).a (wh[k.toNat]?.getD default).b) (bezT (wh[k.toNat]?.getD default).a (wh[k.toNat]?.getD default).b) e∧
   cd=code++zR wh.length (bezS (wh[k.toNat]?.getD default).a (wh[k.toNat]?.getD default).b) (bezT (wh[k.toNat]?.getD default).a (wh[k.toNat]?.getD default).b) k e∧v=.slice (some ⟨tb,0,none⟩) th.length th.length∧A4 a' c' cd j'∧A4 (some ⟨tb,0,none⟩) th.length th []∧
   Ho=[(0,some b,.cells #[.int .i64 wh.length,.slice a' cd.length c',.slice wa wh.length wc] 267),(1,a'.map (·.block),Row 91 cd j'),(2,some tb,Row 4 th [])]):=by
 have hl0:code.length≤1048576:=by rw [aB] at hl;omega
 obtain ⟨hnk,hzk⟩:=hok;obtain ⟨_,b2,_,_⟩:=Fq hnk hzk;refine gM Tryz.func232 F9 Tryz.ntmps232 F9 fun w=>?_;refine aH 12 [0] ?_;refine bX F9 (iQ (α:=R2) T.sl22 F9 F9 sX sW) ?_;refine bX F9 (fY T.agg52 F9 (lJ sX sW) F9) ?_;refine mW F9 T.fn192 F9 (YP _ _ _ sX sX) ?_;refine aL 15 [] ?_;refine gN (α:=Bool) 2 F9 T.sl138 T.el4 F9 F9 sW sW fun b1=>?_;refine aL 6 [] ?_;generalize hu:bezS (wh[k.toNat]?.getD default).a (wh[k.toNat]?.getD default).b=u at *;generalize hv:bezT (wh[k.toNat]?.getD default).a (wh[k.toNat]?.getD default).b=v at *;have hR1:List.replicate ((e:Int)+1).toNat (default:Bool)=List.replicate (e+1) false:=by rw [show ((e:Int)+1).toNat=e+1 by omega];rfl
 generalize hR0:List.replicate ((e:Int)+1).toNat (default:Bool)=R0 at *;have hR0l:R0.length=e+1:=by rw [hR1,aJ]
 have hoR:A4 (some ⟨b1,0,none⟩) R0.length R0 []:=fP Of;refine bX F9 (dS (α:=Bool) T.sl138 F9 F9 sX sW) ?_;refine dJ (z:=_) 2 T.size4 F9 F9 F9 sX sW F9 fun ho1=>?_;refine aL 6 [] ?_;refine eJ 0 F9 T.fn233 F9 (Ls _ b _ _ _ _ sW sW) (tC ⟨F9,H2⟩) ?_;refine bX F9 (dH F9) ?_;refine eO 0 F9 T.fn195 F9 (Gi _ b _ ac cc code j wa _ wc _ _ _ ho hl0) (tC ⟨F9,F9,H2⟩) fun v1 G1 Ho1 hle1 hp=>?_;obtain ⟨rfl,rfl,a1,d1,j1,ho1,rfl⟩:=hp;refine aZ 9 [] ?_;have hTg:code++zR wh.length u v k e=(code++tE (2*(wh.length:Int)+0) k 1)++(Hr wh.length u v e 1 (R0.set (Int.toNat 0) true)).2:=by
  unfold zR;rw [fN,hR1,aR];rfl
 have hTh:yC wh.length u v e=(Hr wh.length u v e 1 (R0.set (Int.toNat 0) true)).1:=by unfold yC;rw [hR1];rfl
 generalize code++zR wh.length u v k e=Tg at *;generalize yC wh.length u v e=Th at *;refine iP 11 F9 (show _=Value.slice (some ⟨b1,0,none⟩) (R0.set (Int.toNat 0) true).length (e+1) by rw [aG,hR0l]) ?_;refine fX (ι:=Nat×List Bool×List Sl.Instr×(Option Addr×Nat×List Value)) (fun (d,th,cd,(o,dd,q))=>([(12,.int .i64 (d:Int)),(11,.slice (some ⟨b1,0,none⟩) th.length (e+1)),(9,Go.Value.int Go.IntKind.i64 v),(8,Go.Value.int Go.IntKind.i64 u),(6,Go.Value.slice Option.none 0 0),(0,Go.Value.pointer (Option.some (Go.Addr.mk b 0 Option.none))),(2,Go.Value.int Go.IntKind.i64 (↑e:Int))],[(0,some b,.cells #[.int .i64 wh.length,.slice o cd.length dd,.slice wa wh.length wc] 267),(1,o.map (·.block),Row 91 cd q),(2,some b1,Row 4 th [])])) (fun (d,th,cd,(o,dd,q))=>(1≤d∧d≤e+1)∧th.length=e+1∧(Hr wh.length u v (e+1 - d) d th).1=Th∧cd++(Hr wh.length u v (e+1 - d) d th).2=Tg∧A4 (some ⟨b1,0,none⟩) (e+1) th []∧A4 o dd cd q) (fun (d,th,cd,(o,dd,q))=>e+1 - d) ((1,_,code++tE (2*(wh.length:Int)+0) k 1,(a1,d1,j1))) (⟨by omega,by rw [aG,hR0l],hTh.symm,hTg.symm,by rw [←hR0l];assumption,ho1⟩) ⟨F9,F9,F9,F9,F9,F9,F9,H2⟩ ⟨F9,F9,F9,H2⟩ fun ⟨d,th,cd,(o,dd,q)⟩=>fun hk=>?_;obtain ⟨⟨hd1,hd2⟩,hth,hT1,hT2,hoT,hoC⟩:=hk;have hcl:cd.length≤1048576:=by rw [←hT2,aB] at hl;omega
 rcases aK d (e+1) with hde | hde
 · have e1:e+1 - d=(e+1 - (d+1))+1:=sW;rw [e1] at hT1 hT2;unfold Hr at hT1 hT2;simp only at hT1 hT2;refine bL 20 [1] ?_;generalize hA1:(Tv wh.length u v (d+1) th).1=A1 at *;generalize hB1:(Tv wh.length u v (d+1) th).2=B1 at *;have hcb:(cd++B1).length≤1048576:=by rw [←hT2,←aR,aB] at hl;omega
   refine iP 13 F9 (show _=Value.int .i64 (((d+1:Nat):Int) - 1) by congr 1;omega) ?_;refine fX (ι:=Nat×List Bool×List Sl.Instr×(Option Addr×Nat×List Value)) (fun (m,ti,ci,(o,dd,q))=>([(13,.int .i64 ((m:Int) - 1)),(2,.int .i64 (e:Int)),(12,.int .i64 (d:Int)),(11,.slice (some ⟨b1,0,none⟩) ti.length (e+1)),(9,Go.Value.int Go.IntKind.i64 v),(8,Go.Value.int Go.IntKind.i64 u),(6,Go.Value.slice Option.none 0 0),(0,Go.Value.pointer (Option.some (Go.Addr.mk b 0 Option.none)))],[(0,some b,.cells #[.int .i64 wh.length,.slice o ci.length dd,.slice wa wh.length wc] 267),(1,o.map (·.block),Row 91 ci q),(2,some b1,Row 4 ti [])])) (fun (m,ti,ci,(o,dd,q))=>m≤d+1∧ti.length=e+1∧(Tv wh.length u v m ti).1=A1∧ci++(Tv wh.length u v m ti).2=cd++B1∧A4 (some ⟨b1,0,none⟩) (e+1) ti []∧A4 o dd ci q) (fun (m,ti,ci,(o,dd,q))=>m) ((d+1,th,cd,(o,dd,q))) (⟨aI _,hth,hA1,by rw [hB1],hoT,hoC⟩) ⟨F9,F9,F9,F9,F9,F9,F9,F9,H2⟩ ⟨F9,F9,F9,H2⟩ fun ⟨m,ti,ci,(o,dd,q)⟩=>fun hk=>?_;obtain ⟨hm1,hti,hS1,hS2,hoTi,hoCi⟩:=hk;have hcil:ci.length≤1048576:=by rw [←hS2,aB] at hcb;omega
   match m,hm1,hS1,hS2 with
   | 0,hm1,hS1,hS2 =>
     have hS1:ti=A1:=hS1;have hS2:ci=cd++B1:=by rw [←hS2];exact (bB _).symm
     refine bG 19 [0] ?_;refine cE 12 F9 (show _=Value.int .i64 ((d+1:Nat):Int) from F9) ?_;refine eX ((d+1,ti,ci,(o,dd,q))) ?_ ?_ F9 ⟨F9,F9,F9,F9,F9,F9,F9,H2⟩ ⟨F9,F9,F9,H2⟩
     · refine ⟨by omega,hti,?_,?_,hoTi,hoCi⟩
       · rw [hS1];exact hT1
       rw [hS1,hS2,aR];exact hT2
     · show e+1 - (d+1)<e+1 - d;omega
   | m+1,hm1,hS1,hS2 =>
     refine iP 13 F9 (show _=Value.int .i64 (m:Int) by congr 1;omega) ?_;unfold Tv at hS1 hS2;simp only at hS1 hS2;have hdf:∀ z:Nat,ti[z]?.getD default=ti[z]?.getD false:=fun z=>rfl;have hlowF:(¬(0<m∧ti[m - 1]?.getD false=true∧u≠0))→(decide (0<m) && ti[m - 1]?.getD false && decide (u≠0))=false:=fun h=>by
      cases hx:ti[m - 1]?.getD false <;> by_cases h1:0<m <;> by_cases h2:u≠0 <;> simp [h1,h2];exact h ⟨h1,hx,h2⟩
     have hownF:(¬(ti[m]?.getD false=true∧v≠0))→(ti[m]?.getD false && decide (v≠0))=false:=fun h=>by
      cases hx:ti[m]?.getD false <;> by_cases h2:v≠0 <;> simp [h2];exact h ⟨hx,h2⟩
     have hownT:(ti[m]?.getD false=true∧v≠0)→(ti[m]?.getD false && decide (v≠0))=true:=fun h=>by rw [h.1,bT h.2];rfl
     have hlowT:(0<m∧ti[m - 1]?.getD false=true∧u≠0)→(decide (0<m) && ti[m - 1]?.getD false && decide (u≠0))=true:=fun h=>by rw [h.2.1,bT h.1,bT h.2.2];rfl
     have hbd:(ci++(Bi wh.length u v ti m).2).length≤1048576:=by
      have:(ci++((Bi wh.length u v ti m).2++(Tv wh.length u v m (Bi wh.length u v ti m).1).2)).length≤1048576:=by rw [hS2];exact hcb
      rw [aB,aB] at this;rw [aB];omega
     have hoN:∀ {x:Bool},A4 (some ⟨b1,0,none⟩) (e+1) (ti.set m x) []:=hoTi.elim (fun h=>by cases h.1) (fun ⟨b,h1,h2,h3,h4⟩=>.inr ⟨b,h1,by rw [aG];exact h2,by rw [aG];exact h3,h4⟩);rcases gK m with hm0 | hm0
     · by_cases hO:ti[(m:Int).toNat]?.getD default=true∧v≠0
       · have hrs:=Cx (n:=wh.length) (hlowF (fun h=>by omega)) (hownT hO);rw [hrs] at hbd;refine aH 17 [1] ?_;refine oZ 51 F9 uI ?_;refine aL 17 [] ?_;refine bX F9 (dS (α:=Bool) T.sl138 F9 F9 sX sW) ?_;refine bX F9 (fG 2 0 T.one4 F9 F9 sX sW F9 F9) ?_;refine bX F9 (dH F9) ?_;refine fR 66 F9 (Go.Sl.C8 _) ?_;apply bW 3 66 69 F9;intro hg1;refine aC 5 [] ?_;exact jB 3 0 F9 F9 F9 F9 F9;intro hg1;refine aC 3 [] ?_;exact jB 3 0 F9 F9 F9 F9 F9;refine aL 18 [0] ?_;refine kP 82 F9 uI ?_;refine aL 18 [0,1] ?_;refine eJ 0 F9 T.fn233 F9 (Ls _ b _ _ _ _ sW sW) (tC ⟨F9,H2⟩) ?_;refine aC 2 [] ?_;refine eJ 0 F9 T.fn233 F9 (Ls _ b _ _ _ _ sW sW) (tC ⟨F9,H2⟩) ?_;refine bX F9 (dH F9) ?_;refine eO 0 F9 T.fn195 F9 (Gi _ b _ o dd ci q wa _ wc _ _ _ hoCi hcil) (tC ⟨F9,F9,H2⟩) fun v2 G2 Ho2 hle2 hp=>?_;obtain ⟨rfl,rfl,a2,d2,j2,ho2,rfl⟩:=hp;refine aL 8 [] ?_;refine kP 127 F9 uI ?_;refine aC 2 [] ?_;refine bX F9 (dS (α:=Bool) T.sl138 F9 F9 sX sW) ?_;refine dJ (z:=_) 2 T.size4 F9 F9 F9 sX sW F9 fun ho3=>?_;refine aS 8 [] ?_;refine gJ 2 (Row 4 (ti.set m (true || false)) []) F9 Sk ?_;refine cE 13 F9 (show _=Value.int .i64 ((m:Int) - 1) from F9) ?_;refine cE 11 F9 (show _=Value.slice (some ⟨b1,0,none⟩) (ti.set m (true || false)).length (e+1) by rw [aG]) ?_;refine eX ((m,ti.set m (true || false),ci++tE (2*(wh.length:Int)+(m:Int)) (2*(wh.length:Int)+(m:Int)) v,(a2,d2,j2))) ?_ ?_ F9 ⟨F9,F9,F9,F9,F9,F9,F9,F9,H2⟩ ⟨F9,F9,F9,H2⟩
         · refine ⟨by omega,by rw [aG];exact hti,?_,?_,hoN,ho2⟩
           · rw [←hS1,hrs]
           rw [←hS2,hrs];simp
         show m<m+1;omega
       have hrs:=Cx (n:=wh.length) (hlowF (fun h=>by omega)) (hownF hO);refine aH 17 [1] ?_;refine oZ 51 F9 uI ?_;refine aL 17 [] ?_;refine bX F9 (dS (α:=Bool) T.sl138 F9 F9 sX sW) ?_;refine bX F9 (fG 2 0 T.one4 F9 F9 sX sW F9 F9) ?_;refine bX F9 (dH F9) ?_;refine fR 66 F9 (Go.Sl.C8 _) ?_;apply bW 3 66 69 F9;intro hg1;refine aC 5 [] ?_;exact jB 3 0 F9 F9 F9 F9 F9;intro hg1;refine aC 3 [] ?_;exact jB 3 0 F9 F9 F9 F9 F9;refine aL 18 [0] ?_;refine oZ 82 F9 uI ?_;refine aL 28 [0,0,0] ?_;refine oZ 127 F9 uI ?_;refine aC 3 [] ?_;refine bX F9 (dS (α:=Bool) T.sl138 F9 F9 sX sW) ?_;refine dJ (z:=_) 2 T.size4 F9 F9 F9 sX sW F9 fun ho2=>?_;refine aS 8 [] ?_;refine gJ 2 (Row 4 (ti.set m (false || false)) []) F9 Sk ?_;refine cE 13 F9 (show _=Value.int .i64 ((m:Int) - 1) from F9) ?_;refine cE 11 F9 (show _=Value.slice (some ⟨b1,0,none⟩) (ti.set m (false || false)).length (e+1) by rw [aG]) ?_;refine eX ((m,ti.set m (false || false),ci,(o,dd,q))) ?_ ?_ F9 ⟨F9,F9,F9,F9,F9,F9,F9,F9,H2⟩ ⟨F9,F9,F9,H2⟩
       · refine ⟨by omega,by rw [aG];exact hti,?_,?_,hoN,hoCi⟩
         · rw [←hS1,hrs]
         rw [←hS2,hrs];simp
       show m<m+1;omega
     have hm1e:((m:Int) - 1).toNat=m - 1:=sW;by_cases hL:ti[((m:Int) - 1).toNat]?.getD default=true∧u≠0
     · have hlow:=hlowT ⟨hm0,by rw [←hm1e];exact hL.1,hL.2⟩;by_cases hO:ti[(m:Int).toNat]?.getD default=true∧v≠0
       · have hOL:(ti[(m:Int).toNat]?.getD default=true∧v≠0)∧ti[((m:Int) - 1).toNat]?.getD default=true∧u≠0:=⟨hO,hL⟩
         have hrs:=Cx (n:=wh.length) hlow (hownT hO);rw [hrs] at hbd;have hb1:((ci++tE (3*(wh.length:Int)) (2*(wh.length:Int)+((m:Int) - 1)) u)++tE (2*(wh.length:Int)+(m:Int)) (2*(wh.length:Int)+(m:Int)) v).length≤1048576:=by
          simp only [Bool.and_self,kD,aB,jW] at hbd;simp only [aB];omega
         have hb0:(ci++tE (3*(wh.length:Int)) (2*(wh.length:Int)+((m:Int) - 1)) u).length≤1048576:=by rw [aB] at hb1;omega
         refine aH 17 [1] ?_;refine kP 51 F9 uI ?_;refine aC 7 [] ?_;refine bX F9 (dS (α:=Bool) T.sl138 F9 F9 sX sW) ?_;refine qH F9 F9 ?_;refine bX F9 (fG 2 0 T.one4 F9 F9 sX sW F9 F9) ?_;refine aC 2 [] ?_;refine fR 58 F9 (Go.Sl.C8 _) ?_;apply bW 3 58 61 F9;intro hg1;refine aC 5 [] ?_;exact jB 3 0 F9 F9 F9 F9 F9;intro hg1;refine aC 3 [] ?_;exact jB 3 0 F9 F9 F9 F9 F9;refine aL 7 [] ?_;refine bX F9 (dS (α:=Bool) T.sl138 F9 F9 sX sW) ?_;refine bX F9 (fG 2 0 T.one4 F9 F9 sX sW F9 F9) ?_;refine bX F9 (dH F9) ?_;refine fR 66 F9 (Go.Sl.C8 _) ?_;apply bW 3 66 69 F9;intro hg1;refine aC 5 [] ?_;exact jB 3 0 F9 F9 F9 F9 F9;intro hg1;refine aC 3 [] ?_;exact jB 3 0 F9 F9 F9 F9 F9;refine aL 13 [1] ?_;refine eJ 0 F9 T.fn231 F9 (AV _ b _ _ _ sW) (tC ⟨F9,H2⟩) ?_;refine aC 3 [] ?_;refine eJ 0 F9 T.fn233 F9 (Ls _ b _ _ _ _ sW sW) (tC ⟨F9,H2⟩) ?_;refine bX F9 (dH F9) ?_;refine eO 0 F9 T.fn195 F9 (Gi _ b _ o dd ci q wa _ wc _ _ _ hoCi hcil) (tC ⟨F9,F9,H2⟩) fun v2 G2 Ho2 hle2 hp=>?_;obtain ⟨rfl,rfl,a2,d2,j2,ho2,rfl⟩:=hp;refine aL 8 [] ?_;refine kP 82 F9 uI ?_;refine aL 12 [1] ?_;refine eJ 0 F9 T.fn233 F9 (Ls _ b _ _ _ _ sW sW) (tC ⟨F9,H2⟩) ?_;refine aC 2 [] ?_;refine eJ 0 F9 T.fn233 F9 (Ls _ b _ _ _ _ sW sW) (tC ⟨F9,H2⟩) ?_;refine bX F9 (dH F9) ?_;refine eO 0 F9 T.fn195 F9 (Gi _ b _ a2 d2 (ci++tE (3*(wh.length:Int)) (2*(wh.length:Int)+((m:Int) - 1)) u) j2 wa _ wc _ _ _ ho2 hb0) (tC ⟨F9,F9,H2⟩) fun v3 G3 Ho3 hle3 hp=>?_;obtain ⟨rfl,rfl,a3,d3,j3,ho3,rfl⟩:=hp;refine aL 6 [] ?_;refine eJ 0 F9 T.fn233 F9 (Ls _ b _ _ _ _ sW sW) (tC ⟨F9,H2⟩) ?_;refine aC 2 [] ?_;refine eJ 0 F9 T.fn233 F9 (Ls _ b _ _ _ _ sW sW) (tC ⟨F9,H2⟩) ?_;refine bX F9 (dH F9) ?_;refine eJ 0 F9 T.fn231 F9 (AV _ b _ _ _ sW) (tC ⟨F9,H2⟩) ?_;refine eO 0 F9 T.fn228 F9 (Sg _ b _ a3 d3 ((ci++tE (3*(wh.length:Int)) (2*(wh.length:Int)+((m:Int) - 1)) u)++tE (2*(wh.length:Int)+(m:Int)) (2*(wh.length:Int)+(m:Int)) v) j3 wa _ wc _ _ _ _ _ ho3 hb1) (tC ⟨F9,F9,H2⟩) fun v4 G4 Ho4 hle4 hp=>?_;obtain ⟨rfl,rfl,a4,d4,j4,ho4,rfl⟩:=hp;refine aL 8 [] ?_;refine kP 127 F9 uI ?_;refine aC 2 [] ?_;refine bX F9 (dS (α:=Bool) T.sl138 F9 F9 sX sW) ?_;refine dJ (z:=_) 2 T.size4 F9 F9 F9 sX sW F9 fun ho5=>?_;refine aS 8 [] ?_;refine gJ 2 (Row 4 (ti.set m (true || true)) []) F9 Sk ?_;refine cE 13 F9 (show _=Value.int .i64 ((m:Int) - 1) from F9) ?_;refine cE 11 F9 (show _=Value.slice (some ⟨b1,0,none⟩) (ti.set m (true || true)).length (e+1) by rw [aG]) ?_;refine eX ((m,ti.set m (true || true),((ci++tE (3*(wh.length:Int)) (2*(wh.length:Int)+((m:Int) - 1)) u)++tE (2*(wh.length:Int)+(m:Int)) (2*(wh.length:Int)+(m:Int)) v)++[(⟨3,2*(wh.length:Int)+(m:Int),2*(wh.length:Int)+(m:Int),3*(wh.length:Int),0⟩:Sl.Instr)],(a4,d4,j4))) ?_ ?_ F9 ⟨F9,F9,F9,F9,F9,F9,F9,F9,H2⟩ ⟨F9,F9,F9,H2⟩
         · refine ⟨by omega,by rw [aG];exact hti,?_,?_,hoN,ho4⟩
           · rw [←hS1,hrs]
           rw [←hS2,hrs];simp
         show m<m+1;omega
       have hOL:¬((ti[(m:Int).toNat]?.getD default=true∧v≠0)∧ti[((m:Int) - 1).toNat]?.getD default=true∧u≠0):=fun h=>hO h.1;have hrs:=Cx (n:=wh.length) hlow (hownF hO);rw [hrs] at hbd;have hb0:(ci++tE (3*(wh.length:Int)) (2*(wh.length:Int)+((m:Int) - 1)) u).length≤1048576:=by
        simp only [kD,aB] at hbd;simp only [aB];omega
       refine aH 17 [1] ?_;refine kP 51 F9 uI ?_;refine aC 7 [] ?_;refine bX F9 (dS (α:=Bool) T.sl138 F9 F9 sX sW) ?_;refine qH F9 F9 ?_;refine bX F9 (fG 2 0 T.one4 F9 F9 sX sW F9 F9) ?_;refine aC 2 [] ?_;refine fR 58 F9 (Go.Sl.C8 _) ?_;apply bW 3 58 61 F9;intro hg1;refine aC 5 [] ?_;exact jB 3 0 F9 F9 F9 F9 F9;intro hg1;refine aC 3 [] ?_;exact jB 3 0 F9 F9 F9 F9 F9;refine aL 7 [] ?_;refine bX F9 (dS (α:=Bool) T.sl138 F9 F9 sX sW) ?_;refine bX F9 (fG 2 0 T.one4 F9 F9 sX sW F9 F9) ?_;refine bX F9 (dH F9) ?_;refine fR 66 F9 (Go.Sl.C8 _) ?_;apply bW 3 66 69 F9;intro hg1;refine aC 5 [] ?_;exact jB 3 0 F9 F9 F9 F9 F9;intro hg1;refine aC 3 [] ?_;exact jB 3 0 F9 F9 F9 F9 F9;refine aL 13 [1] ?_;refine eJ 0 F9 T.fn231 F9 (AV _ b _ _ _ sW) (tC ⟨F9,H2⟩) ?_;refine aC 3 [] ?_;refine eJ 0 F9 T.fn233 F9 (Ls _ b _ _ _ _ sW sW) (tC ⟨F9,H2⟩) ?_;refine bX F9 (dH F9) ?_;refine eO 0 F9 T.fn195 F9 (Gi _ b _ o dd ci q wa _ wc _ _ _ hoCi hcil) (tC ⟨F9,F9,H2⟩) fun v2 G2 Ho2 hle2 hp=>?_;obtain ⟨rfl,rfl,a2,d2,j2,ho2,rfl⟩:=hp;refine aL 8 [] ?_;refine oZ 82 F9 uI ?_;refine aL 24 [0,0,1] ?_;refine eJ 0 F9 T.fn233 F9 (Ls _ b _ _ _ _ sW sW) (tC ⟨F9,H2⟩) ?_;refine bX F9 (dH F9) ?_;refine eJ 0 F9 T.fn231 F9 (AV _ b _ _ _ sW) (tC ⟨F9,H2⟩) ?_;refine eO 0 F9 T.fn195 F9 (Gi _ b _ a2 d2 (ci++tE (3*(wh.length:Int)) (2*(wh.length:Int)+((m:Int) - 1)) u) j2 wa _ wc _ _ _ ho2 hb0) (tC ⟨F9,F9,H2⟩) fun v3 G3 Ho3 hle3 hp=>?_;obtain ⟨rfl,rfl,a3,d3,j3,ho3,rfl⟩:=hp;refine aL 8 [] ?_;refine oZ 127 F9 uI ?_;refine aC 3 [] ?_;refine bX F9 (dS (α:=Bool) T.sl138 F9 F9 sX sW) ?_;refine dJ (z:=_) 2 T.size4 F9 F9 F9 sX sW F9 fun ho4=>?_;refine aS 8 [] ?_;refine gJ 2 (Row 4 (ti.set m (false || true)) []) F9 Sk ?_;refine cE 13 F9 (show _=Value.int .i64 ((m:Int) - 1) from F9) ?_;refine cE 11 F9 (show _=Value.slice (some ⟨b1,0,none⟩) (ti.set m (false || true)).length (e+1) by rw [aG]) ?_;refine eX ((m,ti.set m (false || true),(ci++tE (3*(wh.length:Int)) (2*(wh.length:Int)+((m:Int) - 1)) u)++tE (2*(wh.length:Int)+(m:Int)) (3*(wh.length:Int)) 1,(a3,d3,j3))) ?_ ?_ F9 ⟨F9,F9,F9,F9,F9,F9,F9,F9,H2⟩ ⟨F9,F9,F9,H2⟩
       · refine ⟨by omega,by rw [aG];exact hti,?_,?_,hoN,ho3⟩
         · rw [←hS1,hrs]
         rw [←hS2,hrs];simp
       show m<m+1;omega
     have hOL:¬((ti[(m:Int).toNat]?.getD default=true∧v≠0)∧ti[((m:Int) - 1).toNat]?.getD default=true∧u≠0):=fun h=>hL h.2;have hlow:=hlowF (fun h=>hL ⟨by rw [hm1e];exact h.2.1,h.2.2⟩);by_cases hO:ti[(m:Int).toNat]?.getD default=true∧v≠0
     · have hrs:=Cx (n:=wh.length) hlow (hownT hO);rw [hrs] at hbd;refine aH 17 [1] ?_;refine kP 51 F9 uI ?_;refine aC 7 [] ?_;refine bX F9 (dS (α:=Bool) T.sl138 F9 F9 sX sW) ?_;refine qH F9 F9 ?_;refine bX F9 (fG 2 0 T.one4 F9 F9 sX sW F9 F9) ?_;refine aC 2 [] ?_;refine fR 58 F9 (Go.Sl.C8 _) ?_;apply bW 3 58 61 F9;intro hg1;refine aC 5 [] ?_;exact jB 3 0 F9 F9 F9 F9 F9;intro hg1;refine aC 3 [] ?_;exact jB 3 0 F9 F9 F9 F9 F9;refine aL 7 [] ?_;refine bX F9 (dS (α:=Bool) T.sl138 F9 F9 sX sW) ?_;refine bX F9 (fG 2 0 T.one4 F9 F9 sX sW F9 F9) ?_;refine bX F9 (dH F9) ?_;refine fR 66 F9 (Go.Sl.C8 _) ?_;apply bW 3 66 69 F9;intro hg1;refine aC 5 [] ?_;exact jB 3 0 F9 F9 F9 F9 F9;intro hg1;refine aC 3 [] ?_;exact jB 3 0 F9 F9 F9 F9 F9;refine aL 18 [0] ?_;refine kP 82 F9 uI ?_;refine aL 18 [0,1] ?_;refine eJ 0 F9 T.fn233 F9 (Ls _ b _ _ _ _ sW sW) (tC ⟨F9,H2⟩) ?_;refine aC 2 [] ?_;refine eJ 0 F9 T.fn233 F9 (Ls _ b _ _ _ _ sW sW) (tC ⟨F9,H2⟩) ?_;refine bX F9 (dH F9) ?_;refine eO 0 F9 T.fn195 F9 (Gi _ b _ o dd ci q wa _ wc _ _ _ hoCi hcil) (tC ⟨F9,F9,H2⟩) fun v2 G2 Ho2 hle2 hp=>?_;obtain ⟨rfl,rfl,a2,d2,j2,ho2,rfl⟩:=hp;refine aL 8 [] ?_;refine kP 127 F9 uI ?_;refine aC 2 [] ?_;refine bX F9 (dS (α:=Bool) T.sl138 F9 F9 sX sW) ?_;refine dJ (z:=_) 2 T.size4 F9 F9 F9 sX sW F9 fun ho3=>?_;refine aS 8 [] ?_;refine gJ 2 (Row 4 (ti.set m (true || false)) []) F9 Sk ?_;refine cE 13 F9 (show _=Value.int .i64 ((m:Int) - 1) from F9) ?_;refine cE 11 F9 (show _=Value.slice (some ⟨b1,0,none⟩) (ti.set m (true || false)).length (e+1) by rw [aG]) ?_;refine eX ((m,ti.set m (true || false),ci++tE (2*(wh.length:Int)+(m:Int)) (2*(wh.length:Int)+(m:Int)) v,(a2,d2,j2))) ?_ ?_ F9 ⟨F9,F9,F9,F9,F9,F9,F9,F9,H2⟩ ⟨F9,F9,F9,H2⟩
       · refine ⟨by omega,by rw [aG];exact hti,?_,?_,hoN,ho2⟩
         · rw [←hS1,hrs]
         rw [←hS2,hrs];simp
       show m<m+1;omega
     have hrs:=Cx (n:=wh.length) hlow (hownF hO);refine aH 17 [1] ?_;refine kP 51 F9 uI ?_;refine aC 7 [] ?_;refine bX F9 (dS (α:=Bool) T.sl138 F9 F9 sX sW) ?_;refine qH F9 F9 ?_;refine bX F9 (fG 2 0 T.one4 F9 F9 sX sW F9 F9) ?_;refine aC 2 [] ?_;refine fR 58 F9 (Go.Sl.C8 _) ?_;apply bW 3 58 61 F9;intro hg1;refine aC 5 [] ?_;exact jB 3 0 F9 F9 F9 F9 F9;intro hg1;refine aC 3 [] ?_;exact jB 3 0 F9 F9 F9 F9 F9;refine aL 7 [] ?_;refine bX F9 (dS (α:=Bool) T.sl138 F9 F9 sX sW) ?_;refine bX F9 (fG 2 0 T.one4 F9 F9 sX sW F9 F9) ?_;refine bX F9 (dH F9) ?_;refine fR 66 F9 (Go.Sl.C8 _) ?_;apply bW 3 66 69 F9;intro hg1;refine aC 5 [] ?_;exact jB 3 0 F9 F9 F9 F9 F9;intro hg1;refine aC 3 [] ?_;exact jB 3 0 F9 F9 F9 F9 F9;refine aL 18 [0] ?_;refine oZ 82 F9 uI ?_;refine aL 28 [0,0,0] ?_;refine oZ 127 F9 uI ?_;refine aC 3 [] ?_;refine bX F9 (dS (α:=Bool) T.sl138 F9 F9 sX sW) ?_;refine dJ (z:=_) 2 T.size4 F9 F9 F9 sX sW F9 fun ho2=>?_;refine aS 8 [] ?_;refine gJ 2 (Row 4 (ti.set m (false || false)) []) F9 Sk ?_;refine cE 13 F9 (show _=Value.int .i64 ((m:Int) - 1) from F9) ?_;refine cE 11 F9 (show _=Value.slice (some ⟨b1,0,none⟩) (ti.set m (false || false)).length (e+1) by rw [aG]) ?_;refine eX ((m,ti.set m (false || false),ci,(o,dd,q))) ?_ ?_ F9 ⟨F9,F9,F9,F9,F9,F9,F9,F9,H2⟩ ⟨F9,F9,F9,H2⟩
     · refine ⟨by omega,by rw [aG];exact hti,?_,?_,hoN,hoCi⟩
       · rw [←hS1,hrs]
       rw [←hS2,hrs];simp
     show m<m+1;omega
 have hde:d=e+1:=sW;subst hde;rw [iW] at hT1 hT2;have hT1:th=Th:=hT1;have hT2:cd=Tg:=by rw [←hT2];exact (bB _).symm
 subst hT1 hT2;refine bG 21 [0] ?_;refine cK zS (Ho:=[(0,some b,.cells #[.int .i64 wh.length,.slice o cd.length dd,.slice wa wh.length wc] 267),(1,o.map (·.block),Row 91 cd q),(2,some b1,Row 4 th [])]) F9 (.tmp F9) ⟨F9,F9,F9,H2⟩ ?_;exact ⟨F9,o,dd,q,th,cd,b1,F9,F9,by rw [hth],hoC,by rw [hth];exact hoT,F9⟩
def WP (n:Int) (p:R2) (e m:Nat):List Sl.Instr:=if m=e+1 then Jq n p e else Wg n p m
theorem AW (n:Int) (th:List Bool) {t:Nat} (h:t<th.length):Cj n (th.drop t) t=(if th[((t:Nat):Int).toNat]?.getD default=true then [(⟨3,n+t,n+t,2*n+t,0⟩:Sl.Instr)] else [])++Cj n (th.drop (t+1)) (t+1):=by
 rw [dQ h,aF,aA h];rfl
theorem ko (G:A3) (b:Nat) (ac:Option Addr) (cc:Nat) (code:List Sl.Instr) (j:List Value) (wa:Option Addr) (wc:Nat) (wh:List R2) (k:Int) (e:Nat) (ho:A4 ac cc code j) (hw:Arr G wa wh)
 (hwl:wh.length≤15) (hk:0≤k∧k<wh.length) (he1:1≤e) (he:e<wh.length) (hok:Nr (wh[k.toNat]?.getD default)) (hl:(code++xX wh.length wh k e).length≤1048576) :
 Does Tryz.prog 197 [.pointer (some ⟨b,0,none⟩),.int .i64 k,.int .i64 e] G [(0,some b,.cells #[.int .i64 wh.length,.slice ac code.length cc,.slice wa wh.length wc] 267),(1,ac.map (·.block),Row 91 code j)]
  (fun v G' Ho=>v=.tuple #[]∧G'=G∧∃ (a':Option Addr) (c':Nat) (j':List Value),A4 a' c' (code++xX wh.length wh k e) j'∧Ho=[(0,some b,.cells #[.int .i64 wh.length,.slice a' (code++xX wh.length wh k e).length c',.slice wa wh.length wc] 267),(1,a'.map (·.block),Row 91 (code++xX wh.length wh k e) j')]):=by
 have hl0:code.length≤1048576:=by rw [aB] at hl;omega
 obtain ⟨hnk,hzk⟩:=hok;have hnk2:=hnk;unfold near at hnk2;refine gM Tryz.func197 F9 Tryz.ntmps197 F9 fun w=>?_;refine aH 7 [0] ?_;refine bX F9 (iQ (α:=R2) T.sl22 F9 F9 sX sW) ?_;refine bX F9 (fY T.agg52 F9 (lJ sX sW) F9) ?_;refine aM 2 F9 T.zero52 fun b1=>?_;refine aZ 11 [2] ?_;generalize hp:wh[k.toNat]?.getD default=p at *;have hbI:xX wh.length wh k e=Jq wh.length p e++(zR wh.length (bezS p.a p.b) (bezT p.a p.b) k e++Cj wh.length (yC wh.length (bezS p.a p.b) (bezT p.a p.b) e) 0):=by unfold xX vE;rw [hp]
 rw [hbI] at hl;have hlA:(code++Jq wh.length p e).length≤1048576:=by rw [←aR,aB] at hl;omega
 refine iP 7 F9 (show _=Value.int .i64 (((e+1:Nat):Int) - 1) by congr 1;omega) ?_;refine fX (ι:=Nat×List Sl.Instr×(Option Addr×Nat×List Value)) (fun (m,cd,(o,d,q))=>([(7,.int .i64 ((m:Int) - 1)),(1,.int .i64 k),(6,Go.Value.pointer (Option.some (Go.Addr.mk b1 0 Option.none))),(0,Go.Value.pointer (Option.some (Go.Addr.mk b 0 Option.none))),(2,Go.Value.int Go.IntKind.i64 (↑e:Int))],[(0,some b,.cells #[.int .i64 wh.length,.slice o cd.length d,.slice wa wh.length wc] 267),(1,o.map (·.block),Row 91 cd q),(2,Option.some b1,Go.Obj.cells (List.toArray (Go.Sl.A2.enc p)) 52)])) (fun (m,cd,(o,d,q))=>m≤e+1∧cd++WP wh.length p e m=code++Jq wh.length p e∧A4 o d cd q) (fun (m,cd,(o,d,q))=>m) ((e+1,code,(ac,cc,j))) (⟨aI _,by unfold WP;rw [aE rfl],ho⟩) ⟨F9,F9,F9,F9,F9,H2⟩ ⟨F9,F9,F9,H2⟩ fun ⟨m,cd,(o,d,q)⟩=>fun hk=>?_;obtain ⟨hm1,hm2,hm3⟩:=hk;have hcl:cd.length≤1048576:=by rw [←hm2,aB] at hlA;omega
 rcases gK m with hm0 | hm0
 · have hm2:cd=code++Jq wh.length p e:=by
    rw [←hm2];unfold WP;rw [aD (by omega),hm0];exact (bB _).symm
   have hl1:(cd++zR wh.length (bezS (wh[k.toNat]?.getD default).a (wh[k.toNat]?.getD default).b) (bezT (wh[k.toNat]?.getD default).a (wh[k.toNat]?.getD default).b) k e).length≤1048576:=by
    rw [hp,hm2,aB,aB];rw [aB,aB,aB] at hl;omega
   refine aH 18 [0] ?_;refine eO 0 F9 T.fn232 F9 (kn _ b o d cd q wa wc wh k e hm3 sX hwl hk he (by rw [hp];exact ⟨hnk,hzk⟩) hl1) (tC ⟨F9,F9,H2⟩) fun v1 G1 Ho1 hle1 hp=>?_;obtain ⟨rfl,ra1,rd1,rj1,th1,rc1,tb1,hth1,hrc1,rfl,hro1,hto1,rfl⟩:=hp;refine aZ 5 [] ?_;rw [hp] at hth1 hrc1;rw [hm2] at hrc1;have hthl:th1.length=e+1:=by rw [hth1,zW]
   rw [←aR,←aR,←hrc1,←hth1] at hl;refine fX (ι:=Nat×List Sl.Instr×(Option Addr×Nat×List Value)) (fun (t,ce,(o,d,q))=>([(76,.int .i64 (t:Int)),(75,Go.Value.int Go.IntKind.i64 (↑(List.length th1):Int)),(74,Go.Value.slice (Option.some (Go.Addr.mk tb1 0 Option.none)) (List.length th1) (List.length th1)),(0,Go.Value.pointer (Option.some (Go.Addr.mk b 0 Option.none)))],[(0,some b,.cells #[.int .i64 wh.length,.slice o ce.length d,.slice wa wh.length wc] 267),(1,o.map (·.block),Row 91 ce q),(2,Option.some tb1,Go.Sl.Row (α:=Bool) 4 (th1) ([]))])) (fun (t,ce,(o,d,q))=>t≤th1.length∧ce++Cj wh.length (th1.drop t) t=rc1++Cj wh.length th1 0∧A4 o d ce q) (fun (t,ce,(o,d,q))=>th1.length - t) ((0,rc1,(ra1,rd1,rj1))) (⟨aN _,F9,hro1⟩) ⟨F9,F9,F9,F9,H2⟩ ⟨F9,F9,F9,H2⟩ fun ⟨t,ce,(o,d,q)⟩=>fun hk=>?_;obtain ⟨ht1,ht2,ht3⟩:=hk;have hel:ce.length≤1048576:=by rw [←ht2,aB] at hl;omega
   rcases aK t th1.length with hte | hte
   · rw [AW _ _ hte] at ht2;refine aH 14 [1] ?_;refine bX F9 (dS (α:=Bool) T.sl138 F9 F9 sX sW) ?_;refine bX F9 (fG 2 0 T.one4 F9 F9 sX sW F9 F9) ?_;refine aZ 9 [] ?_;refine lN F9 (fun hc1=>?_) fun hc1=>?_;refine aH 4 [] ?_;refine eJ 0 F9 T.fn196 F9 (Lr _ b _ _ _ _ sW sW) (tC ⟨F9,H2⟩) ?_;refine aC 2 [] ?_;refine eJ 0 F9 T.fn196 F9 (Lr _ b _ _ _ _ sW sW) (tC ⟨F9,H2⟩) ?_;refine aC 2 [] ?_;refine eJ 0 F9 T.fn233 F9 (Ls _ b _ _ _ _ sW sW) (tC ⟨F9,H2⟩) ?_;refine eO 0 F9 T.fn228 F9 (Sg _ b _ o d ce q wa _ wc _ _ _ _ _ ht3 hel) (tC ⟨F9,F9,H2⟩) fun v2 G2 Ho2 hle2 hp=>?_;obtain ⟨rfl,rfl,a2,d2,j2,ho2,rfl⟩:=hp;refine aS 7 [] ?_;rotate_left;refine bG 7 [] ?_;rotate_left
     · rw [aE hc1] at ht2;refine cE 76 F9 (show _=Value.int .i64 ((t+1:Nat):Int) from F9) ?_;refine eX ((t+1,_,(a2,d2,j2))) ?_ ?_ F9 ⟨F9,F9,F9,F9,H2⟩ ⟨F9,F9,F9,H2⟩
       · refine ⟨hte,?_,ho2⟩;rw [←ht2];simp only [aR]
       show th1.length - (t+1)<th1.length - t;omega
     rw [aD (by rw [hc1];decide),gA] at ht2;refine cE 76 F9 (show _=Value.int .i64 ((t+1:Nat):Int) from F9) ?_;refine eX ((t+1,ce,(o,d,q))) ?_ ?_ F9 ⟨F9,F9,F9,F9,H2⟩ ⟨F9,F9,F9,H2⟩
     · exact ⟨hte,ht2,ht3⟩
     show th1.length - (t+1)<th1.length - t;omega
   have hte:t=th1.length:=sW;have ht2:ce=rc1++Cj wh.length th1 0:=by rw [←ht2,hte,nX];exact (bB _).symm
   refine bG 11 [0] ?_;have hce:ce=code++xX wh.length wh k e:=by rw [ht2,hrc1,hbI,hth1];simp only [aR]
   rw [hce] at ht3;refine kH zS (Ho:=[(0,some b,.cells #[.int .i64 wh.length,.slice o (code++xX wh.length wh k e).length d,.slice wa wh.length wc] 267),(1,o.map (·.block),Row 91 (code++xX wh.length wh k e) q)]) F9 ⟨by rw [←hce];rfl,by rw [←hce];rfl,H2⟩ ?_;exact ⟨F9,F9,o,d,q,ht3,F9⟩
 rcases aK e m with hme | hme
 · have hme:m=e+1:=sW;have hm2:cd++(tE (wh.length+e) (wh.length+((e:Int) - 1)) (-p.b)++Wg wh.length p e)=code++Jq wh.length p e:=by
    rw [←hm2];unfold WP;rw [aE hme];rfl
   refine iP 7 F9 (show _=Value.int .i64 (e:Int) by congr 1;omega) ?_;refine bL 22 [1,1] ?_;refine fL [2,1,0] [(1,11),(0,11)] T.mixed F9 ?_;refine fE 0 [] sZ F9 F9 (dH F9) ?_;refine fE 1 [] sZ F9 F9 (dH F9) ?_;refine fE 2 [] sZ F9 F9 (dH F9) ?_;refine fE 4 [] sZ F9 F9 (dH F9) ?_;refine fE 5 [] sZ F9 F9 (dH F9) ?_;refine fE 6 [] sZ F9 F9 (Qy.sub F9 F9 sW) ?_;refine fE 8 [] sZ F9 F9 (gE T.fa52_1 F9) ?_;refine fE 9 [2] sZ F9 F9 (jN 2 T.one3 F9 F9 F9) ?_;refine fE 10 [] sZ F9 F9 (rD F9 sW) ?_;refine jK 3 ⟨F9,F9,F9,H2⟩ wF sZ F9 ?_;refine eJ 0 F9 T.fn196 F9 (Lr _ b _ _ _ _ sW sW) (tC ⟨F9,H2⟩) ?_;refine aT ?_;refine jK 7 ⟨F9,F9,F9,H2⟩ wF sZ F9 ?_;refine eJ 0 F9 T.fn196 F9 (Lr _ b _ _ _ _ sW sW) (tC ⟨F9,H2⟩) ?_;refine aT ?_;refine jK 11 ⟨F9,F9,F9,H2⟩ wF sZ F9 ?_;refine eO 0 F9 T.fn195 F9 (Gi _ b _ o d cd q wa _ wc _ _ _ hm3 hcl) (tC ⟨F9,F9,H2⟩) fun v1 G1 Ho1 hle1 hp=>?_;obtain ⟨rfl,rfl,a1,d1,j1,ho1,rfl⟩:=hp;refine aT ?_;refine iF sZ ⟨F9,H2⟩ wF ?_;refine dO 10 [] ?_;refine cE 7 F9 (show _=Value.int .i64 ((e:Int) - 1) from F9) ?_;refine eX ((e,_,(a1,d1,j1))) ?_ ?_ F9 ⟨F9,F9,F9,F9,F9,H2⟩ ⟨F9,F9,F9,H2⟩
   · refine ⟨by omega,?_,ho1⟩;rw [←hm2];unfold WP;rw [aD (by omega),aR]
   show e<m;omega
 obtain ⟨i,rfl⟩:∃ i,m=i+1:=⟨m - 1,by omega⟩
 refine iP 7 F9 (show _=Value.int .i64 (i:Int) by congr 1;omega) ?_;have hm2:cd++Wg wh.length p (i+1)=code++Jq wh.length p e:=by rw [←hm2];unfold WP;rw [aD (by omega)]
 unfold Wg at hm2;rcases gK i with hi0 | hi0
 · rw [aD (by omega),aD (by omega)] at hm2;refine bL 34 [1,0,0] ?_;refine fL [2,1,0] [(1,9),(0,9)] T.mixed F9 ?_;refine fE 0 [] sZ F9 F9 (dH F9) ?_;refine fE 1 [] sZ F9 F9 (dH F9) ?_;refine fE 2 [] sZ F9 F9 (dH F9) ?_;refine fE 4 [] sZ F9 F9 (dH F9) ?_;refine fE 5 [] sZ F9 F9 (dH F9) ?_;refine fE 7 [] sZ F9 F9 (gE T.fa52_0 F9) ?_;refine fE 8 [2] sZ F9 F9 (jN 2 T.one3 F9 F9 F9) ?_;refine jK 3 ⟨F9,F9,F9,H2⟩ wF sZ F9 ?_;refine eJ 0 F9 T.fn196 F9 (Lr _ b _ _ _ _ sW sW) (tC ⟨F9,H2⟩) ?_;refine aT ?_;refine jK 6 ⟨F9,F9,F9,H2⟩ wF sZ F9 ?_;refine eJ 0 F9 T.fn196 F9 (Lr _ b _ _ _ _ sW sW) (tC ⟨F9,H2⟩) ?_;refine aT ?_;refine jK 9 ⟨F9,F9,F9,H2⟩ wF sZ F9 ?_;refine eO 0 F9 T.fn195 F9 (Gi _ b _ o d cd q wa _ wc _ _ _ hm3 hcl) (tC ⟨F9,F9,H2⟩) fun v1 G1 Ho1 hle1 hp=>?_;obtain ⟨rfl,rfl,a1,d1,j1,ho1,rfl⟩:=hp;refine aT ?_;refine iF sZ ⟨F9,H2⟩ wF ?_;refine dO 16 [0] ?_;refine cE 7 F9 (show _=Value.int .i64 ((i:Int) - 1) from F9) ?_;refine eX ((i,_,(a1,d1,j1))) ?_ ?_ F9 ⟨F9,F9,F9,F9,F9,H2⟩ ⟨F9,F9,F9,H2⟩
   · refine ⟨by omega,?_,ho1⟩;rw [←hm2];unfold WP;rw [aD (by omega)];simp only [aR,gA]
   show i<i+1;omega
 rw [aE hi0,aE hi0] at hm2;have hb1:((cd++tE (3*(wh.length:Int)) ((wh.length:Int)+((i:Int) - 1)) p.b)++tE ((wh.length:Int)+(i:Int)) ((wh.length:Int)+(i:Int)) p.a).length≤1048576:=by
  rw [←hm2] at hlA;simp only [aB] at hlA;simp only [aB];omega
 have hb0:(cd++tE (3*(wh.length:Int)) ((wh.length:Int)+((i:Int) - 1)) p.b).length≤1048576:=by rw [aB] at hb1;omega
 refine bL 31 [1,0,1] ?_;refine fL [2,1,0] [(1,9),(0,9)] T.mixed F9 ?_;refine fE 0 [] sZ F9 F9 (dH F9) ?_;refine fE 1 [] sZ F9 F9 (dH F9) ?_;refine fE 3 [] sZ F9 F9 (dH F9) ?_;refine fE 4 [] sZ F9 F9 (dH F9) ?_;refine fE 5 [] sZ F9 F9 (Qy.sub F9 F9 sW) ?_;refine fE 7 [] sZ F9 F9 (gE T.fa52_1 F9) ?_;refine fE 8 [2] sZ F9 F9 (jN 2 T.one3 F9 F9 F9) ?_;refine jK 2 ⟨F9,F9,F9,H2⟩ wF sZ F9 ?_;refine eJ 0 F9 T.fn231 F9 (AV _ b _ _ _ sW) (tC ⟨F9,H2⟩) ?_;refine aT ?_;refine jK 6 ⟨F9,F9,F9,H2⟩ wF sZ F9 ?_;refine eJ 0 F9 T.fn196 F9 (Lr _ b _ _ _ _ sW sW) (tC ⟨F9,H2⟩) ?_;refine aT ?_;refine jK 9 ⟨F9,F9,F9,H2⟩ wF sZ F9 ?_;refine eO 0 F9 T.fn195 F9 (Gi _ b _ o d cd q wa _ wc _ _ _ hm3 hcl) (tC ⟨F9,F9,H2⟩) fun v1 G1 Ho1 hle1 hp=>?_;obtain ⟨rfl,rfl,a1,d1,j1,ho1,rfl⟩:=hp;refine aT ?_;refine iF sZ ⟨F9,H2⟩ wF ?_;refine lW 2 [] ?_;refine fL [2,1,0] [(1,9),(0,9)] T.mixed F9 ?_;refine fE 0 [] sZ F9 F9 (dH F9) ?_;refine fE 1 [] sZ F9 F9 (dH F9) ?_;refine fE 2 [] sZ F9 F9 (dH F9) ?_;refine fE 4 [] sZ F9 F9 (dH F9) ?_;refine fE 5 [] sZ F9 F9 (dH F9) ?_;refine fE 7 [] sZ F9 F9 (gE T.fa52_0 F9) ?_;refine fE 8 [2] sZ F9 F9 (jN 2 T.one3 F9 F9 F9) ?_;refine jK 3 ⟨F9,F9,F9,H2⟩ wF sZ F9 ?_;refine eJ 0 F9 T.fn196 F9 (Lr _ b _ _ _ _ sW sW) (tC ⟨F9,H2⟩) ?_;refine aT ?_;refine jK 6 ⟨F9,F9,F9,H2⟩ wF sZ F9 ?_;refine eJ 0 F9 T.fn196 F9 (Lr _ b _ _ _ _ sW sW) (tC ⟨F9,H2⟩) ?_;refine aT ?_;refine jK 9 ⟨F9,F9,F9,H2⟩ wF sZ F9 ?_;refine eO 0 F9 T.fn195 F9 (Gi _ b _ a1 d1 (cd++tE (3*(wh.length:Int)) ((wh.length:Int)+((i:Int) - 1)) p.b) j1 wa _ wc _ _ _ ho1 hb0) (tC ⟨F9,F9,H2⟩) fun v2 G2 Ho2 hle2 hp=>?_;obtain ⟨rfl,rfl,a2,d2,j2,ho2,rfl⟩:=hp;refine aT ?_;refine iF sZ ⟨F9,H2⟩ wF ?_;refine lK 12 [1] ?_;refine eJ 0 F9 T.fn196 F9 (Lr _ b _ _ _ _ sW sW) (tC ⟨F9,H2⟩) ?_;refine aC 2 [] ?_;refine eJ 0 F9 T.fn196 F9 (Lr _ b _ _ _ _ sW sW) (tC ⟨F9,H2⟩) ?_;refine bX F9 (dH F9) ?_;refine eJ 0 F9 T.fn231 F9 (AV _ b _ _ _ sW) (tC ⟨F9,H2⟩) ?_;refine eO 0 F9 T.fn228 F9 (Sg _ b _ a2 d2 ((cd++tE (3*(wh.length:Int)) ((wh.length:Int)+((i:Int) - 1)) p.b)++tE ((wh.length:Int)+(i:Int)) ((wh.length:Int)+(i:Int)) p.a) j2 wa _ wc _ _ _ _ _ ho2 hb1) (tC ⟨F9,F9,H2⟩) fun v3 G3 Ho3 hle3 hp=>?_;obtain ⟨rfl,rfl,a3,d3,j3,ho3,rfl⟩:=hp;refine aS 8 [] ?_;refine cE 7 F9 (show _=Value.int .i64 ((i:Int) - 1) from F9) ?_;refine eX ((i,_,(a3,d3,j3))) ?_ ?_ F9 ⟨F9,F9,F9,F9,F9,H2⟩ ⟨F9,F9,F9,H2⟩
 · refine ⟨by omega,?_,ho3⟩;rw [←hm2];unfold WP;rw [aD (by omega)];simp only [aR]
 show i<i+1;omega
theorem Qn (n:Int) (wh:List R2):∀ (o:List Int) (t:Nat),(vT n wh (o.drop t)).length≤(vT n wh o).length
 | [],t=>by rw [List.drop_nil];exact aI _
 | k :: o,0=>aI _
 | [k],t+1=>by rw [oT,List.drop_nil];exact aN _
 | k :: i :: left,t+1=>by
   rw [oT];refine bO (Qn n wh (i :: left) t) ?_;show _≤(vT n wh (i :: left)++_).length;rw [aB];omega
theorem Wn (n:Int) (wh:List R2) (k:Int) {rest:List Int} (h:1≤rest.length):vT n wh (k :: rest)=vT n wh rest++xX n wh k rest.length:=by
 cases rest with
 | nil=>simp at h
 | cons i left=>rfl
theorem PR {α:Type} [A2 α] {G:A3} {a:Option Addr} {c:Nat} {l:List α} (h:Arr G a l) (n:Nat) (hn:n≤l.length) (hc:l.length≤c):Arr G (C6 a c n (A2.sz α)) (l.drop n):=by
 have h1:=F5.sub h hn hc;unfold Arr;have e:tV l=tV (l.take n)++tV (l.drop n):=by rw [←wM,fU]
 have e2:(tV l).drop (n*A2.sz α)=tV (l.drop n):=by
  rw [e,List.drop_left' (by rw [tP,bH,cY hn])]
 rw [←e2,gP];exact h1
def Fc (n t:Nat):List Int:=(List.range t).map fun j:Nat=>(n:Int)+j
theorem JX (n t:Nat):(Fc n t).length=t:=by unfold Fc;rw [aP,cB]
theorem Ht (n t:Nat):Fc n (t+1)=Fc n t++[(n:Int)+t]:=by unfold Fc;rw [oM,iG];rfl
theorem dh (G:A3) (n b:Nat) (ac:Option Addr) (cc:Nat) (code:List Sl.Instr) (j:List Value) (wa:Option Addr) (wc:Nat) (wh:List R2) (k:Int) (la:Option Addr) (lc m:Nat) (left:List Int) (e:Nat) (hn:wh.length=n) (hm:left.length=m) (ho:A4 ac cc code j) (hw:Arr G wa wh) (hla:Arr G la left)
 (hwl:n≤15) (hk:0≤k∧k<n) (hll:m≤15) (hleft:∀ i∈left,0≤i∧i<n) (he:e≤14) (hok:∀ i,i<n→Nr (wh[i]?.getD default)) (hl:(code++yX n wh k e left).length≤1048576) :
 Does Tryz.prog 194 [.pointer (some ⟨b,0,none⟩),.int .i64 k,.slice la m lc,.int .i64 e] G [(0,some b,.cells #[.int .i64 n,.slice ac code.length cc,.slice wa n wc] 267),(1,ac.map (·.block),Row 91 code j)]
  (fun v G' Ho=>v=.tuple #[]∧G'=G∧∃ (a':Option Addr) (c':Nat) (j':List Value),A4 a' c' (code++yX n wh k e left) j'∧Ho=[(0,some b,.cells #[.int .i64 n,.slice a' (code++yX n wh k e left).length c',.slice wa n wc] 267),(1,a'.map (·.block),Row 91 (code++yX n wh k e left) j')]):=by
 subst hn hm;exact km G b ac cc code j wa wc wh k la lc left e ho hw hla hwl hk hll (fun i hi=>hleft _ (by rw [aA hi];exact bZ _)) he hok hl
theorem di (G:A3) (n b:Nat) (ac:Option Addr) (cc:Nat) (code:List Sl.Instr) (j:List Value) (wa:Option Addr) (wc:Nat) (wh:List R2) (k:Int) (e:Nat) (hn:wh.length=n) (ho:A4 ac cc code j) (hw:Arr G wa wh)
 (hwl:n≤15) (hk:0≤k∧k<n) (he1:1≤e) (he:e<n) (hok:Nr (wh[k.toNat]?.getD default)) (hl:(code++xX n wh k e).length≤1048576) :
 Does Tryz.prog 197 [.pointer (some ⟨b,0,none⟩),.int .i64 k,.int .i64 e] G [(0,some b,.cells #[.int .i64 n,.slice ac code.length cc,.slice wa n wc] 267),(1,ac.map (·.block),Row 91 code j)]
  (fun v G' Ho=>v=.tuple #[]∧G'=G∧∃ (a':Option Addr) (c':Nat) (j':List Value),A4 a' c' (code++xX n wh k e) j'∧Ho=[(0,some b,.cells #[.int .i64 n,.slice a' (code++xX n wh k e).length c',.slice wa n wc] 267),(1,a'.map (·.block),Row 91 (code++xX n wh k e) j')]):=by
 subst hn;exact ko G b ac cc code j wa wc wh k e ho hw hwl hk he1 he hok hl
theorem kp (G:A3) (a:Option Addr) (c:Nat) (l:List R2) (oa:Option Addr) (oc:Nat) (o:List Int) (ha:Arr G a l) (hoa:Arr G oa o) (hac:l.length≤c) (hocc:o.length≤oc) (hR:uG l) (hO:Bj o l.length) :
 Does Tryz.prog 147 [.slice a l.length c,.slice oa o.length oc] G [] (fun v G' Ho=>∃ (bc bo:Option Addr) (dc do_:Nat) (j1 j2:List Value),v=.agg #[.int .i64 (madeP l o).ins,.int .i64 (madeP l o).regs,.slice bc (madeP l o).code.length dc,.slice bo (madeP l o).outs.length do_]∧A4 bc dc (madeP l o).code j1∧A4 bo do_ (madeP l o).outs j2∧
  Ho=[(0,bc.map (·.block),Row 91 (madeP l o).code j1),(1,bo.map (·.block),Row 3 (madeP l o).outs j2)]):=by
 have hgood:=Ln hR hO;have hok:∀ i,i<l.length→Nr (l[i]?.getD default):=hR.2.2.1;have hl1:=hR.1;have hl15:=hR.2.1;obtain ⟨o1,o2,o3⟩:=hO;refine gM Tryz.func147 F9 Tryz.ntmps147 F9 fun w=>?_;refine aH 2 [] ?_;refine aM 0 F9 T.zero26 fun b1=>?_;refine aL 12 [] ?_;refine bX F9 (bP (cs:=[_,_,_]) T.st267 F9 F9 F9) ?_;refine oJ 1 F9 F9 F9 fun b2=>?_;refine aZ 12 [] ?_;refine eF 2 (Row 91 ([]:List Sl.Instr) []) (eF 3 (Row 52 ([]:List R2) []) ?_);generalize hN:Ao (l.length - 1) l 0=N at *;have hNl:N.length≤16384:=by
  have:=hgood.len;unfold Js at this;rw [hN,aB] at this;omega
 refine fX (ι:=Nat×List Sl.Instr×(Option Addr×Nat×List Value)×List R2×(Option Addr×Nat×List Value)) (fun (k,cd,(u,d,q),wh,(wa,wd,wq))=>([(25,.int .i64 (k:Int)),(5,.int .i64 l.length),(6,.pointer (some ⟨b2,0,none⟩)),(1,.slice oa o.length oc),(24,Go.Value.int Go.IntKind.i64 (↑(List.length l):Int)),(23,Go.Value.slice a (List.length l) c),(4,Go.Value.pointer (Option.some (Go.Addr.mk b1 0 Option.none)))],[(1,some b2,.cells #[.int .i64 l.length,.slice u cd.length d,.slice wa wh.length wd] 267),(2,u.map (·.block),Row 91 cd q),(3,wa.map (·.block),Row 52 wh wq),(0,Option.some b1,Go.Obj.cells #[Go.Value.int Go.IntKind.i64 0,Go.Value.int Go.IntKind.i64 0,Go.Value.slice Option.none 0 0,Go.Value.slice Option.none 0 0] 26)])) (fun (k,cd,(u,d,q),wh,(wa,wd,wq))=>k≤l.length∧cd++Ao (l.length - 1) (l.drop k) k=N∧A4 u d cd q∧wh=(l.take k).map tS∧A4 wa wd wh wq) (fun (k,cd,(u,d,q),wh,(wa,wd,wq))=>l.length - k) ((0,[],(none,0,[]),[],(none,0,[]))) (⟨aN _,hN,eG,F9,eG⟩) ⟨F9,F9,F9,F9,F9,F9,F9,H2⟩ ⟨F9,F9,F9,F9,H2⟩ fun ⟨k,cd,(u,d,q),wh,(wa,wd,wq)⟩=>fun hk=>?_;obtain ⟨hk1,hk2,hk3,hk4,hk5⟩:=hk;have hcl:cd.length≤16384:=by rw [←hk2,aB] at hNl;omega
 rcases aK k l.length with hkl | hkl
 · obtain ⟨hnk,hzk⟩:=hok k hkl;have hgn:=Ey ⟨hnk,hzk⟩;have hdr:l.drop k=l[(k:Int).toNat]?.getD default :: l.drop (k+1):=by
    rw [dQ hkl,aF,aA hkl];rfl
   rw [hdr] at hk2;have hk2:cd++((List.replicate (l.length - 1) (xW (k:Int) (Int.gcd (l[(k:Int).toNat]?.getD default).a (l[(k:Int).toNat]?.getD default).b))).flatten++Ao (l.length - 1) (l.drop (k+1)) (k+1))=N:=hk2;refine aH 14 [1] ?_;refine bX F9 (iQ (α:=R2) T.sl22 F9 F9 sX sW) ?_;refine bX F9 (fY T.agg52 F9 (lJ sX sW) F9) ?_;refine aM 4 F9 T.zero52 fun b3=>?_;refine aL 7 [4,4] ?_;refine mW F9 T.fn192 F9 (YP _ _ _ sX sX) ?_;refine aZ 20 [] ?_;generalize hpp:l[((k:Nat):Int).toNat]?.getD default=p at *;have hnk:near p.a p.b:=by rw [←hpp];exact hnk
   have hzk:¬(p.a=0∧p.b=0):=by rw [←hpp];exact hzk
   have hgn:1≤Int.gcd p.a p.b∧Int.gcd p.a p.b≤16:=by rw [←hpp];exact hgn
   refine fX (ι:=Nat×List Sl.Instr×(Option Addr×Nat×List Value)) (fun (i,ce,(u,d,q))=>([(39,.int .i64 (i:Int)),(25,.int .i64 (k:Int)),(5,.int .i64 l.length),(6,.pointer (some ⟨b2,0,none⟩)),(1,.slice oa o.length oc),(24,.int .i64 l.length),(23,.slice a l.length c),(4,.pointer (some ⟨b1,0,none⟩)),(7,.int .i64 (k:Int)),(8,.pointer (some ⟨b3,0,none⟩)),(9,.int .i64 (Int.gcd p.a p.b)),(38,Go.Value.int Go.IntKind.i64 ((↑(List.length l):Int) - 1))],[(1,some b2,.cells #[.int .i64 l.length,.slice u ce.length d,.slice wa wh.length wd] 267),(2,u.map (·.block),Row 91 ce q),(4,Option.some b3,Go.Obj.cells (List.toArray (Go.Sl.A2.enc p)) 52),(3,Option.map (fun x=>Go.Addr.block x) wa,Go.Sl.Row (α:=Go.Sl.R2) 52 (wh) (wq)),(0,Option.some b1,Go.Obj.cells #[Go.Value.int Go.IntKind.i64 0,Go.Value.int Go.IntKind.i64 0,Go.Value.slice Option.none 0 0,Go.Value.slice Option.none 0 0] 26)])) (fun (i,ce,(u,d,q))=>i≤l.length - 1∧ce++((List.replicate (l.length - 1 - i) (xW (k:Int) (Int.gcd p.a p.b))).flatten++Ao (l.length - 1) (l.drop (k+1)) (k+1))=N∧A4 u d ce q) (fun (i,ce,(u,d,q))=>l.length - 1 - i) ((0,cd,(u,d,q))) (⟨aN _,hk2,hk3⟩) ⟨F9,F9,F9,F9,F9,F9,F9,F9,F9,F9,F9,F9,H2⟩ ⟨F9,F9,F9,F9,F9,H2⟩ fun ⟨i,ce,(u,d,q)⟩=>fun hk=>?_;obtain ⟨hi1,hi2,hi3⟩:=hk;have hel:ce.length≤16384:=by rw [←hi2,aB] at hNl;omega
   rcases aK i (l.length - 1) with hil | hil
   · have er:l.length - 1 - i=(l.length - 1 - (i+1))+1:=sW;rw [er,oR,sF] at hi2;refine aH 15 [1] ?_;refine eO 1 F9 T.fn193 F9 (YM _ b2 _ u d ce q wa _ wd _ _ hi3 sW) (tC ⟨F9,F9,H2⟩) fun v1 G1 Ho1 hle1 hp=>?_;obtain ⟨rfl,rfl,a1,d1,j1,ho1,rfl⟩:=hp;refine aS 7 [] ?_;refine cE 39 F9 (show _=Value.int .i64 ((i+1:Nat):Int) from F9) ?_;refine eX ((i+1,_,(a1,d1,j1))) ?_ ?_ F9 ⟨F9,F9,F9,F9,F9,F9,F9,F9,F9,F9,F9,F9,H2⟩ ⟨F9,F9,F9,F9,F9,H2⟩
     · refine ⟨hil,?_,ho1⟩;rw [←hi2];simp only [aR]
     show l.length - 1 - (i+1)<l.length - 1 - i;omega
   have hil:i=l.length - 1:=sW;have hi2:ce++Ao (l.length - 1) (l.drop (k+1)) (k+1)=N:=by rw [←hi2,hil,iW];rfl
   have hwl:wh.length=k:=by rw [hk4,aP,bH];omega
   have q1:=xJ p.a (Int.gcd p.a p.b);have q2:=xJ p.b (Int.gcd p.a p.b);have hnk2:=hnk;unfold near at hnk2;refine bL 12 [0] ?_;refine fL [0,3,4,2,1] [(1,18),(2,15),(3,15)] T.mixed F9 ?_;refine fE 0 [] sZ F9 F9 (dH F9) ?_;refine fE 1 [] sZ F9 F9 (dH F9) ?_;refine fE 2 [] sZ F9 F9 (Qy.nilCheck F9) ?_;refine fE 3 [] sZ F9 F9 (gE T.fa267_2 F9) ?_;refine fE 4 [1] sZ F9 F9 (jN 1 T.one22 F9 F9 F9) ?_;refine fE 5 [] sZ F9 F9 (gE T.fa52_0 F9) ?_;refine fE 6 [4] sZ F9 F9 (jN 4 T.one3 F9 F9 F9) ?_;refine fE 7 [] sZ F9 F9 (dH F9) ?_;refine fE 8 [] sZ F9 F9 (oK F9 F9 sW sW) ?_;refine fE 9 [] sZ F9 F9 (gE T.fa52_1 F9) ?_;refine fE 10 [4] sZ F9 F9 (jN 4 T.one3 F9 F9 F9) ?_;refine fE 11 [] sZ F9 F9 (dH F9) ?_;refine fE 12 [] sZ F9 F9 (oK F9 F9 sW sW) ?_;refine fE 13 [] sZ F9 F9 (bP (cs:=[_,_]) T.st52 F9 F9 F9) ?_;refine jK 14 ⟨F9,F9,F9,F9,F9,H2⟩ wF sZ F9 ?_;refine cC (α:=R2) 5 [⟨Int.tdiv (Go.Sl.R2.a p) (↑(Int.gcd (Go.Sl.R2.a p) (Go.Sl.R2.b p)):Int),Int.tdiv (Go.Sl.R2.b p) (↑(Int.gcd (Go.Sl.R2.a p) (Go.Sl.R2.b p)):Int)⟩] F9 T.sl22 T.el52 F9 F9 F9 F9 F9 fun b4=>?_;refine aT ?_;refine jK 15 ⟨F9,F9,F9,F9,F9,H2⟩ wF sZ F9 ?_;refine cP (α:=R2) 3 F9 T.sl22 T.el52 F9 F9 F9 vU (cQ 5 F9) tT tT fun a1 c1 junk1 ho1=>?_;refine aT ?_;refine fE 16 [] sZ F9 F9 (Qy.nilCheck F9) ?_;refine fE 17 [] sZ F9 F9 (gE T.fa267_2 F9) ?_;refine jK 18 ⟨F9,F9,F9,H2⟩ wF sZ F9 ?_;refine Wl.store 1 T.one22 F9 F9 F9 F9 F9 ?_;refine aT ?_;refine iF sZ ⟨F9,F9,H2⟩ wF ?_;refine dO 6 [] ?_;refine cE 25 F9 (show _=Value.int .i64 ((k+1:Nat):Int) from F9) ?_;refine eX ((k+1,ce,(u,d,q),wh++[⟨p.a.tdiv (Int.gcd p.a p.b),p.b.tdiv (Int.gcd p.a p.b)⟩],(a1,c1,junk1))) ?_ ?_ F9 ⟨F9,F9,F9,F9,F9,F9,F9,H2⟩ ⟨F9,F9,F9,F9,H2⟩
   · refine ⟨hkl,hi2,hi3,?_,ho1⟩;rw [hk4,cG,iG,aA hkl];rw [aF,aA hkl] at hpp;have hpp:l[k]=p:=hpp;rw [hpp];rfl
   show l.length - (k+1)<l.length - k;omega
 have hkl:k=l.length:=sW;subst hkl;rw [nX] at hk2;have hk2:cd=N:=by rw [←hk2];exact (bB _).symm
 rw [bD] at hk4;subst hk4;have hwl:(l.map tS).length=l.length:=aP _;have hwok:∀ i,i<(l.map tS).length→Nr ((l.map tS)[i]?.getD default):=fun i hi=>by
  rw [hwl] at hi;rw [bK];have:=hok i hi;rw [aA hi] at this ⊢;exact (xL this).2.2.2
 refine qL 3 F9 hk5 fun G2 hle2 hw2=>?_;replace ha:=ha.up hle2;replace hoa:=hoa.up hle2;generalize hWh:l.map tS=wh at *;refine qJ 1 (.cells #[.int .i64 l.length,.slice u cd.length d,.slice wa l.length wd] 267) F9 (by rw [hwl]) ?_;rw [hwl] at hwok;have hgl:(N++(yY l.length wh o++vT l.length wh o)).length≤16384:=by
  have:=hgood.len;unfold Js at this;rw [hN,hWh] at this;exact this
 generalize hA:yY l.length wh o=A at *;have hgA:(N++A).length≤16384:=by rw [←aR,aB] at hgl;omega
 refine bL 21 [0] ?_;refine fX (ι:=Nat×List Sl.Instr×(Option Addr×Nat×List Value)) (fun (t,ce,(u,d,q))=>([(67,.int .i64 (t:Int)),(66,Go.Value.int Go.IntKind.i64 (↑(List.length o):Int)),(65,Go.Value.slice oa (List.length o) oc),(5,Go.Value.int Go.IntKind.i64 (↑(List.length l):Int)),(6,Go.Value.pointer (Option.some (Go.Addr.mk b2 0 Option.none))),(1,Go.Value.slice oa (List.length o) oc),(4,Go.Value.pointer (Option.some (Go.Addr.mk b1 0 Option.none)))],[(1,some b2,.cells #[.int .i64 l.length,.slice u ce.length d,.slice wa l.length wd] 267),(2,u.map (·.block),Row 91 ce q),(0,Option.some b1,Go.Obj.cells #[Go.Value.int Go.IntKind.i64 0,Go.Value.int Go.IntKind.i64 0,Go.Value.slice Option.none 0 0,Go.Value.slice Option.none 0 0] 26)])) (fun (t,ce,(u,d,q))=>t≤o.length∧ce++yY l.length wh (o.drop t)=N++A∧A4 u d ce q) (fun (t,ce,(u,d,q))=>o.length - t) ((0,cd,(u,d,q))) (⟨aN _,by rw [hk2,←hA];rfl,hk3⟩) ⟨F9,F9,F9,F9,F9,F9,F9,H2⟩ ⟨F9,F9,F9,H2⟩ fun ⟨t,ce,(u,d,q)⟩=>fun hk=>?_;obtain ⟨ht1,ht2,ht3⟩:=hk;have hel:ce.length≤16384:=by rw [←ht2,aB] at hgA;omega
 rcases aK t o.length with hte | hte
 · have hdr:o.drop t=o[(t:Int).toNat]?.getD default :: o.drop (t+1):=by
    rw [dQ hte,aF,aA hte];rfl
   rw [hdr] at ht2;have hok2:=o2 (o[(t:Int).toNat]?.getD default) (by rw [aF,aA hte];exact bZ _);have hdl:(o.drop (t+1)).length=o.length - ((t:Int)+1).toNat:=by rw [gP];omega
   have hdA:=PR hoa (t+1) sW hocc;have ht2:ce++(yX l.length wh (o[(t:Int).toNat]?.getD default) (o.drop (t+1)).length (o.drop (t+1))++yY l.length wh (o.drop (t+1)))=N++A:=ht2;have hb:(ce++yX l.length wh (o[(t:Int).toNat]?.getD default) (o.drop (t+1)).length (o.drop (t+1))).length≤1048576:=by
    rw [←ht2,←aR,aB] at hgA;omega
   refine aH 14 [1] ?_;refine bX F9 (iQ (α:=Int) T.sl24 F9 F9 sX sW) ?_;refine bX F9 (bV T.one3 F9 (gI sX sW 0 F9 F9)) ?_;refine aL 10 [] ?_;refine bX F9 (ET T.sl24 F9 F9 sW sW) ?_;refine aC 4 [] ?_;have et:((t:Int)+1).toNat=t+1:=sW;refine fR 77 F9 (show _=Value.slice (C6 oa oc (t+1) (A2.sz Int)) (o.drop (t+1)).length (oc - (t+1)) by rw [hdl,et];rfl) ?_;refine fR 81 F9 (show _=Value.int .i64 ((o.drop (t+1)).length:Nat) by congr 1;rw [hdl,et];omega) ?_;refine eO 1 F9 T.fn194 F9 (dh _ l.length b2 u d ce q wa wd wh _ (C6 oa oc (t+1) (A2.sz Int)) _ (o.drop (t+1)).length (o.drop (t+1)) (o.drop (t+1)).length hwl F9 ht3 hw2 hdA hl15 hok2 (by rw [hdl];omega) (fun i hi=>o2 i (List.mem_of_mem_drop hi)) (by rw [hdl];omega) hwok hb) (tC ⟨F9,F9,H2⟩) fun v1 G1 Ho1 hle1 hp=>?_;obtain ⟨rfl,rfl,a1,d1,j1,ho1,rfl⟩:=hp;refine aS 7 [] ?_;refine cE 67 F9 (show _=Value.int .i64 ((t+1:Nat):Int) from F9) ?_;refine eX ((t+1,_,(a1,d1,j1))) ?_ ?_ F9 ⟨F9,F9,F9,F9,F9,F9,F9,H2⟩ ⟨F9,F9,F9,H2⟩
   · refine ⟨hte,?_,ho1⟩;rw [←ht2];simp only [aR]
   show o.length - (t+1)<o.length - t;omega
 have hte:t=o.length:=sW;subst hte;rw [nX] at ht2;have ht2:ce=N++A:=by rw [←ht2];exact (bB _).symm
 refine bL 13 [0] ?_;refine fL [0,2,1] [(2,8),(1,8)] T.mixed F9 ?_;refine fE 0 [] sZ F9 F9 (dH F9) ?_;refine fE 1 [] sZ F9 F9 (dH F9) ?_;refine fE 3 [] sZ F9 F9 (dH F9) ?_;refine fE 4 [] sZ F9 F9 (dH F9) ?_;refine fE 5 [] sZ F9 F9 (Qy.sub F9 F9 sW) ?_;refine fE 6 [] sZ F9 F9 (iQ (α:=Int) T.sl24 F9 F9 sX sW) ?_;refine fE 7 [0] sZ F9 F9 (bV T.one3 F9 (gI sX sW 0 F9 F9)) ?_;refine jK 2 ⟨F9,F9,F9,H2⟩ wF sZ F9 ?_;refine eJ 1 F9 T.fn196 F9 (Lr _ b2 _ _ _ _ sW sW) (tC ⟨F9,H2⟩) ?_;refine aT ?_;refine jK 8 ⟨F9,F9,F9,H2⟩ wF sZ F9 ?_;refine eO 1 F9 T.fn195 F9 (Gi _ b2 _ u d ce q wa _ wd _ _ _ ht3 sW) (tC ⟨F9,F9,H2⟩) fun v1 G1 Ho1 hle1 hp=>?_;obtain ⟨rfl,rfl,a1,d1,j1,ho1,rfl⟩:=hp;refine aT ?_;refine iF sZ ⟨F9,H2⟩ wF ?_;refine lW 10 [] ?_;have hbl:∀ m,(N++A++vT l.length wh (o.drop m)).length≤16384:=fun m=>by
  have:=Qn l.length wh o m;rw [aB,aB] at hgl;rw [aB,aB];omega
 have hi0:ce++tE ((l.length:Int)+0) (o[((l.length:Int) - 1).toNat]?.getD default) 1=N++A++vT l.length wh (o.drop (l.length - 1)):=by
  have e1:o.drop (l.length - 1)=[o[l.length - 1]?.getD default]:=by
   rw [dQ sW,aA sW,fD sW];rfl
  rw [e1,ht2,fN,show ((l.length:Int) - 1).toNat=l.length - 1 by omega];rfl
 refine iP 15 F9 (show _=Value.int .i64 (((l.length - 1:Nat):Int) - 1) by congr 1;omega) ?_;refine fX (ι:=Nat×List Sl.Instr×(Option Addr×Nat×List Value)) (fun (m,cf,(u,d,q))=>([(15,.int .i64 ((m:Int) - 1)),(5,Go.Value.int Go.IntKind.i64 (↑(List.length l):Int)),(6,Go.Value.pointer (Option.some (Go.Addr.mk b2 0 Option.none))),(1,Go.Value.slice oa (List.length o) oc),(4,Go.Value.pointer (Option.some (Go.Addr.mk b1 0 Option.none)))],[(1,some b2,.cells #[.int .i64 l.length,.slice u cf.length d,.slice wa l.length wd] 267),(2,u.map (·.block),Row 91 cf q),(0,Option.some b1,Go.Obj.cells #[Go.Value.int Go.IntKind.i64 0,Go.Value.int Go.IntKind.i64 0,Go.Value.slice Option.none 0 0,Go.Value.slice Option.none 0 0] 26)])) (fun (m,cf,(u,d,q))=>m≤l.length - 1∧cf=N++A++vT l.length wh (o.drop m)∧A4 u d cf q) (fun (m,cf,(u,d,q))=>m) ((l.length - 1,_,(a1,d1,j1))) (⟨aI _,hi0,ho1⟩) ⟨F9,F9,F9,F9,F9,H2⟩ ⟨F9,F9,F9,H2⟩ fun ⟨m,cf,(u,d,q)⟩=>fun hk=>?_;obtain ⟨hm1,hm2,hm3⟩:=hk;rcases gK m with hm0 | hm0
 · subst hm0;refine aH 17 [0] ?_;refine bX F9 (mD F9 F9 sW) ?_;refine aC 5 [1] ?_;refine bX F9 (bP (cs:=[_,_,_,_]) T.st26 F9 F9 F9) ?_;refine aM 3 F9 T.zero26 fun b3=>?_;refine aZ 11 [3] ?_;refine eF 4 (Row 3 ([]:List Int) []) ?_;have hcf:cf=Js l o:=by
    rw [hm2,nN];unfold Js;rw [hN,hWh,hA,aR]
   refine fX (ι:=Nat×(Option Addr×Nat×List Value)) (fun (t,(x,y,z))=>([(119,.int .i64 (t:Int)),(118,Go.Value.int Go.IntKind.i64 (↑(List.length l):Int)),(16,Go.Value.pointer (Option.some (Go.Addr.mk b3 0 Option.none))),(6,Go.Value.pointer (Option.some (Go.Addr.mk b2 0 Option.none))),(4,Go.Value.pointer (Option.some (Go.Addr.mk b1 0 Option.none)))],[(3,some b3,.cells #[.int .i64 l.length,.int .i64 (3*(l.length:Int)+1),.slice u cf.length d,.slice x (Fc l.length t).length y] 26),(4,x.map (·.block),Row 3 (Fc l.length t) z),(1,Option.some b2,Go.Obj.cells #[Go.Value.int Go.IntKind.i64 (↑(List.length l):Int),Go.Value.slice u (List.length cf) d,Go.Value.slice wa (List.length l) wd] 267),(2,Option.map (fun x=>Go.Addr.block x) u,Go.Sl.Row (α:=Go.Sl.Instr) 91 (cf) (q)),(0,Option.some b1,Go.Obj.cells #[Go.Value.int Go.IntKind.i64 0,Go.Value.int Go.IntKind.i64 0,Go.Value.slice Option.none 0 0,Go.Value.slice Option.none 0 0] 26)])) (fun (t,(x,y,z))=>t≤l.length∧A4 x y (Fc l.length t) z) (fun (t,(x,y,z))=>l.length - t) ((0,(none,0,[]))) (⟨aN _,eG⟩) ⟨F9,F9,F9,F9,F9,H2⟩ ⟨F9,F9,F9,F9,F9,H2⟩ fun ⟨t,(x,y,z)⟩=>fun hk=>?_;obtain ⟨hx1,hx2⟩:=hk;have hol:(Fc l.length t).length=t:=JX _ _;rcases aK t l.length with htl | htl
   · refine bL 17 [1] ?_;refine fL [0,2,1,4,3] [(3,8),(4,6),(2,6)] T.mixed F9 ?_;refine fE 0 [] sZ F9 F9 (gE T.fa26_3 F9) ?_;refine fE 1 [3] sZ F9 F9 (jN 3 T.one24 F9 F9 F9) ?_;refine fE 2 [] sZ F9 F9 (dH F9) ?_;refine fE 3 [] sZ F9 F9 (dH F9) ?_;refine jK 4 ⟨F9,F9,F9,F9,F9,H2⟩ wF sZ F9 ?_;refine eJ 1 F9 T.fn196 F9 (Lr _ b2 _ _ _ _ sW sW) (tC ⟨F9,H2⟩) ?_;refine aT ?_;refine jK 5 ⟨F9,F9,F9,F9,F9,H2⟩ wF sZ F9 ?_;refine cC (α:=Int) 5 [((↑(List.length l):Int)+(↑t:Int))] F9 T.sl24 T.el3 F9 F9 F9 F9 F9 fun b4=>?_;refine aT ?_;refine jK 6 ⟨F9,F9,F9,F9,F9,H2⟩ wF sZ F9 ?_;refine cP (α:=Int) 4 F9 T.sl24 T.el3 F9 F9 F9 vU (cQ 5 F9) tT tT fun a2 c2 junk2 ho2=>?_;refine aT ?_;refine fE 7 [] sZ F9 F9 (gE T.fa26_3 F9) ?_;refine jK 8 ⟨F9,F9,F9,H2⟩ wF sZ F9 ?_;refine Wl.store 3 T.one24 F9 F9 F9 F9 F9 ?_;refine aT ?_;refine iF sZ ⟨F9,F9,H2⟩ wF ?_;refine dO 6 [] ?_;refine cE 119 F9 (show _=Value.int .i64 ((t+1:Nat):Int) from F9) ?_;refine gJ 3 (.cells #[.int .i64 l.length,.int .i64 (3*(l.length:Int)+1),.slice u cf.length d,.slice a2 (Fc l.length (t+1)).length c2] 26) F9 (by rw [Ht];rfl) ?_;refine gJ 4 (Row 3 (Fc l.length (t+1)) junk2) F9 (by rw [Ht]) ?_;refine eX ((t+1,(a2,c2,junk2))) ?_ ?_ F9 ⟨F9,F9,F9,F9,F9,H2⟩ ⟨F9,F9,F9,F9,F9,H2⟩
     · exact ⟨htl,by rw [Ht];exact ho2⟩
     show l.length - (t+1)<l.length - t;omega
   have htl:t=l.length:=sW;subst htl;subst hcf;refine bG 19 [0,3,0] ?_;refine mR [2,4,0] tG (cK (.inr F9) (Ho:=Hp.only _ [0,1]) F9 (.agg 2 F9 F9 T.agg26) (aU _ _) ?_);exact ⟨u,x,d,y,q,z,F9,hm3,hx2,F9⟩
 obtain ⟨i,rfl⟩:∃ i,m=i+1:=⟨m - 1,by omega⟩
 refine iP 15 F9 (show _=Value.int .i64 (i:Int) by congr 1;omega) ?_;have hin:i<o.length:=sW;have hdr:o.drop i=o[(i:Int).toNat]?.getD default :: o.drop (i+1):=by
  rw [dQ hin,aF,aA hin];rfl
 have hok2:=o2 (o[(i:Int).toNat]?.getD default) (by rw [aF,aA hin];exact bZ _);have hdl:(o.drop (i+1)).length=o.length - (i+1):=gP;have hbk:cf++xX l.length wh (o[(i:Int).toNat]?.getD default) (o.drop (i+1)).length=N++A++vT l.length wh (o.drop i):=by
  rw [hm2,hdr,Wn _ _ _ sW];simp only [aR]
 have hb:(cf++xX l.length wh (o[(i:Int).toNat]?.getD default) (o.drop (i+1)).length).length≤1048576:=by
  rw [hbk];have:=hbl i;omega
 refine aH 16 [1] ?_;refine bX F9 (iQ (α:=Int) T.sl24 F9 F9 sX sW) ?_;refine bX F9 (bV T.one3 F9 (gI sX sW 0 F9 F9)) ?_;refine aC 4 [] ?_;refine fR 107 F9 (show _=Value.int .i64 ((o.drop (i+1)).length:Nat) by congr 1;rw [hdl];omega) ?_;refine eO 1 F9 T.fn197 F9 (di _ l.length b2 u d cf q wa wd wh _ (o.drop (i+1)).length hwl hm3 hw2 hl15 hok2 (by rw [hdl];omega) (by rw [hdl];omega) (hwok _ sW) hb) (tC ⟨F9,F9,H2⟩) fun v3 G3 Ho3 hle3 hp=>?_;obtain ⟨rfl,rfl,a3,d3,j3,ho3,rfl⟩:=hp;refine aS 8 [] ?_;refine cE 15 F9 (show _=Value.int .i64 ((i:Int) - 1) from F9) ?_;refine eX ((i,_,(a3,d3,j3))) ?_ ?_ F9 ⟨F9,F9,F9,F9,F9,H2⟩ ⟨F9,F9,F9,H2⟩
 · exact ⟨by omega,hbk,ho3⟩
 show i<i+1;omega
theorem JY {G:A3} {b:Nat} {cs:List Value} {T:TypeId} {fz:Nat×Nat} (h:G b=some (.cells cs.toArray T fz)) (k:Nat) {v:Value} (hv:cs[k]?=some v):G.cell b k=some v:=by
 simp only [A3.cell,h];simpa using hv
theorem kq (G:A3) (a:Option Addr) (n c:Nat):Does Tryz.prog 146 [.slice a n c] G [] (fun v G' Ho=>∃ b,v=.func (.func 191) #[] #[.pointer (some ⟨b,0,none⟩)]∧Ho=[]∧G' b=some (.cells [.slice a n c].toArray 24)):=by
 refine gM Tryz.func146 F9 Tryz.ntmps146 F9 fun w=>?_;refine aH 2 [] ?_;refine oJ 0 F9 F9 F9 fun b1=>?_;refine aL 5 [] ?_;refine bX F9 (gY F9 F9) ?_;refine aS 4 [] ?_;refine qG 0 F9 fun G' hle hb=>?_;refine cK (.inr F9) (Ho:=[]) F9 (.tmp F9) H2 ?_;exact ⟨_,F9,F9,hb⟩
def encI (x:Int):List Value:=[.int .i64 x]
theorem kr (G:A3) (a:Option Addr) (c:Nat) (xs:List Int) (b:Nat) (hx:Arr G a xs) (hl:xs.length≤1099511627776) (hb:G b=some (.cells [.slice a xs.length c].toArray 24)) :
 Ir Tryz.prog 191 [.pointer (some ⟨b,0,none⟩)] G encI xs:=by
 intro ι J inv stop ly i0 hi0 hY;have hcell:G.cell b 0=some (.slice a xs.length c):=JY hb 0 F9;refine gM Tryz.func191 F9 Tryz.ntmps191 F9 fun w=>?_;refine rZ 1000 ?_;refine aH 2 [] ?_;refine bX F9 (bV T.one24 F9 sX) ?_;refine aZ 5 [] ?_;refine Yh (ι:=Nat×ι) 1000 (fun (m,s)=>([(7,.int .i64 (m:Int)),(6,Go.Value.int Go.IntKind.i64 (↑(List.length xs):Int)),(5,Go.Value.slice a (List.length xs) c),(0,Go.Value.func (Go.Fn.yield ly) #[] #[])],[])) (fun (m,s)=>J s) (fun (m,s)=>m≤xs.length∧inv m s) (fun (m,s)=>xs.length - m) ((0,i0)) (⟨aN _,hi0⟩) ⟨F9,F9,F9,F9,H2⟩ H2 uX fun ⟨m,s⟩=>fun hk=>?_;obtain ⟨hm1,hinv⟩:=hk;refine bL 6 [] ?_;refine oB F9 (fun hc1=>?_) fun hc1=>?_;refine aH 6 [] ?_;refine bX F9 (iQ (α:=Int) T.sl24 F9 F9 sX sW) ?_;refine bX F9 (bV T.one3 F9 (gI sX sW 0 F9 F9)) ?_;refine aL 7 [] ?_;rotate_left;refine bG 4 [] ?_;rotate_left
 · have hml:m<xs.length:=sW;have hbx:xs[m]?=some (xs[(m:Int).toNat]?.getD default):=by
    rw [aF,aA hml];rfl
   refine Kv (A:=[]) 1000 F9 F9 F9 H2 uX F9 (hY m _ s hbx hinv) fun vy Gy Hy hly hp=>?_;obtain ⟨rfl,s',rfl,hp⟩:=hp;rcases hp with ⟨rfl,hinv'⟩ | ⟨rfl,hst⟩
   · refine aS 11 [0] ?_;refine cE 7 F9 (show _=Value.int .i64 ((m+1:Nat):Int) from F9) ?_;refine Hk ((m+1,s')) ?_ ?_ F9 ⟨F9,F9,F9,F9,H2⟩ H2 uX
     · exact ⟨hml,hinv'⟩
     show xs.length - (m+1)<xs.length - m;omega
   refine aS 9 [1] ?_;refine mS (k:=1000) (.inr F9) F9 uX ⟨F9,s',F9,.inr hst⟩
 have hm:m=xs.length:=sW;subst hm;refine mS (k:=1000) (.inl F9) F9 uX ⟨F9,s,F9,.inl hinv⟩
theorem ku (G:A3) (a:Option Addr) (c:Nat) (xs:List Int) (b:Nat) (hx:Arr G a xs) (hl:xs.length≤1048576) (hb:G b=some (.cells [.slice a xs.length c].toArray 24)) :
 Does Tryz.prog 224 [.slice none 0 0,.func (.func 191) #[] #[.pointer (some ⟨b,0,none⟩)]] G [] (fun v G' Ho=>∃ (o:Option Addr) (d:Nat) (j:List Value),v=.slice o xs.length d∧A4 o d xs j∧Ho=[(0,o.map (·.block),Row 3 xs j)]∧G'=G):=by
 refine jS Tryz.func224 F9 Tryz.ntmps224 F9 fun w=>?_;refine aH 2 [] ?_;refine oJ 0 F9 F9 F9 fun b1=>?_;refine aZ 10 [] ?_;refine eF 1 (Row 3 ([]:List Int) []) ?_;refine qK (ι:=List Int×(Option Addr×Nat×List Value)) 900 901 (fun (ys,(o,d,j))=>[(0,some b1,.cells #[.slice o ys.length d] 24),(1,o.map (·.block),Row 3 ys j)]) (fun k (ys,(o,d,j))=>ys=xs.take k∧A4 o d ys j) (fun c (ys,(o,d,j))=>False) (([],(none,0,[]))) F9 T.fn191 (fun _=>rfl) F9 (kr _ a c xs b hx sW hb) (⟨F9,eG⟩) (oO ⟨F9,F9,H2⟩) ⟨F9,fun _=>rfl⟩ (fun k x ⟨ys,(o,d,j)⟩ l dd q w0 hx hi=>?_) (fun ⟨ys,(o,d,j)⟩ dd hi=>?_) fun ⟨ys,(o,d,j)⟩ dd c hi=>?_
 · obtain ⟨hy,ho⟩:=hi;have hkl:k<xs.length:=(bI.1 hx).1;have hyl:ys.length=k:=by rw [hy,bH];omega
   refine bG 3 [] ?_;refine lL 900 F9 ?_;refine aH 4 [0] ?_;refine cC (α:=Int) 902 [(x)] F9 T.sl24 T.el3 F9 F9 F9 F9 F9 fun b2=>?_;refine cP (α:=Int) 1 F9 T.sl24 T.el3 F9 F9 F9 vU (cQ 902 F9) tT tT fun a1 c1 junk1 ho1=>?_;refine aS 3 [0] ?_;refine eY none (.inl ⟨F9,F9⟩) 900 F9 ⟨F9,((ys++[x],(a1,c1,junk1)),none),F9,.inl ⟨F9,F9,?_⟩⟩ (oO ⟨F9,F9,F9,F9,H2⟩);refine ⟨?_,ho1⟩;rw [cG,hx,hy];rfl
 · obtain ⟨hy,ho⟩:=hi;rw [bD] at hy;subst hy;refine dO 9 [0] ?_;refine gQ (.inr F9) 901 F9 ?_;refine jM (.inr F9) ?_;refine jY (mR [1] tG (cK (.inr F9) F9 (.tmp F9) (mI 0 _) ?_));exact ⟨_,_,_,F9,ho,F9,F9⟩
 exact hi.elim
theorem kv (G:A3) (a:Option Addr) (c:Nat) (xs:List Int) (b:Nat) (hx:Arr G a xs) (hl:xs.length≤1048576) (hb:G b=some (.cells [.slice a xs.length c].toArray 24)) :
 Does Tryz.prog 189 [.func (.func 191) #[] #[.pointer (some ⟨b,0,none⟩)]] G [] (fun v G' Ho=>∃ (o:Option Addr) (d:Nat) (j:List Value),v=.slice o xs.length d∧A4 o d xs j∧Ho=[(0,o.map (·.block),Row 3 xs j)]∧G'=G):=by
 refine gM Tryz.func189 F9 Tryz.ntmps189 F9 fun w=>?_;refine aH 8 [] ?_;refine eO 0 F9 T.fn224 F9 (ku _ a c xs b hx hl hb) (tC H2) fun v1 G1 Ho1 hle1 hp=>?_;obtain ⟨o1,d1,j1,rfl,ho1,rfl,rfl⟩:=hp;refine aS 4 [] ?_;refine cK (.inr F9) (Ho:=Hp.only _ [0]) F9 (.tmp F9) (aU _ _) ?_;exact ⟨_,_,_,F9,ho1,F9,F9⟩
def Hb (xs:List Int):List Int:=xs.mergeSort fun x y=>decide (x≤y)
theorem yM (xs:List Int):(Hb xs).length=xs.length:=List.length_mergeSort xs
theorem kw (G:A3) (a:Option Addr) (c:Nat) (xs:List Int) (b:Nat) (hx:Arr G a xs) (hl:xs.length≤1048576) (hb:G b=some (.cells [.slice a xs.length c].toArray 24)) :
 Does Tryz.prog 145 [.func (.func 191) #[] #[.pointer (some ⟨b,0,none⟩)]] G [] (fun v G' Ho=>∃ (o:Option Addr) (d:Nat),v=.slice o (Hb xs).length d∧Arr G' o (Hb xs)∧(Hb xs).length≤d∧Ho=[]):=by
 refine gM Tryz.func145 F9 Tryz.ntmps145 F9 fun w=>?_;refine aH 8 [] ?_;refine eO 0 F9 T.fn189 F9 (kv _ a c xs b hx hl hb) (tC H2) fun v1 G1 Ho1 hle1 hp=>?_;obtain ⟨o1,d1,j1,rfl,ho1,rfl,rfl⟩:=hp;refine aL 6 [] ?_;rcases ho1 with ⟨rfl,rfl,rfl,rfl⟩ | ⟨bb,rfl,h2,h3,h4⟩
 · refine mW F9 T.fn190 F9 (df _ _) ?_;refine aS 9 [] ?_;refine cK (.inr F9) (Ho:=[]) F9 (.tmp F9) H2 ?_;exact ⟨none,0,by rw [yM],by rw [dV (yM [])];exact kG _,nK (yM []),F9⟩
 refine eO 0 F9 T.fn190 F9 (kl _ bb d1 xs j1 sW) (tC ⟨F9,H2⟩) fun v2 G2 Ho2 hle2 hp=>?_;obtain ⟨rfl,rfl,rfl⟩:=hp;refine aS 9 [] ?_;have hoS:A4 (some ⟨bb,0,none⟩) d1 (Hb xs) j1:=.inr ⟨bb,F9,by rw [yM];exact h2,by rw [yM];exact h3,h4⟩;refine dD 0 F9 hoS fun G8 hle8 hA8=>?_;refine cK (.inr F9) (Ho:=[]) F9 (.tmp F9) H2 ?_;exact ⟨_,_,by rw [yM],hA8,by rw [yM];exact h3,F9⟩
theorem Lu (n:Nat):(idx n).Pairwise (·<·):=by
 unfold idx;rw [List.pairwise_map];exact List.Pairwise.imp (fun h=>by omega) List.pairwise_lt_range
theorem Nz (n:Nat) (x:Int):x∈idx n↔0≤x∧x<n:=by
 unfold idx;rw [dY];constructor
 · rintro ⟨k,hk,rfl⟩;have:=iO.1 hk;omega
 intro h;exact ⟨x.toNat,iO.2 sW,by omega⟩
theorem DV (o:List Int) (n:Nat):Hb o=idx n↔Bj o n:=by
 have hnd:(idx n).Nodup:=(Lu n).imp (fun h=>by omega);have hp:(Hb o).Perm o:=List.mergeSort_perm o _;constructor
 · intro h;rw [h] at hp;refine ⟨by rw [←hp.length_eq,Nu],fun x hx=>(Nz n x).1 (hp.mem_iff.2 hx),hp.nodup_iff.1 hnd⟩
 rintro ⟨h1,h2,h3⟩;have hm:∀ x,x∈o↔x∈idx n:=fun x=>by
  refine ⟨fun hx=>(Nz n x).2 (h2 x hx),fun hx=>eE fun hno=>?_⟩;have:=List.Nodup.length_le_of_subset (qU.2 ⟨hno,h3⟩) (l₂:=idx n) (fun y hy=>by
   rcases iU.1 hy with rfl | hy
   · exact hx
   exact (Nz n y).2 (h2 y hy))
  rw [aY,Nu] at this;omega
 have hperm:(Hb o).Perm (idx n):=hp.trans ((List.perm_ext_iff_of_nodup h3 hnd).2 hm);exact List.Perm.eq_of_pairwise (le:=fun a b:Int=>a≤b) (fun a b _ _ h1 h2=>by omega) (JW o) ((Lu n).imp (fun h=>by omega)) hperm
theorem kx (G:A3) (a b:Option Addr) (c d:Nat) (xs ys:List Int) (hx:Arr G a xs) (hy:Arr G b ys) (hl:xs.length≤1048576) :
 Does Tryz.prog 86 [.slice a xs.length c,.slice b ys.length d] G [] (fun v G' Ho=>v=.bool (decide (xs=ys))∧G'=G∧Ho=[]):=by
 refine gM Tryz.func86 F9 Tryz.ntmps86 F9 fun w=>?_;refine bL 15 [] ?_;refine oB F9 (fun hc1=>?_) fun hc1=>?_;refine bG 7 [] ?_;refine cK (.inr F9) (Ho:=Hp.only _ []) F9 (.tmp F9) (aU _ _) ?_;rotate_left;refine bL 11 [] ?_;rotate_left
 · refine ⟨?_,F9,F9⟩;congr 1;refine (cD fun h=>hc1 ?_).symm;rw [h]
 have hle:xs.length=ys.length:=eE fun h=>hc1 sW;refine fX (ι:=Nat) (fun k=>([(13,.int .i64 (k:Int)),(12,Go.Value.int Go.IntKind.i64 (↑(List.length xs):Int)),(0,Go.Value.slice a (List.length xs) c),(1,Go.Value.slice b (List.length ys) d)],[])) (fun k=>k≤xs.length∧(∀ i,i<k→xs[i]?.getD default=ys[i]?.getD default)) (fun k=>xs.length - k) (0) (⟨aN _,fun i h=>absurd h sW⟩) ⟨F9,F9,F9,F9,H2⟩ H2 fun k=>fun hk=>?_;obtain ⟨hk1,hk2⟩:=hk;rcases aK k xs.length with hkl | hkl
 · refine bL 18 [1] ?_;refine fL [] [] T.mixed F9 ?_;refine fE 0 [] sZ F9 F9 (dH F9) ?_;refine fE 1 [] sZ F9 F9 (dH F9) ?_;refine fE 2 [] sZ F9 F9 (iQ (α:=Int) T.sl24 F9 F9 sX sW) ?_;refine fE 3 [] sZ F9 F9 (bV T.one3 F9 (gI sX sW 0 F9 F9)) ?_;refine fE 4 [] sZ F9 F9 (dH F9) ?_;refine fE 5 [] sZ F9 F9 (dH F9) ?_;refine fE 6 [] sZ F9 F9 (iQ (α:=Int) T.sl24 F9 F9 sX sW) ?_;refine fE 7 [] sZ F9 F9 (bV T.one3 F9 (gI sX sW 0 F9 F9)) ?_;refine fE 8 [] sZ F9 F9 (Qy.neq F9 F9) ?_;refine iF sZ H2 wF ?_;refine cN ?_;refine oB F9 (fun hc2=>?_) fun hc2=>?_;refine bG 11 [] ?_;refine cK (.inr F9) (Ho:=Hp.only _ []) F9 (.tmp F9) (aU _ _) ?_;rotate_left;refine bG 7 [] ?_;rotate_left
   · refine ⟨?_,F9,F9⟩;congr 1;refine (cD fun h=>hc2 ?_).symm;rw [h]
   refine cE 13 F9 (show _=Value.int .i64 ((k+1:Nat):Int) from F9) ?_;refine eX (k+1) ?_ ?_ F9 ⟨F9,F9,F9,F9,H2⟩ H2
   · refine ⟨hkl,fun i hi=>?_⟩;rcases aK i k with h | h
     · exact hk2 i h
     have e:i=k:=sW;subst e;exact eE fun h=>hc2 h
   show xs.length - (k+1)<xs.length - k;omega
 refine bG 18 [0] ?_;refine cK (.inr F9) (Ho:=Hp.only _ []) F9 (.tmp F9) (aU _ _) ?_;refine ⟨?_,F9,F9⟩;congr 1;refine (bT ?_).symm;apply gD hle;intro i h1 h2;have:=hk2 i sW;rw [aA h1,aA h2] at this;exact this
theorem ky (G:A3) (a:Option Addr) (c:Nat) (l:List R2) (oa:Option Addr) (oc:Nat) (o:List Int) (ha:Arr G a l) (hoa:Arr G oa o) (hac:l.length≤c) (hocc:o.length≤oc) (hR:uG l) (hO:Bj o l.length) :
 Does Tryz.prog 91 [.slice a l.length c,.slice oa o.length oc] G [] (fun v G' Ho=>∃ (bc bo:Option Addr) (dc do_:Nat) (j1 j2:List Value),v=.tuple #[.agg #[.int .i64 (madeP l o).ins,.int .i64 (madeP l o).regs,.slice bc (madeP l o).code.length dc,.slice bo (madeP l o).outs.length do_],.int .i64 0]∧A4 bc dc (madeP l o).code j1∧A4 bo do_ (madeP l o).outs j2∧
  Ho=[(0,bc.map (·.block),Row 91 (madeP l o).code j1),(1,bo.map (·.block),Row 3 (madeP l o).outs j2)]):=by
 have hl15:=hR.2.1;have hol:o.length≤1048576:=by rw [hO.1];omega
 refine gM Tryz.func91 F9 Tryz.ntmps91 F9 fun w=>?_;refine aH 2 [] ?_;refine aM 0 F9 T.zero26 fun b1=>?_;refine aL 7 [] ?_;refine mW F9 T.fn144 F9 (WJ _ _ _ l sX sW hac hR) ?_;refine aC 5 [] ?_;refine eO 1 F9 T.fn146 F9 (kq _ _ _ _) (tC H2) fun v1 G1 Ho1 hle1 hp=>?_;obtain ⟨vb1,rfl,rfl,hvb1⟩:=hp;replace ha:=ha.up hle1;replace hoa:=hoa.up hle1;refine qH F9 F9 ?_;refine eO 1 F9 T.fn145 F9 (kw _ oa oc o vb1 hoa hol hvb1) (tC H2) fun v2 G2 Ho2 hle2 hp=>?_;obtain ⟨so2,sd2,rfl,hs2,hsd2,rfl⟩:=hp;replace ha:=ha.up hle2;replace hoa:=hoa.up hle2;refine aC 5 [] ?_;refine eO 1 F9 T.fn92 F9 (c92 _ l.length sW) (tC H2) fun v3 G3 Ho3 hle3 hp=>?_;obtain ⟨na3,nc3,rfl,hna3,hnc3,rfl⟩:=hp;replace hs2:=hs2.up hle3;replace ha:=ha.up hle3;replace hoa:=hoa.up hle3;refine qH F9 F9 ?_;refine mW F9 T.fn86 F9 (kx _ so2 na3 _ _ (Hb o) (idx l.length) hs2 hna3 (by rw [yM];exact hol)) ?_;refine qH F9 F9 ?_;refine bX F9 (fS F9) ?_;refine aZ 3 [] ?_;refine oB F9 (fun hc1=>?_) fun hc1=>?_;refine aH 2 [] ?_;refine bX F9 (bP (cs:=[_,_,_,_]) T.st26 F9 F9 F9) ?_;refine aS 6 [0] ?_;rotate_left;refine aH 6 [] ?_;rotate_left;skip;have hso:=DV o l.length;have hne:Hb o=idx l.length:=hso.2 hO;skip
 · exact absurd hne hc1
 refine eO 1 F9 T.fn147 F9 (kp _ a c l oa oc o ha hoa hac hocc hR hO) (tC H2) fun v4 G4 Ho4 hle4 hp=>?_;obtain ⟨bc4,bo4,dc4,dd4,j4,z4,rfl,ho4,hp4,rfl⟩:=hp;refine aS 5 [0] ?_;refine mR [1,2,0] tG (iC (.inr F9) (Ho:=Hp.only _ [0,1]) F9 (.agg 2 F9 F9 T.agg26) (.tmp F9) (aU _ _) ?_);exact ⟨_,_,_,_,_,_,F9,ho4,hp4,F9⟩
theorem Cy (n:Nat):Bj (idx n) n:=⟨Nu n,fun x hx=>(Nz n x).1 hx,(Lu n).imp (fun h=>by omega)⟩
theorem dj (G:A3) (a:Option Addr) (c:Nat) (l:List R2) (ha:Arr G a l) (hac:l.length≤c) (hR:uG l) :
 Does Tryz.prog 44 [.slice a l.length c] G [] (fun v G' Ho=>∃ (bc bo:Option Addr) (dc do_:Nat) (j1 j2:List Value),v=.tuple #[.agg #[.int .i64 (madeP l (idx l.length)).ins,.int .i64 (madeP l (idx l.length)).regs,.slice bc (madeP l (idx l.length)).code.length dc,.slice bo (madeP l (idx l.length)).outs.length do_],.int .i64 0]∧A4 bc dc (madeP l (idx l.length)).code j1∧A4 bo do_ (madeP l (idx l.length)).outs j2∧
  Ho=[(0,bc.map (·.block),Row 91 (madeP l (idx l.length)).code j1),(1,bo.map (·.block),Row 3 (madeP l (idx l.length)).outs j2)]):=by
 have hl15:=hR.2.1;refine gM Tryz.func44 F9 Tryz.ntmps44 F9 fun w=>?_;refine aH 2 [] ?_;refine aM 0 F9 T.zero26 fun b1=>?_;refine aL 8 [] ?_;refine eO 1 F9 T.fn92 F9 (c92 _ l.length sW) (tC H2) fun v1 G1 Ho1 hle1 hp=>?_;obtain ⟨na1,nc1,rfl,hna1,hnc1,rfl⟩:=hp;replace ha:=ha.up hle1;refine eO 1 F9 T.fn91 F9 (ky _ a c l na1 nc1 (idx l.length) ha hna1 hac hnc1 hR (Cy l.length)) (tC H2) fun v2 G2 Ho2 hle2 hp=>?_;obtain ⟨bc2,bo2,dc2,dd2,j2,z2,rfl,ho2,hp2,rfl⟩:=hp;replace hna1:=hna1.up hle2;replace ha:=ha.up hle2;refine aS 7 [0] ?_;refine mR [1,2,0] tG (iC (.inr F9) (Ho:=Hp.only _ [0,1]) F9 (.agg 2 F9 F9 T.agg26) (.tmp F9) (aU _ _) ?_);exact ⟨_,_,_,_,_,_,F9,ho2,hp2,F9⟩
theorem VE {t:Tab} {regs:Int} {i:Sl.Instr} (n:Int) (o:List Sl.Instr) (hs:D1 t regs) (hm:tI i regs=true) :
 D1 (tR (t,o) n i).1 regs∧((tR (t,o) n i).2=o∨∃ j,(tR (t,o) n i).2=o++[j]∧tI j regs=true):=by
 obtain ⟨m1,m2,m3,m4,m5⟩:=tY hm;obtain ⟨s1,s2⟩:=Jd hs n i m3;have hh:=Bz t n i;have hset:∀ k:Nat,D1 { (reckonP t n i).2 with held:=(reckonP t n i).2.held.set k (reckonP t n i).1.1 } regs:=fun k =>
  ⟨FC s1.len,fun x hx=>by
   rcases fI hx with h | h
   · exact s1.held x h
   rw [h];exact s2,s1.known⟩
 by_cases hsame:(reckonP t n i).2.held[(askedP (reckonP t n i).2.held i).to.toNat]?.getD default=(reckonP t n i).1.1
 · rw [Gt hsame];exact ⟨s1,.inl F9⟩
 by_cases hmv:0≤holder (reckonP t n i).2.held (reckonP t n i).1.1
 · rw [Gu hsame hmv];exact ⟨hset _,.inr ⟨_,F9,Fs (.inl F9) m2 ⟨hmv,by have:=(Ca hmv).1;rw [s1.len] at this;exact this⟩⟩⟩
 rw [Gw hsame hmv];refine ⟨hset _,.inr ⟨_,F9,?_⟩⟩;rw [hh];have:=(IQ (l:=t.held) (i:=i) (by rw [hs.len];exact hm)).2.2;rw [hs.len] at this;exact this
theorem Wo {p:PV} (h:sY p=true):∀ k:Nat,k≤p.code.length→D1 (uC p k).1 p.regs∧(uC p k).2.length≤k∧∀ i∈(uC p k).2,tI i p.regs=true
 | 0,_=>⟨Mq ⟨(tB h).1,(tB h).2.1⟩,aI _,fun i hi=>by cases hi⟩
 | k+1,hk=>by
   obtain ⟨h1,h2,h3⟩:=Wo h k sW;have hm:tI (p.code[(k:Int).toNat]?.getD default) p.regs=true:=by
    rw [aF,aA sW];exact (tB h).2.2.2.2.2.2.2 _ (bZ _)
   obtain ⟨s1,s2⟩:=VE (k:Int) (uC p k).2 h1 hm;show D1 (tR (uC p k) k _).1 p.regs∧(tR (uC p k) k _).2.length≤k+1∧∀ i∈(tR (uC p k) k _).2,tI i p.regs=true;rcases s2 with e | ⟨j,e,hj⟩
   · refine ⟨s1,?_,fun i hi=>?_⟩
     · rw [show tR (uC p k) k _=tR ((uC p k).1,(uC p k).2) k _ from rfl,e];omega
     rw [show tR (uC p k) k _=tR ((uC p k).1,(uC p k).2) k _ from rfl,e] at hi;exact h3 i hi
   refine ⟨s1,?_,fun i hi=>?_⟩
   · rw [show tR (uC p k) k _=tR ((uC p k).1,(uC p k).2) k _ from rfl,e,aB];simp only [aY,cH];omega
   rw [show tR (uC p k) k _=tR ((uC p k).1,(uC p k).2) k _ from rfl,e] at hi;rcases gW.1 hi with hi | hi
   · exact h3 i hi
   rw [eM.1 hi];exact hj
theorem AX {p:PV} (h:sY p=true):sY (xT p)=true:=by
 obtain ⟨r1,r2,r3,r4,r5,r6,r7,r8⟩:=tB h;obtain ⟨h1,h2,h3⟩:=Wo h _ (aI _);have hl:(xT p).outs.length=p.outs.length:=by show (wG _ _).length=_;unfold wG;rw [aP]
 refine Lk ⟨r1,r2,r3,bO h2 r4,by rw [hl];exact r5,by rw [hl];exact r6⟩ (fun r hr=>?_) h3;obtain ⟨x,hx,rfl⟩:=dY.1 (show r∈wG p (uC p p.code.length).1.held from hr);have:=zI (l:=(uC p p.code.length).1.held) (r:=x) (by rw [h1.len];exact r7 x hx);rw [h1.len] at this;exact ⟨this.1,this.2.1⟩
theorem AY {G:A3} {b:Nat} {cs:List Value} {T:TypeId} {fz:Nat×Nat} (h:G b=some (.cells cs.toArray T fz)) (k:Nat) {v:Value} (hv:cs[k]?=some v):G.cell b k=some v:=by
 simp only [A3.cell,h];simpa using hv
theorem Dp {G:A3} {b:Nat} {cs:List Value} {T:TypeId} {fz:Nat×Nat} (h:G b=some (.cells cs.toArray T fz)):G.row b 0 cs:=by
 intro i v hi;simp only [A3.cell,h,cS];simpa using hi
def Qo (xs:List Sl.Instr):List (Int×Sl.Instr):=(List.range xs.length).map fun j=>(((xs.length - 1 - j:Nat):Int),xs[xs.length - 1 - j]?.getD default)
def dk (x:Int×Sl.Instr):List Value:=[.int .i64 x.1,.agg (A2.enc x.2).toArray]
theorem Cz (xs:List Sl.Instr):(Qo xs).length=xs.length:=by simp [Qo]
theorem Lv (xs:List Sl.Instr) {j:Nat} (h:j<xs.length):(Qo xs)[j]?=some (((xs.length - 1 - j:Nat):Int),xs[xs.length - 1 - j]?.getD default):=by simp [Qo,h]
def vR (l:List Bool) (rs:List Int):List Bool:=rs.foldl (fun l r=>l.set r.toNat true) l
theorem xM (l:List Bool) (rs:List Int):(vR l rs).length=l.length:=by
 unfold vR;induction rs generalizing l with
 | nil=>rfl
 | cons r rs ih=>simp only [List.foldl_cons];rw [ih,aG]
theorem Ce (l:List Bool) (rs:List Int) {k:Nat} (h:k<rs.length):vR l (rs.take (k+1))=(vR l (rs.take k)).set (rs[((k:Nat):Int).toNat]?.getD default).toNat true:=by
 unfold vR;rw [cG,List.foldl_append,aF,aA h];rfl
def yA (s:List Bool×List Bool) (k:Int) (i:Sl.Instr):List Bool×List Bool:=
 if s.1[i.to.toNat]?.getD default=true then (vR (s.1.set i.to.toNat false) (tM i),s.2.set k.toNat true) else s
def zM (p:PV):Nat→List Bool×List Bool
 | 0=>(vR (List.replicate p.regs.toNat false) p.outs,List.replicate p.code.length false)
 | j+1=>yA (zM p j) ((p.code.length - 1 - j:Nat):Int) (p.code[p.code.length - 1 - j]?.getD default)
def tD (p:PV):List Bool:=(zM p p.code.length).2
theorem wU (p:PV) (j:Nat):(zM p j).1.length=p.regs.toNat∧(zM p j).2.length=p.code.length:=by
 induction j with
 | zero=>simp [zM,xM]
 | succ j ih =>
   simp only [zM,yA];split
   · simp [xM,ih]
   exact ih
theorem Oa {i:Sl.Instr} {regs:Int} (h:tI i regs=true):∀ r∈tM i,0≤r∧r<regs:=by
 unfold tI at h;simp only [aW,eN,aV] at h;exact h.2
def wE (p:PV):Nat→List Sl.Instr
 | 0=>[]
 | k+1=>if (tD p)[((k:Nat):Int).toNat]?.getD default=true∧¬((p.code[((k:Nat):Int).toNat]?.getD default).op=1∧(p.code[((k:Nat):Int).toNat]?.getD default).to=(p.code[((k:Nat):Int).toNat]?.getD default).a)
  then wE p k++[p.code[((k:Nat):Int).toNat]?.getD default] else wE p k
theorem Hu (p:PV) (k:Nat):(wE p k).length≤k:=by
 induction k with
 | zero=>simp [wE]
 | succ k ih =>
   simp only [wE];split
   · rw [aB];simp only [aY,cH];omega
   omega
def zX (p:PV):PV:=⟨p.ins,p.regs,wE p p.code.length,p.outs⟩
def wN (i:Sl.Instr):Prop:=i.op=1∧i.to=i.a
instance (i:Sl.Instr):Decidable (wN i):=inferInstanceAs (Decidable (_∧_))
theorem Hw (p:PV):∀ k,k≤p.code.length→∀ i∈wE p k,i∈p.code
 | 0,_,i,h=>by simp [wE] at h
 | k+1,hk,i,h=>by
   have hlt:k<p.code.length:=sW;have hel:p.code[(k:Int).toNat]?.getD default∈p.code:=by rw [aF,aA hlt,eH];exact bZ _
   simp only [wE] at h;split at h
   · rw [gW,eM] at h;rcases h with h | h
     · exact Hw p k sW i h
     rw [h];exact hel
   exact Hw p k sW i h
theorem AZ {q:PV} (h:1≤q.ins∧q.ins≤q.regs∧q.regs≤128∧q.code.length≤16384∧1≤q.outs.length∧q.outs.length≤128) (ho:∀ r∈q.outs,0≤r∧r<q.regs) (hc:∀ i∈q.code,tI i q.regs=true):sY q=true:=by
 have h1:xH q=true:=by
  unfold xH;rw [aW,aV,eN];exact ⟨by omega,fun r hr=>by rw [aV];exact ho r hr⟩
 have h2:Cs q=none:=by
  unfold Cs;rw [gT];intro i hi;rw [hc i hi];rfl
 unfold sY vC;rw [aD (by rw [h1];decide),h2];rfl
theorem Qp {p:PV} (h:sY p=true):sY (zX p)=true:=by
 obtain ⟨r1,r2,r3,r4,r5,r6,r7,r8⟩:=tB h;have hl:=Hu p p.code.length;exact AZ ⟨r1,r2,r3,by show (wE p p.code.length).length≤16384;omega,r5,r6⟩ r7 (fun i hi=>r8 i (Hw p _ (aI _) i hi))
def nf (p:PV):List Sl.Instr→List Bool×List Bool
 | []=>(vR (List.replicate p.regs.toNat false) p.outs,[])
 | i :: l=>if (nf p l).1[i.to.toNat]?.getD default=true then (vR ((nf p l).1.set i.to.toNat false) (tM i),true :: (nf p l).2) else ((nf p l).1,false :: (nf p l).2)
theorem PS (p:PV) (l:List Sl.Instr):(nf p l).1.length=p.regs.toNat∧(nf p l).2.length=l.length:=by
 induction l with
 | nil=>simp [nf,xM]
 | cons i l ih =>
   simp only [nf];split
   · simp [xM,ih]
   simp [ih]
theorem Ud (p:PV):∀ j,j≤p.code.length→zM p j=((nf p (p.code.drop (p.code.length - j))).1,List.replicate (p.code.length - j) false++(nf p (p.code.drop (p.code.length - j))).2)
 | 0,_=>by simp [zM,nf]
 | j+1,hj=>by
   have ih:=Ud p j sW;obtain ⟨k,hk⟩:∃ k,k=p.code.length - (j+1):=⟨_,F9⟩
   have hk1:p.code.length - j=k+1:=sW;have hk2:p.code.length - 1 - j=k:=sW;have hlt:k<p.code.length:=sW;rw [hk1] at ih;rw [←hk];have hd:p.code.drop k=p.code[k]?.getD default :: p.code.drop (k+1):=by
    rw [aA hlt,eH];exact dQ hlt
   show yA (zM p j) ((p.code.length - 1 - j:Nat):Int) (p.code[p.code.length - 1 - j]?.getD default)=_;rw [hk2,ih,hd];generalize p.code[k]?.getD default=i;generalize p.code.drop (k+1)=l;unfold yA;simp only [nf];rw [List.replicate_succ'];split
   · simp only [aF];rw [aR,qW _ _ uE];simp
   simp
theorem Ue (p:PV):tD p=(nf p p.code).2:=by
 unfold tD;rw [Ud p p.code.length (aI _)];simp
def Wp (x:Sl.Instr×Bool):Option Sl.Instr:=if x.2=true∧¬wN x.1 then some x.1 else none
theorem Qq {i:Sl.Instr} {b:Bool} (h:b=true∧¬wN i):Wp (i,b)=some i:=aE h
theorem Hx {i:Sl.Instr} {b:Bool} (h:¬(b=true∧¬wN i)):Wp (i,b)=none:=aD h
def Jw (p:PV) (l:List Sl.Instr):List Sl.Instr:=(l.zip (nf p l).2).filterMap Wp
theorem Qr (p:PV):∀ k,k≤p.code.length→wE p k=((p.code.take k).zip ((tD p).take k)).filterMap Wp
 | 0,_=>by simp [wE]
 | k+1,hk=>by
   have hlt:k<p.code.length:=sW;have hnl:(tD p).length=p.code.length:=(wU p _).2;have hlt2:k<(tD p).length:=sW;have e1:p.code.take (k+1)=p.code.take k++[p.code[(k:Int).toNat]?.getD default]:=by
    rw [cG,aF,aA hlt];rfl
   have e2:(tD p).take (k+1)=(tD p).take k++[(tD p)[(k:Int).toNat]?.getD default]:=by
    rw [cG,aF,aA hlt2];rfl
   rw [e1,e2,List.zip_append (by simp;omega),List.filterMap_append,←Qr p k sW];simp only [nA,List.zip_nil_right,List.filterMap_cons,List.filterMap_nil];by_cases h:(tD p)[((k:Nat):Int).toNat]?.getD default=true∧¬wN (p.code[((k:Nat):Int).toNat]?.getD default)
   · rw [Qq h];exact aE h
   rw [Hx h];show wE p (k+1)=wE p k++[];rw [bB];exact aD h
theorem JZ (p:PV):(zX p).code=Jw p p.code:=by
 show wE p p.code.length=_;have hnl:(tD p).length=p.code.length:=(wU p _).2;rw [Qr p _ (aI _),bD,←hnl,bD,Ue];rfl
def zY (outs:List Int) (r:Int):List (Sl.Instr×Bool)→Bool
 | []=>decide (r∈outs)
 | (i,b) :: l=>(b && decide (r∈tM i)) || (!decide (i.to=r) && zY outs r l)
theorem Hz:∀ (rs:List Int) (l:List Bool) (k:Nat),k<l.length→(∀ r∈rs,0≤r)→(vR l rs)[k]?.getD default=(l[k]?.getD default || decide ((k:Int)∈rs))
 | [],l,k,hk,_=>by simp [vR]
 | r :: rs,l,k,hk,hr=>by
   have ih:=Hz rs (l.set r.toNat true) k (by simpa using hk) (fun x hx=>hr x (by simp [hx]));have e:vR l (r :: rs)=vR (l.set r.toNat true) rs:=rfl;rw [e,ih,cI];have h0:=hr r uE;by_cases h:r.toNat=k
   · have h1:(k:Int)=r:=sW;have h2:(k:Int)∈r :: rs:=by rw [h1];simp
     rw [aE h,aE (by omega),bT h2];simp
   have h1:(k:Int)≠r:=sW;rw [aD h];simp [h1]
theorem PT {i:Sl.Instr} {regs:Int} (h:tI i regs=true):∀ r∈tM i,0≤r:=fun r hr=>(Oa h r hr).1
theorem Qs {A:List Bool} {i:Sl.Instr} {regs:Int} (hA:(A.length:Int)=regs) (hm:tI i regs=true) {r:Int} (hr:0≤r∧r<regs) :
 (vR (A.set i.to.toNat false) (tM i))[r.toNat]?.getD default=(decide (r∈tM i) || (!decide (i.to=r) && A[r.toNat]?.getD default)):=by
 have hto:0≤i.to∧i.to<regs:=by rw [tU] at hm;exact ⟨hm.1.2.2.1,hm.1.2.2.2.1⟩
 rw [Hz _ _ _ (by rw [aG];omega) (PT hm),cI];have e1:((r.toNat:Nat):Int)=r:=sW;rw [e1];by_cases h:i.to=r
 · subst h;rw [aE rfl,aE (by omega)];simp
 rw [aD (by omega)];simp [h,Bool.or_comm]
theorem Uf {regs:Int} (h0:0≤regs) {outs:List Int} (ho:∀ r∈outs,0≤r∧r<regs) {r:Int} (hr:0≤r∧r<regs):(vR (List.replicate regs.toNat false) outs)[r.toNat]?.getD default=decide (r∈outs):=by
 rw [Hz _ _ _ (by simp;omega) (fun x hx=>(ho x hx).1)];have e1:((r.toNat:Nat):Int)=r:=sW;rw [e1];have:(List.replicate regs.toNat false)[r.toNat]?.getD default=false:=by
  rw [fW];split <;> rfl
 rw [this,Bool.false_or]
theorem PU {p:PV} (h0:0≤p.regs) (ho:∀ r∈p.outs,0≤r∧r<p.regs):∀ (l:List Sl.Instr),(∀ i∈l,tI i p.regs=true)→∀ r,0≤r∧r<p.regs→(nf p l).1[r.toNat]?.getD default=zY p.outs r (l.zip (nf p l).2)
 | [],_,r,hr=>by simpa [nf,zY] using Uf h0 ho hr
 | i :: l,hl,r,hr=>by
   have ih:=PU h0 ho l (fun j hj=>hl j (by simp [hj]));have hm:=hl i uE;have hto:0≤i.to∧i.to<p.regs:=by rw [tU] at hm;exact ⟨hm.1.2.2.1,hm.1.2.2.2.1⟩
   have hlen:((nf p l).1.length:Int)=p.regs:=by rw [(PS p l).1];omega
   by_cases h:(nf p l).1[i.to.toNat]?.getD default=true
   · have e:nf p (i :: l)=(vR ((nf p l).1.set i.to.toNat false) (tM i),true :: (nf p l).2):=by simp only [nf];rw [aE h]
     rw [e,Qs hlen hm hr,ih r hr];simp [zY]
   have e:nf p (i :: l)=((nf p l).1,false :: (nf p l).2):=by simp only [nf];rw [aD h]
   rw [e];show (nf p l).1[r.toNat]?.getD default=zY p.outs r ((i,false) :: l.zip (nf p l).2);simp only [zY,Bool.false_and,Bool.false_or];by_cases ht:i.to=r
   · subst ht;simpa using h
   rw [ih r hr];simp [ht]
def rf (p:PV):List Sl.Instr→List Bool
 | []=>[]
 | i :: l=>zY p.outs i.to (l.zip (rf p l)) :: rf p l
theorem WQ {p:PV} (h0:0≤p.regs) (ho:∀ r∈p.outs,0≤r∧r<p.regs):∀ (l:List Sl.Instr),(∀ i∈l,tI i p.regs=true)→rf p l=(nf p l).2
 | [],_=>by simp [rf,nf]
 | i :: l,hl=>by
   have ih:=WQ h0 ho l (fun j hj=>hl j (by simp [hj]));have hm:=hl i uE;have hto:0≤i.to∧i.to<p.regs:=by rw [tU] at hm;exact ⟨hm.1.2.2.1,hm.1.2.2.2.1⟩
   have hg:=PU h0 ho l (fun j hj=>hl j (by simp [hj])) i.to hto;simp only [rf];rw [ih,←hg];by_cases h:(nf p l).1[i.to.toNat]?.getD default=true
   · have e:nf p (i :: l)=(vR ((nf p l).1.set i.to.toNat false) (tM i),true :: (nf p l).2):=by simp only [nf];rw [aE h]
     rw [e,h]
   have e:nf p (i :: l)=((nf p l).1,false :: (nf p l).2):=by simp only [nf];rw [aD h]
   have h':(nf p l).1[i.to.toNat]?.getD default=false:=by simpa using h
   rw [e,h']
theorem KA {p:PV} (h:sY p=true):tD p=rf p p.code:=by
 obtain ⟨r1,r2,r3,r4,r5,r6,r7,r8⟩:=tB h;rw [Ue,WQ sW r7 p.code r8]
theorem GL (p:PV):∀ (l:List Sl.Instr) (m:Nat),(rf p l).drop m=rf p (l.drop m)
 | [],m=>by simp [rf]
 | i :: l,0=>uE
 | i :: l,m+1=>by
   show (_ :: rf p l).drop (m+1)=rf p ((i :: l).drop (m+1));rw [oT,oT];exact GL p l m
def Ah (p:PV) (r:Int) (j:Nat):Bool:=zY p.outs r ((p.code.drop j).zip (rf p (p.code.drop j)))
theorem Qt (p:PV) (r:Int) {j:Nat} (h:p.code.length≤j):Ah p r j=decide (r∈p.outs):=by
 unfold Ah;rw [fD h];rfl
theorem WR (p:PV) {j:Nat} (h:j<p.code.length):rf p (p.code.drop j)=Ah p (p.code[j]?.getD default).to (j+1) :: rf p (p.code.drop (j+1)):=by
 rw [dQ h,aA h,eH];rfl
theorem Mx (p:PV) (r:Int) {j:Nat} (h:j<p.code.length):Ah p r j=((Ah p (p.code[j]?.getD default).to (j+1) && decide (r∈tM (p.code[j]?.getD default))) || (!decide ((p.code[j]?.getD default).to=r) && Ah p r (j+1))):=by
 have h1:=WR p h;unfold Ah;rw [h1,dQ h,nA,aA h,eH];rfl
theorem dl (G:A3) (p:PV) (ac ao:Option Addr) (cc co:Nat) (hc:Arr G ac p.code) (ho:Arr G ao p.outs) (h1:p.code.length≤1099511627776) (h2:p.outs.length≤1099511627776) :
 Does Tryz.prog 186 [.agg (I0 p ac cc ao co)] G [] (fun v G' Ho=>v=.bool (decide (sY p=true))∧G'=G∧Ho=[]):=by
 refine D0 Tryz.func186 Tryz.ntmps186 fun w=>?_;refine aH 2 [] ?_;refine eC 0 fun b1=>?_;refine aL 6 [0] ?_;refine cF F9 (ZK _ _ _ _ _ _ sX sX sW sW) ?_;refine aS 15 [] ?_;refine dA ?_;refine ⟨?_,F9,F9⟩;cases h:(vC p).2 <;> simp [sY,h]
def Wq (t:Tab) (bt bk bf:Nat) (a:Option Addr) (c:Nat) (junk:List Value):Hp:=
 [(0,some bt,.cells #[.slice a t.held.length c,.map (some bk),.map (some bf),.int .i64 t.next] 168),(1,a.map (·.block),Row 3 t.held junk),(2,some bk,B0 t.known),(3,some bf,B0 t.first)]
theorem c97 (G:A3) (p:PV) (ac ao:Option Addr) (cc co:Nat) (hr:0≤p.ins∧p.ins≤p.regs∧p.regs≤128) :
 Does Tryz.prog 97 [.agg (I0 p ac cc ao co)] G [] (fun v G' Ho=>∃ bt bk bf a c junk,v=.pointer (some ⟨bt,0,none⟩)∧
  A4 a c (start p) junk∧Ho=Wq ⟨start p,[],[],p.ins+1⟩ bt bk bf a c junk∧G'=G):=by
 refine D0 Tryz.func97 Tryz.ntmps97 fun w=>?_;refine eF 1 (Row 3 ([]:List Int) []) ?_;refine aH 2 [] ?_;refine eC 2 fun b1=>?_;refine aL 5 [] ?_;refine Wl.makeMap (κ:=K4) 3 F9 fun b2=>?_;refine Wl.makeMap (κ:=K4) 4 F9 fun b3=>?_;refine aC 3 [2] ?_;refine aQ (bP (cs:=[_,_,_,_]) T.st168 F9 F9 F9) ?_;refine eC 5 fun b4=>?_;refine aZ 12 [2] ?_;have hsl:(start p).length=p.regs.toNat:=by simp [start]
 refine iA (ι:=Nat×List Int×Option Addr×Nat×List Value) (fun (k,xs,a,c,junk)=>([(14,.int .i64 (k:Int)),(13,.int .i64 p.regs),(3,.pointer (some (Addr.mk b4 0 none))),(2,.pointer none),(1,.pointer (some ⟨b1,0,none⟩))],[(1,a.map (·.block),Row 3 xs junk),(5,some b4,.cells #[.slice a xs.length c,.map (some b2),.map (some b3),.int .i64 (p.ins+1)] 168),(4,some b3,Go.Sl.B0 (κ:=Go.Sl.K4) ([])),(3,some b2,Go.Sl.B0 (κ:=Go.Sl.K4) ([])),(2,some b1,.cells (I0 p ac cc ao co) 26)])) (fun (k,xs,a,c,junk)=>k≤p.regs.toNat∧xs=(start p).take k∧A4 a c xs junk) (fun (k,xs,a,c,junk)=>p.regs.toNat - k) ((0,[],none,0,[])) (⟨aN _,F9,eG⟩) fun ⟨k,xs,a,c,junk⟩=>fun hk=>?_;obtain ⟨hk1,hxs,ho⟩:=hk;have hlen:xs.length=k:=by rw [hxs,bH];omega
 refine bL 6 [] ?_;refine dB (fun hc1=>?_) fun hc1=>?_;refine bL 10 [] ?_;refine dK [2,3,4,5,1] [(5,13),(1,10)] T.mixed [[0],[1],[2],[3],[4,5],[5],[6],[7,2]] ?_;refine eD 8 [] F9 (Qy.min F9 F9) ?_;refine bE 9 ?_;refine cC (α:=Int) 6 [(if Go.Proofs.YtkdelpdbjfpgmaaGreatDoor.PV.ins p<(↑k:Int) then Go.Proofs.YtkdelpdbjfpgmaaGreatDoor.PV.ins p else (↑k:Int))] F9 T.sl24 T.el3 F9 F9 F9 F9 F9 fun b5=>?_;refine cX 10 ?_;refine kM (α:=Int) 1 T.sl24 T.el3 (cQ 6 F9) fun a1 c1 junk1 ho1=>?_;refine aT ?_;refine dP [[11],[12]] ?_;refine bE 13 ?_;refine aC 1 [5] ?_;refine fJ ?_;refine dO 6 [] ?_;rotate_left;refine bG 12 [] ?_;refine mR [5,1,3,4] tG (cK (.inr F9) F9 (.tmp F9) (mI 0 _) ?_);rotate_left
 · refine cM ((k+1,_,a1,c1,junk1)) ?_ ?_
   · have hst:(start p).take (k+1)=(start p).take k++[if p.ins<(k:Int) then p.ins else (k:Int)]:=by
      rw [cG];have hkl:k<p.regs.toNat:=sW;simp [start,hkl]
     refine ⟨by omega,?_,ho1⟩;rw [hst,hxs]
   show p.regs.toNat - (k+1)<p.regs.toNat - k;omega
 have hk:k=p.regs.toNat:=sW;have htk:xs=start p:=by rw [hxs];exact fM sW
 rw [htk] at ho ⊢;exact ⟨b4,b2,b3,a,c,junk,F9,ho,F9,F9⟩
theorem VF (G:A3) (t:Tab) (bt bk bf:Nat) (a:Option Addr) (c:Nat) (junk:List Value) (v:Int) (ho:A4 a c t.held junk) (hl:t.held.length≤128) :
 Does Tryz.prog 100 [.pointer (some ⟨bt,0,none⟩),.int .i64 v] G (Wq t bt bk bf a c junk) (fun r G' Ho=>r=.int .i64 (holder t.held v)∧G'=G∧Ho=Wq t bt bk bf a c junk):=by
 refine D0 Tryz.func100 Tryz.ntmps100 fun w=>?_;refine bL 5 [] ?_;refine lX ?_;refine bL 15 [0] ?_;refine iA (ι:=Nat) (fun k=>([(12,.int .i64 (k:Int)),(11,.int .i64 (↑(List.length (Tab.held t)):Int)),(10,.slice a (List.length (Tab.held t)) c),(1,.int .i64 v)],[(0,some bt,.cells #[.slice a (List.length (Tab.held t)) c,Go.Value.map (some bk),Go.Value.map (some bf),.int .i64 (Tab.next t)] 168),(1,Option.map (fun x=>Go.Addr.block x) a,Row (α:=Int) 3 (Tab.held t) (junk)),(2,some bk,Go.Sl.B0 (κ:=Go.Sl.K4) (Tab.known t)),(3,some bf,Go.Sl.B0 (κ:=Go.Sl.K4) (Tab.first t))])) (fun k=>k≤t.held.length∧(t.held.take k).all (fun x=>!decide (x=v))=true) (fun k=>t.held.length - k) (0) (⟨aN _,F9⟩) fun k=>fun hk=>?_;obtain ⟨hk1,hk2⟩:=hk;refine bL 6 [] ?_;refine dB (fun hc1=>?_) fun hc1=>?_;refine aH 7 [] ?_;refine iK (α:=Int) T.sl24 ?_;refine nG 1 0 T.one3 ?_;refine aZ 12 [] ?_;refine dB (fun hc2=>?_) fun hc2=>?_;refine bG 8 [] ?_;rotate_left;refine bG 14 [] ?_;refine jJ ?_;refine nT [0,1,2,3] ?_;rotate_left;refine bG 11 [] ?_;refine jJ ?_;refine nT [0,1,2,3] ?_;rotate_left
 · refine cM (k+1) ?_ ?_
   · refine ⟨by omega,?_⟩;rw [Jb _ sW,hk2];simpa using hc2
   omega
 · refine ⟨?_,F9,F9⟩;have:=Zd (p:=fun x=>!decide (x=v)) (l:=t.held) (k:=k) sW hk2 (by simpa using hc2);simp only [Bool.not_not] at this;simp [holder,this]
 refine ⟨?_,F9,F9⟩;have hk:k=t.held.length:=sW;subst hk;rw [bD] at hk2;have:=Ta hk2;simp only [Bool.not_not] at this;simp [holder,this]
theorem dn (G:A3) (t:Tab) (bt bk bf:Nat) (a:Option Addr) (c:Nat) (junk:List Value) (i:Sl.Instr) (ho:A4 a c t.held junk) (hl:t.held.length≤128) (hm:tI i t.held.length=true) :
 Does Tryz.prog 151 [.pointer (some ⟨bt,0,none⟩),.agg (A2.enc i).toArray] G (Wq t bt bk bf a c junk) (fun r G' Ho=>r=B4.val (keyOf t.held i)∧G'=G∧Ho=Wq t bt bk bf a c junk):=by
 rw [tU] at hm;obtain ⟨⟨hop1,hop2,hto1,hto2,ha1,ha2⟩,hb⟩:=hm;have hb:i.op=3∨i.op=4→0≤i.b∧i.b<t.held.length:=fun h=>by rw [aE h] at hb;omega
 have two:=Ze i;refine D0 Tryz.func151 Tryz.ntmps151 fun w=>?_;refine aH 2 [] ?_;refine eC 4 fun b1=>?_;refine aM 5 F9 T.zero230 fun b2=>?_;refine aZ 3 [] ?_;refine dK [3,2,1,0,4,5] [] T.mixed [[0],[1,4],[2],[3],[4],[5,0],[6],[7,4]] ?_;refine fO (α:=Int) 8 T.sl24 ?_;refine eD 9 [1,0] F9 (fG 1 0 T.one3 F9 F9 sX sW F9 F9) ?_;refine dP [[10],[11,4]] ?_;refine eD 12 [] F9 (bP (cs:=[_,_,_,_]) T.st230 F9 F9 F9) ?_;refine bE 13 ?_;refine aM 6 F9 T.zero230 fun b3=>?_;refine cX 14 ?_;refine aC 1 [6] ?_;refine fJ ?_;refine lK 5 [4] ?_;refine bS 7 F9 (IN _ _) fun v1 G1 Ho1 hle1 hp=>?_;obtain ⟨ad1,cd1,junk1,rfl,hoa1,rfl,rfl⟩:=hp;refine aZ 4 [] ?_;refine dB (fun hc1=>?_) fun hc1=>?_;refine dK [3,2,1,0,4,5,6,8] [(6,9)] T.mixed [[0],[1],[2],[3,0],[4],[5,4]] ?_;refine fO (α:=Int) 6 T.sl24 ?_;refine eD 7 [1,0] F9 (fG 1 0 T.one3 F9 F9 sX sW F9 F9) ?_;refine dP [[8]] ?_;refine bE 9 ?_;refine aC 1 [6] ?_;refine fJ ?_;refine lK 8 [4] ?_;apply bW 6 35 41 F9;intro hg1;refine aC 11 [6,6] ?_;exact dI 6 0;intro hg1;refine aC 6 [] ?_;exact dI 6 0;refine aZ 2 [] ?_;refine dB (fun hc2=>?_) fun hc2=>?_;refine bG 18 [6,6,6,6,6,5] ?_;refine cK (.inr F9) (Ho:=Hp.only _ [0,1,2,3]) F9 (.agg 5 F9 F9 T.agg230) (aU _ _) ?_;rotate_left;refine bG 9 [6,5] ?_;refine cK (.inr F9) (Ho:=Hp.only _ [0,1,2,3]) F9 (.agg 5 F9 F9 T.agg230) (aU _ _) ?_;rotate_left;refine aH 9 [4] ?_;refine nF 35 ?_;refine aS 18 [0,6,5] ?_;refine cK (.inr F9) (Ho:=Hp.only _ [0,1,2,3]) F9 (.agg 5 F9 F9 T.agg230) (aU _ _) ?_;rotate_left
 · refine ⟨?_,F9,F9⟩;have h:keyOf t.held i=⟨i.op,t.held[i.b.toNat]?.getD default,t.held[i.a.toNat]?.getD default,i.c⟩:=by
    unfold keyOf;rw [aE (by omega)];exact aE hc2
   rw [h];rfl
 · refine ⟨?_,F9,F9⟩;have h:keyOf t.held i=⟨i.op,t.held[i.a.toNat]?.getD default,t.held[i.b.toNat]?.getD default,i.c⟩:=by
    unfold keyOf;rw [aE (by omega)];exact aD hc2
   rw [h];rfl
 refine ⟨?_,F9,F9⟩;have h:keyOf t.held i=⟨i.op,t.held[i.a.toNat]?.getD default,-1,i.c⟩:=by
  unfold keyOf;rw [aD (by omega)]
 rw [h];rfl
theorem YQ (G:A3) (a:Option Addr) (c:Nat) (xs:List Int) (hx:Arr G a xs) (hl:xs.length≤1099511627776) :
 Does Tryz.prog 53 [.slice a xs.length c] G [] (fun v G' Ho=>∃ b d j,v=.slice b xs.length d∧A4 b d xs j∧Ho=[(0,b.map (·.block),Row 3 xs j)]∧G'=G):=by
 refine D0 Tryz.func53 Tryz.ntmps53 fun w=>?_;refine aH 9 [] ?_;refine aQ (jT T.sl24 F9 F9) ?_;refine aZ 2 [] ?_;refine dB (fun hc1=>?_) fun hc1=>?_;refine bG 7 [] ?_;rotate_left;refine aH 4 [] ?_;refine rN 0 F9 T.sl24 fun b1=>?_;refine aC 1 [] ?_;rotate_left
 · subst hc1;have hn:xs=[]:=by
    rcases hx.2 with h | ⟨b,o,h,_⟩
    · exact dV h
    cases h
   subst hn;refine Kt 0 (Row 3 ([]:List Int) []) ?_;refine nT [0] ?_;exact ⟨none,0,[],F9,eG,F9,F9⟩
 refine oY 0 (Row 3 ([]:List Int) []) F9 F9 ?_;refine cP (α:=Int) 0 F9 T.sl24 T.el3 F9 F9 F9 (fP uE) (lQ sX) (by simp only [cH];omega) (by simp only [cH,maxLen];omega) fun a1 c1 junk1 ho1=>?_;refine aS 4 [] ?_;refine nT [0] ?_;exact ⟨_,_,_,F9,ho1,F9,F9⟩
theorem kz (G:A3) (xs ys:List Int) (a b:Option Addr) (c d:Nat) (hx:Arr G a xs) (hy:Arr G b ys) (h1:xs.length≤1099511627776) (h2:ys.length≤1099511627776) :
 Does Tryz.prog 86 [.slice a xs.length c,.slice b ys.length d] G [] (fun v G' Ho=>v=.bool (decide (xs=ys))∧G'=G∧Ho=[]):=by
 refine D0 Tryz.func86 Tryz.ntmps86 fun w=>?_;refine bL 15 [] ?_;refine dB (fun hc1=>?_) fun hc1=>?_;refine bG 7 [] ?_;refine dA ?_;rotate_left;refine bL 11 [] ?_;rotate_left
 · have:xs≠ys:=by rintro rfl;exact hc1 F9
   exact ⟨by simp [this],F9,F9⟩
 have hl:xs.length=ys.length:=sW;clear hc1;refine iA (ι:=Nat) (fun k=>([(13,.int .i64 (k:Int)),(12,.int .i64 (xs.length:Int)),(0,.slice a (List.length xs) c),(1,.slice b (List.length ys) d)],[])) (fun k=>k≤xs.length∧xs.take k=ys.take k) (fun k=>xs.length - k) (0) (⟨aN _,F9⟩) fun k=>fun hk=>?_;obtain ⟨hk1,hk2⟩:=hk;refine bL 6 [] ?_;refine dB (fun hc1=>?_) fun hc1=>?_;refine bL 11 [] ?_;refine dK [] [] T.mixed [[0],[1]] ?_;refine mT (α:=Int) 2 T.sl24 ?_;refine rJ 3 [] 0 T.one3 ?_;refine dP [[4],[5]] ?_;refine mT (α:=Int) 6 T.sl24 ?_;refine rJ 7 [] 0 T.one3 ?_;refine dP [[8]] ?_;refine cT ?_;refine cN ?_;refine dB (fun hc2=>?_) fun hc2=>?_;refine bG 11 [] ?_;refine dA ?_;rotate_left;refine bG 7 [] ?_;rotate_left;refine bG 11 [] ?_;refine dA ?_;rotate_left
 · have:xs≠ys:=by rintro rfl;exact hc2 F9
   exact ⟨by simp [this],F9,F9⟩
 · refine cM (k+1) ?_ ?_
   · exact ⟨by omega,Jc sW sW hk2 (fT.1 hc2)⟩
   omega
 have hk:k=xs.length:=sW;subst hk;rw [bD,hl,bD] at hk2;exact ⟨by simp [hk2],F9,F9⟩
theorem c85 (G:A3) (xs ys:List Sl.Instr) (a b:Option Addr) (c d:Nat) (hx:Arr G a xs) (hy:Arr G b ys) (h1:xs.length≤1099511627776) (h2:ys.length≤1099511627776) :
 Does Tryz.prog 85 [.slice a xs.length c,.slice b ys.length d] G [] (fun v G' Ho=>v=.bool (decide (xs=ys))∧G'=G∧Ho=[]):=by
 refine D0 Tryz.func85 Tryz.ntmps85 fun w=>?_;refine bL 15 [] ?_;refine dB (fun hc1=>?_) fun hc1=>?_;refine bG 7 [] ?_;refine dA ?_;rotate_left;refine bL 11 [] ?_;rotate_left
 · have:xs≠ys:=by rintro rfl;exact hc1 F9
   exact ⟨by simp [this],F9,F9⟩
 have hl:xs.length=ys.length:=sW;clear hc1;refine iA (ι:=Nat) (fun k=>([(13,.int .i64 (k:Int)),(12,.int .i64 (xs.length:Int)),(0,.slice a (List.length xs) c),(1,.slice b (List.length ys) d)],[])) (fun k=>k≤xs.length∧xs.take k=ys.take k) (fun k=>xs.length - k) (0) (⟨aN _,F9⟩) fun k=>fun hk=>?_;obtain ⟨hk1,hk2⟩:=hk;refine bL 6 [] ?_;refine dB (fun hc1=>?_) fun hc1=>?_;refine bL 11 [] ?_;refine dK [] [] T.mixed [[0],[1]] ?_;refine mT (α:=Instr) 2 T.sl23 ?_;refine rT 3 T.agg91 ?_;refine dP [[4],[5]] ?_;refine mT (α:=Instr) 6 T.sl23 ?_;refine rT 7 T.agg91 ?_;refine eD 8 [] F9 (Ml T.ai91 F9 F9) ?_;refine cT ?_;refine cN ?_;refine dB (fun hc2=>?_) fun hc2=>?_;refine bG 11 [] ?_;refine dA ?_;rotate_left;refine bG 7 [] ?_;rotate_left;refine bG 11 [] ?_;refine dA ?_;rotate_left
 · have:xs≠ys:=by rintro rfl;exact hc2 F9
   exact ⟨by simp [this],F9,F9⟩
 · refine cM (k+1) ?_ ?_
   · exact ⟨by omega,Jc sW sW hk2 (fT.1 hc2)⟩
   omega
 have hk:k=xs.length:=sW;subst hk;rw [bD,hl,bD] at hk2;exact ⟨by simp [hk2],F9,F9⟩
theorem c42 (G:A3) (p q:PV) (ac ao bc bo:Option Addr) (cc co dc do_:Nat) (hc:Arr G ac p.code) (ho:Arr G ao p.outs) (hc':Arr G bc q.code) (ho':Arr G bo q.outs) (h1:p.code.length≤1099511627776) (h2:p.outs.length≤1099511627776)
 (h3:q.code.length≤1099511627776) (h4:q.outs.length≤1099511627776) :
 Does Tryz.prog 42 [.agg (I0 p ac cc ao co),.agg #[.int .i64 q.ins,.int .i64 q.regs,.slice bc q.code.length dc,.slice bo q.outs.length do_]] G []
  (fun v G' Ho=>v=.bool (decide (p=q))∧G'=G∧Ho=[]):=by
 refine D0 Tryz.func42 Tryz.ntmps42 fun w=>?_;refine aH 2 [] ?_;refine eC 0 fun b1=>?_;refine eC 1 fun b2=>?_;refine aL 11 [0,1] ?_;apply bW 6 10 16 F9;intro hg1;refine aC 11 [0,1] ?_;exact dI 6 0;intro hg1;refine aC 6 [] ?_;exact dI 6 0;refine aC 1 [] ?_;apply bW 6 17 23 F9;intro hg1;refine aC 9 [0,1] ?_;refine cF F9 (c85 _ _ _ _ _ _ _ sX sX sW sW) ?_;refine aC 1 [] ?_;exact dI 6 0;intro hg1;refine aC 6 [] ?_;exact dI 6 0;refine aC 1 [] ?_;apply bW 6 24 30 F9;intro hg1;refine aC 9 [0,1] ?_;refine cF F9 (kz _ _ _ _ _ _ _ sX sX sW sW) ?_;refine aC 1 [] ?_;exact dI 6 0;intro hg1;refine aC 6 [] ?_;exact dI 6 0;refine aS 4 [] ?_;refine dA ?_;refine ⟨?_,F9,F9⟩;cases p;cases q;simp [and_assoc]
end Go.Proofs.YtkdelpdbjfpgmaaGreatDoor
namespace Go.Proofs.YtkdelpdbjfpgmaaGreatDoor.T
open Go Go.Sl
end Go.Proofs.YtkdelpdbjfpgmaaGreatDoor.T
namespace Go.Proofs.YtkdelpdbjfpgmaaGreatDoor
open Go Go.Sl
theorem ld (G:A3) (hT:TabOk G) (c:Int) (hb:-512≤c∧c≤512):Does Tryz.prog 148 [.int .i64 c] G [] (fun v G' Ho=>v=.tuple #[.int .i64 (wK c),.bool (decide (wK c≠0))]∧G'=G∧Ho=[]):=by
 refine D0 Tryz.func148 Tryz.ntmps148 fun w=>?_;refine aH 12 [] ?_;apply dZ 6 6 12 F9;intro hg1;refine aC 7 [] ?_;refine aQ (lS F9 F9) ?_;refine aC 3 [] ?_;exact dI 6 0;intro hg1;refine aC 6 [] ?_;exact dI 6 0;refine aZ 2 [] ?_;refine dB (fun hc1=>?_) fun hc1=>?_;refine bG 8 [] ?_;refine iB ?_;rotate_left;refine aH 5 [] ?_;refine aQ (cR F9 T.u199 F9) ?_;rotate_left
 · have hp:wK c=0:=by
    rcases hc1 with h | h
    · exact Kx h
    rcases qO c 2 with h2 | h2
    · exact Kx h2
    exact eE fun hn=>h ((Fm ⟨h2,hb.2⟩).2 hn)
   rw [hp];exact ⟨F9,F9,F9⟩
 simp only [not_or,ne_eq,fT] at hc1;have hp:wK c≠0:=(Fm ⟨by omega,hb.2⟩).1 hc1.2;have hw:IntKind.u64.wrap c=c:=by rcases Cp hp with rfl | rfl | rfl | rfl | rfl | rfl | rfl | rfl | rfl <;> rfl
 refine fR 14 F9 (show _=Value.int .u64 c by rw [hw]) ?_;refine cF F9 (ZZ _ sX _ sX) ?_;refine aS 5 [] ?_;refine iB ?_;exact ⟨by simp [hp],F9,F9⟩
theorem BA (G:A3) (op to a c:Int):Does Tryz.prog 149 [.int .i64 op,.int .i64 to,.int .i64 a,.int .i64 c] G [] (fun v G' Ho=>v=.agg (A2.enc (⟨op,to,a,0,c⟩:Sl.Instr)).toArray∧G'=G∧Ho=[]):=by
 refine D0 Tryz.func149 Tryz.ntmps149 fun w=>?_;refine aH 2 [] ?_;refine aM 0 F9 T.zero91 fun b1=>?_;refine aL 8 [] ?_;refine aQ (bP (cs:=[_,_,_,_,_]) T.st91 F9 F9 F9) ?_;refine aS 4 [0] ?_;refine cK (.inr F9) (Ho:=Hp.only _ []) F9 (.agg 0 F9 F9 T.agg91) (aU _ _) ?_;exact ⟨F9,F9,F9⟩
theorem dq (G:A3) (c:Int):Does Tryz.prog 198 [.int .i64 c] G [] (fun v G' Ho=>v=.bool (decide (-512≤c∧c≤512))∧G'=G∧Ho=[]):=by
 refine D0 Tryz.func198 Tryz.ntmps198 fun w=>?_;refine aH 10 [] ?_;apply bW 3 5 8 F9;intro hg1;refine aC 5 [] ?_;exact dI 3 0;intro hg1;refine aC 3 [] ?_;exact dI 3 0;refine aS 4 [] ?_;refine dA ?_;exact ⟨F9,F9,F9⟩
def uF (i:Sl.Instr):Sl.Instr:=
 if i.op=3 then (if i.a=i.b then ⟨7,i.to,i.a,0,1⟩ else i)
 else if i.op=5∨i.op=6 then
  (if i.c=1 then ⟨1,i.to,i.a,0,0⟩ else if i.c=-1 then ⟨2,i.to,i.a,0,0⟩ else if wK i.c≠0 then (if i.op=5 then ⟨7,i.to,i.a,0,wK i.c⟩ else ⟨8,i.to,i.a,0,wK i.c⟩) else i)
 else i
theorem c95 (G:A3) (hT:TabOk G) (i:Sl.Instr) (hb:-512≤i.c∧i.c≤512):Does Tryz.prog 95 [.agg (A2.enc i).toArray] G [] (fun v G' Ho=>v=.agg (A2.enc (uF i)).toArray∧G'=G∧Ho=[]):=by
 refine D0 Tryz.func95 Tryz.ntmps95 fun w=>?_;refine aH 2 [] ?_;refine eC 0 fun b1=>?_;refine aM 1 F9 T.zero91 fun b2=>?_;refine aL 6 [0] ?_;refine cF F9 (ld _ sX _ sW) ?_;refine aZ 21 [0] ?_;refine dB (fun hc1=>?_) fun hc1=>?_;refine bL 9 [0,0] ?_;refine dB (fun hc2=>?_) fun hc2=>?_;refine aH 6 [0,0] ?_;refine cF F9 (BA _ _ _ _ _) ?_;refine aS 6 [1] ?_;refine cK (.inr F9) (Ho:=Hp.only _ []) F9 (.agg 1 F9 F9 T.agg91) (aU _ _) ?_;rotate_left;refine bG 10 [0,1] ?_;refine cK (.inr F9) (Ho:=Hp.only _ []) F9 (.agg 1 F9 F9 T.agg91) (aU _ _) ?_;rotate_left;refine bL 7 [] ?_;refine dB (fun hc2=>?_) fun hc2=>?_;refine bL 12 [1,0] ?_;refine dB (fun hc3=>?_) fun hc3=>?_;refine aH 6 [0,0] ?_;refine cF F9 (BA _ _ _ _ _) ?_;refine aS 7 [1] ?_;refine cK (.inr F9) (Ho:=Hp.only _ []) F9 (.agg 1 F9 F9 T.agg91) (aU _ _) ?_;rotate_left;refine bL 8 [0] ?_;refine dB (fun hc4=>?_) fun hc4=>?_;refine aH 6 [0,0] ?_;refine cF F9 (BA _ _ _ _ _) ?_;refine aS 7 [1] ?_;refine cK (.inr F9) (Ho:=Hp.only _ []) F9 (.agg 1 F9 F9 T.agg91) (aU _ _) ?_;rotate_left;refine aH 4 [] ?_;apply bW 4 48 52 F9;intro hg1;refine aC 7 [0] ?_;exact dI 4 0;intro hg1;refine aC 4 [] ?_;exact dI 4 0;refine aZ 3 [] ?_;refine dB (fun hc5=>?_) fun hc5=>?_;refine aH 7 [0,0] ?_;refine cF F9 (BA _ _ _ _ _) ?_;refine aS 7 [1] ?_;refine cK (.inr F9) (Ho:=Hp.only _ []) F9 (.agg 1 F9 F9 T.agg91) (aU _ _) ?_;rotate_left;refine bG 18 [0,0,1] ?_;refine cK (.inr F9) (Ho:=Hp.only _ []) F9 (.agg 1 F9 F9 T.agg91) (aU _ _) ?_;rotate_left;refine bL 5 [] ?_;refine dB (fun hc3=>?_) fun hc3=>?_;refine bL 9 [0] ?_;refine dB (fun hc4=>?_) fun hc4=>?_;refine aH 6 [0,0] ?_;refine cF F9 (BA _ _ _ _ _) ?_;refine aS 7 [1] ?_;refine cK (.inr F9) (Ho:=Hp.only _ []) F9 (.agg 1 F9 F9 T.agg91) (aU _ _) ?_;rotate_left;refine bL 8 [0] ?_;refine dB (fun hc5=>?_) fun hc5=>?_;refine aH 6 [0,0] ?_;refine cF F9 (BA _ _ _ _ _) ?_;refine aS 7 [1] ?_;refine cK (.inr F9) (Ho:=Hp.only _ []) F9 (.agg 1 F9 F9 T.agg91) (aU _ _) ?_;rotate_left;refine aH 4 [] ?_;apply bW 4 48 52 F9;intro hg1;refine aC 7 [0] ?_;exact dI 4 0;intro hg1;refine aC 4 [] ?_;exact dI 4 0;refine aZ 10 [0] ?_;refine dB (fun hc6=>?_) fun hc6=>?_;refine aH 7 [0,0] ?_;refine cF F9 (BA _ _ _ _ _) ?_;refine aS 7 [1] ?_;refine cK (.inr F9) (Ho:=Hp.only _ []) F9 (.agg 1 F9 F9 T.agg91) (aU _ _) ?_;rotate_left;refine bG 11 [0,1] ?_;refine cK (.inr F9) (Ho:=Hp.only _ []) F9 (.agg 1 F9 F9 T.agg91) (aU _ _) ?_;rotate_left;refine bG 10 [0,1] ?_;refine cK (.inr F9) (Ho:=Hp.only _ []) F9 (.agg 1 F9 F9 T.agg91) (aU _ _) ?_;rotate_left;all_goals refine ⟨?_,F9,F9⟩
 all_goals simp_all [uF]
def dt (c:Int):Prop:=-512≤c∧c≤512
instance (c:Int):Decidable (dt c):=inferInstanceAs (Decidable (_∧_))
def vS (f c s d:Int):Int×Int×Bool:=
 if f=1 then (s,d,true)
 else if f=2 then (if s=1 then (2,0,true) else if s=2 then (1,0,true) else if s=5∨s=6 then (s,-d,true) else (0,0,false))
 else if f=5 then (if s=2 then (5,-c,true) else if s=5∧-512≤c*d∧c*d≤512 then (5,c*d,true) else if s=6∧c.tmod d=0 then (5,c.tdiv d,true) else if s=6∧d.tmod c=0 then (6,d.tdiv c,true) else (0,0,false))
 else if f=6 then (if s=2 then (6,-c,true) else if s=6∧-512≤c*d∧c*d≤512 then (6,c*d,true) else (0,0,false))
 else if f=7 then (if s=7∧c+d≤64 then (7,c+d,true) else if s≠8 then (0,0,false) else if c=d then (1,0,true) else if d<c then (7,c - d,true) else (8,d - c,true))
 else if f=8 then (if s=8∧c+d≤64 then (8,c+d,true) else (0,0,false))
 else (0,0,false)
theorem zN {op c:Int} (h:tK op c=true):-512≤c∧c≤512:=by
 unfold tK at h
 repeat' split at h
 all_goals simp only [aV] at h
 all_goals omega
theorem yG {op c:Int} (h:tK op c=true) (ho:op=5∨op=6):c≠0:=by
 unfold tK at h;rw [aE ho,aV] at h;exact h.1
theorem KB {c d:Int} (hc:-512≤c∧c≤512) (hd:-512≤d∧d≤512):-9223372036854775808≤c*d∧c*d≤9223372036854775807:=by
 have h1:c.natAbs≤512:=sW;have h2:d.natAbs≤512:=sW;have h3:(c*d).natAbs≤512*512:=by rw [gG];exact gV h1 h2
 omega
theorem Fv {c d:Int} (hc:-512≤c∧c≤512):-512≤c.tdiv d∧c.tdiv d≤512:=by
 have h3:(c.tdiv d).natAbs≤c.natAbs:=by rw [mY];exact Nat.div_le_self _ _
 omega
theorem lf (G:A3) (f c s d:Int) (hc:tK f c=true) (hd:tK s d=true):Does Tryz.prog 150 [.int .i64 f,.int .i64 c,.int .i64 s,.int .i64 d] G [] (fun v G' Ho=>v=.tuple #[.int .i64 (vS f c s d).1,.int .i64 (vS f c s d).2.1,.bool (vS f c s d).2.2]∧G'=G∧Ho=[]):=by
 have hc2:=zN hc;have hd2:=zN hd;have hm:=KB hc2 hd2;have hq1:=Fv (d:=d) hc2;have hq2:=Fv (d:=c) hd2;have hcz:=yG hc;have hdz:=yG hd;refine D0 Tryz.func150 Tryz.ntmps150 fun w=>?_;refine bL 20 [] ?_;refine dB (fun hc1=>?_) fun hc1=>?_;refine bG 12 [] ?_;refine kT ?_;rotate_left;refine bL 6 [] ?_;refine dB (fun hc3=>?_) fun hc3=>?_;refine bL 12 [] ?_;refine dB (fun hc4=>?_) fun hc4=>?_;refine bG 11 [] ?_;refine kT ?_;rotate_left;refine bL 6 [] ?_;refine dB (fun hc5=>?_) fun hc5=>?_;refine bG 11 [] ?_;refine kT ?_;rotate_left;refine bL 7 [] ?_;refine dB (fun hc6=>?_) fun hc6=>?_;refine aH 7 [1] ?_;refine aQ (rD F9 sW) ?_;refine aS 9 [] ?_;refine kT ?_;rotate_left;refine bL 5 [] ?_;refine dB (fun hc7=>?_) fun hc7=>?_;refine aH 4 [] ?_;refine aQ (rD F9 sW) ?_;refine aS 9 [] ?_;refine kT ?_;rotate_left;refine bG 12 [] ?_;refine kT ?_;rotate_left;refine bL 6 [] ?_;refine dB (fun hc4=>?_) fun hc4=>?_;refine bL 8 [] ?_;refine dB (fun hc5=>?_) fun hc5=>?_;refine aH 3 [] ?_;refine aQ (rD F9 sW) ?_;refine aS 9 [] ?_;refine kT ?_;rotate_left;refine aH 5 [] ?_;apply bW 5 39 44 F9;intro hg1;refine aC 5 [] ?_;refine aQ (mD F9 F9 sW) ?_;refine aC 1 [] ?_;refine cF F9 (dq _ _) ?_;refine aC 1 [] ?_;exact dI 5 0;intro hg1;refine aC 5 [] ?_;exact dI 5 0;refine aZ 3 [] ?_;refine dB (fun hc6=>?_) fun hc6=>?_;refine aH 4 [] ?_;refine aQ (mD F9 F9 sW) ?_;refine aS 9 [] ?_;refine kT ?_;rotate_left;refine aH 5 [] ?_;apply bW 5 51 56 F9;intro hg1;refine aC 5 [] ?_;refine aQ (sN F9 F9 sW) ?_;refine aC 3 [] ?_;exact dI 5 0;intro hg1;refine aC 5 [] ?_;exact dI 5 0;refine aZ 3 [] ?_;refine dB (fun hc7=>?_) fun hc7=>?_;refine dN ?_;refine dK [] [] T.mixed [[0],[1]] ?_;refine eD 2 [] F9 (oK F9 F9 sW sW) ?_;refine dP [[3],[4],[5]] ?_;refine cT ?_;refine dO 5 [] ?_;refine kT ?_;rotate_left;refine aH 5 [] ?_;apply bW 5 63 68 F9;intro hg1;refine aC 5 [] ?_;refine aQ (sN F9 F9 sW) ?_;refine aC 3 [] ?_;exact dI 5 0;intro hg1;refine aC 5 [] ?_;exact dI 5 0;refine aZ 3 [] ?_;refine dB (fun hc8=>?_) fun hc8=>?_;refine dN ?_;refine dK [] [] T.mixed [[0],[1]] ?_;refine eD 2 [] F9 (oK F9 F9 sW sW) ?_;refine dP [[3],[4],[5]] ?_;refine cT ?_;refine dO 5 [] ?_;refine kT ?_;rotate_left;refine bG 12 [] ?_;refine kT ?_;rotate_left;refine bL 6 [] ?_;refine dB (fun hc5=>?_) fun hc5=>?_;refine bL 8 [] ?_;refine dB (fun hc6=>?_) fun hc6=>?_;refine aH 3 [] ?_;refine aQ (rD F9 sW) ?_;refine aS 9 [] ?_;refine kT ?_;rotate_left;refine aH 5 [] ?_;apply bW 5 82 87 F9;intro hg1;refine aC 5 [] ?_;refine aQ (mD F9 F9 sW) ?_;refine aC 1 [] ?_;refine cF F9 (dq _ _) ?_;refine aC 1 [] ?_;exact dI 5 0;intro hg1;refine aC 5 [] ?_;exact dI 5 0;refine aZ 3 [] ?_;refine dB (fun hc7=>?_) fun hc7=>?_;refine aH 4 [] ?_;refine aQ (mD F9 F9 sW) ?_;refine aS 9 [] ?_;refine kT ?_;rotate_left;refine bG 12 [] ?_;refine kT ?_;rotate_left;refine bL 6 [] ?_;refine dB (fun hc6=>?_) fun hc6=>?_;refine aH 6 [] ?_;apply bW 5 99 104 F9;intro hg1;refine aC 9 [] ?_;exact dI 5 0;intro hg1;refine aC 5 [] ?_;exact dI 5 0;refine aZ 3 [] ?_;refine dB (fun hc7=>?_) fun hc7=>?_;refine bG 14 [] ?_;refine kT ?_;rotate_left;refine bL 7 [] ?_;refine dB (fun hc8=>?_) fun hc8=>?_;refine bG 12 [] ?_;refine kT ?_;rotate_left;refine bL 8 [] ?_;refine dB (fun hc9=>?_) fun hc9=>?_;refine bG 11 [] ?_;refine kT ?_;rotate_left;refine bL 8 [] ?_;refine dB (fun hc10=>?_) fun hc10=>?_;refine bG 14 [] ?_;refine kT ?_;rotate_left;refine bG 14 [] ?_;refine kT ?_;rotate_left;refine bL 6 [] ?_;refine dB (fun hc7=>?_) fun hc7=>?_;refine aH 5 [] ?_;apply bW 5 126 131 F9;intro hg1;refine aC 9 [] ?_;exact dI 5 0;intro hg1;refine aC 5 [] ?_;exact dI 5 0;refine aZ 2 [] ?_;refine dB (fun hc8=>?_) fun hc8=>?_;refine bG 13 [] ?_;refine kT ?_;rotate_left;refine bG 11 [] ?_;refine kT ?_;rotate_left;refine bG 11 [] ?_;refine kT ?_;rotate_left;all_goals refine ⟨?_,F9,F9⟩
 all_goals clear hc hd hm hq1 hq2 hcz hdz hc2 hd2
 all_goals simp_all [vS]
 all_goals repeat' split
 all_goals first
  | exact ⟨F9,F9,F9⟩
  | (rename_i h;exfalso;omega)
  | (rename_i h;exfalso;first | exact hc7 h.1 h.2 | exact hc8 h.1 h.2)
theorem Ug (c:Int):0≤wK c∧wK c≤9:=by
 unfold wK
 repeat' split
 all_goals omega
theorem zZ {i:Sl.Instr} (h:tK i.op i.c=true):tK (uF i).op (uF i).c=true:=by
 have hp:=Ug i.c;unfold uF
 repeat' split
 all_goals first | exact h | (simp [tK];try omega)
theorem xN {op c:Int} (h:tK op c=true) (ho:op=7∨op=8):1≤c∧c≤64:=by
 unfold tK at h;rw [aD (by omega),aE ho,aV] at h;exact h
theorem PW {c d:Int} (hc:c≠0) (h:c.tmod d=0):c.tdiv d≠0:=by
 intro h0;have e:=Int.mul_tdiv_add_tmod c d;rw [h0,h,bR] at e;omega
theorem Bl {op c:Int} (ho:op=5∨op=6) (h0:c≠0) (h:-512≤c∧c≤512):tK op c=true:=by
 unfold tK;rw [aE ho,aV];exact ⟨h0,h⟩
theorem Jx {op c:Int} (ho:op=7∨op=8) (h:1≤c∧c≤64):tK op c=true:=by
 unfold tK;rw [aD (by omega),aE ho,aV];exact h
theorem Fw {f c s d:Int} (hc:tK f c=true) (hd:tK s d=true):tK (vS f c s d).1 (vS f c s d).2.1=true∨(vS f c s d).2.2=false:=by
 have hc2:=zN hc;have hd2:=zN hd;have hq1:=Fv (d:=d) hc2;have hq2:=Fv (d:=c) hd2;have hcz:=yG hc;have hdz:=yG hd;have hcs:=xN hc;have hds:=xN hd;unfold vS;by_cases h1:f=1
 · rw [aE h1];exact .inl hd
 rw [aD h1];by_cases h2:f=2
 · rw [aE h2];split
   · exact .inl F9
   split
   · exact .inl F9
   split
   · rename_i h;exact .inl (Bl h (by have:=hdz h;show -d≠0;omega) (by show -512≤-d∧-d≤512;omega))
   exact .inr F9
 rw [aD h2];by_cases h5:f=5
 · have hc0:=hcz (.inl h5);rw [aE h5];split
   · exact .inl (Bl (.inl F9) (by show -c≠0;omega) (by show -512≤-c∧-c≤512;omega))
   split
   · rename_i h;exact .inl (Bl (.inl F9) (Int.mul_ne_zero hc0 (hdz (.inl h.1))) h.2)
   split
   · rename_i h;exact .inl (Bl (.inl F9) (PW hc0 h.2) hq1)
   split
   · rename_i h;exact .inl (Bl (.inr F9) (PW (hdz (.inr h.1)) h.2) hq2)
   exact .inr F9
 rw [aD h5];by_cases h6:f=6
 · have hc0:=hcz (.inr h6);rw [aE h6];split
   · exact .inl (Bl (.inr F9) (by show -c≠0;omega) (by show -512≤-c∧-c≤512;omega))
   split
   · rename_i h;exact .inl (Bl (.inr F9) (Int.mul_ne_zero hc0 (hdz (.inr h.1))) h.2)
   exact .inr F9
 rw [aD h6];by_cases h7:f=7
 · have h3:=hcs (.inl h7);rw [aE h7];split
   · rename_i h;have h4:=hds (.inl h.1);exact .inl (Jx (.inl F9) (by show 1≤c+d∧c+d≤64;omega))
   split
   · exact .inr F9
   rename_i h8;have h4:=hds (.inr sW);split
   · exact .inl F9
   split
   · exact .inl (Jx (.inl F9) (by show 1≤c - d∧c - d≤64;omega))
   exact .inl (Jx (.inr F9) (by show 1≤d - c∧d - c≤64;omega))
 rw [aD h7];by_cases h8:f=8
 · have h3:=hcs (.inr h8);rw [aE h8];split
   · rename_i h;have h4:=hds (.inr h.1);exact .inl (Jx (.inr F9) (by show 1≤c+d∧c+d≤64;omega))
   exact .inr F9
 rw [aD h8];exact .inr F9
section
attribute [local irreducible] uF vS wK tK
def uV (a b:Sl.Instr):Sl.Instr×Bool:=
 if b.op=3∨b.op=4∨b.a≠a.to∨b.to≠a.to then (⟨0,0,0,0,0⟩,false)
 else if (vS a.op a.c b.op b.c).2.2=true then (uF ⟨(vS a.op a.c b.op b.c).1,b.to,a.a,0,(vS a.op a.c b.op b.c).2.1⟩,true) else (⟨0,0,0,0,0⟩,false)
theorem c96 (G:A3) (hT:TabOk G) (a b:Sl.Instr) (ha:tK a.op a.c=true) (hb:tK b.op b.c=true) :
 Does Tryz.prog 96 [.agg (A2.enc a).toArray,.agg (A2.enc b).toArray] G [] (fun v G' Ho=>v=.tuple #[.agg (A2.enc (uV a b).1).toArray,.bool (uV a b).2]∧G'=G∧Ho=[]):=by
 have ht:=Fw ha hb;refine D0 Tryz.func96 Tryz.ntmps96 fun w=>?_;refine aH 2 [] ?_;refine eC 0 fun b1=>?_;refine eC 1 fun b2=>?_;refine aM 2 F9 T.zero91 fun b3=>?_;refine aL 10 [1] ?_;apply dZ 4 12 16 F9;intro hg1;refine aC 7 [1] ?_;exact dI 4 0;intro hg1;refine aC 4 [] ?_;exact dI 4 0;refine aC 1 [] ?_;apply dZ 6 17 23 F9;intro hg1;refine aC 11 [1,0] ?_;exact dI 6 0;intro hg1;refine aC 6 [] ?_;exact dI 6 0;refine aC 1 [] ?_;apply dZ 6 24 30 F9;intro hg1;refine aC 11 [1,0] ?_;exact dI 6 0;intro hg1;refine aC 6 [] ?_;exact dI 6 0;refine aZ 2 [] ?_;refine dB (fun hc1=>?_) fun hc1=>?_;refine aH 2 [] ?_;refine aQ (bP (cs:=[_,_,_,_,_]) T.st91 F9 F9 F9) ?_;refine aS 6 [2] ?_;refine iC (.inr F9) (Ho:=Hp.only _ []) F9 (.agg 2 F9 F9 T.agg91) (.tmp F9) (aU _ _) ?_;rotate_left;refine aH 12 [0,0,1,1] ?_;refine cF F9 (lf _ _ _ _ _ sX sX) ?_;refine aZ 16 [] ?_;refine lN F9 (fun hc2=>?_) fun hc2=>?_;refine aH 2 [] ?_;refine aQ (bP (cs:=[_,_,_,_,_]) T.st91 F9 F9 F9) ?_;refine aS 6 [2] ?_;refine iC (.inr F9) (Ho:=Hp.only _ []) F9 (.agg 2 F9 F9 T.agg91) (.tmp F9) (aU _ _) ?_;rotate_left;refine aH 10 [1,0] ?_;refine cF F9 (BA _ _ _ _ _) ?_;rotate_left
 · refine ⟨?_,F9,F9⟩;rw [uV,aE (by omega)];rfl
 · refine ⟨?_,F9,F9⟩;rw [uV,aD (by omega),aD (by simpa using hc2)];rfl
 have hok:(vS a.op a.c b.op b.c).2.2=true:=by simpa using hc2
 have hcf:tK (vS a.op a.c b.op b.c).1 (vS a.op a.c b.op b.c).2.1=true:=by
  rcases ht with h | h
  · exact h
  rw [h] at hok;cases hok
 refine cF F9 (c95 _ hT ⟨(vS a.op a.c b.op b.c).1,b.to,a.a,0,(vS a.op a.c b.op b.c).2.1⟩ (zN hcf)) ?_;refine aS 5 [2] ?_;refine iC (.inr F9) (Ho:=Hp.only _ []) F9 (.agg 2 F9 F9 T.agg91) (.tmp F9) (aU _ _) ?_;refine ⟨?_,F9,F9⟩;rw [uV,aD (by omega),aE hok]
theorem Bm {i:Sl.Instr} {r:Int} (h:tI i r=true):tK i.op i.c=true:=by
 unfold tI at h;rw [aW,aW] at h;exact h.1.2
end
section
attribute [local irreducible] vS tK
def tw (m:Nat):Int:=((2 ^ m:Nat):Int)
theorem YR {c:Int} (h:wK c≠0):∃ m:Nat,1≤m∧m≤9∧c=tw m∧wK c=m:=by
 rcases Cp h with rfl | rfl | rfl | rfl | rfl | rfl | rfl | rfl | rfl
 · exact ⟨1,by decide⟩
 · exact ⟨2,by decide⟩
 · exact ⟨3,by decide⟩
 · exact ⟨4,by decide⟩
 · exact ⟨5,by decide⟩
 · exact ⟨6,by decide⟩
 · exact ⟨7,by decide⟩
 · exact ⟨8,by decide⟩
 exact ⟨9,by decide⟩
attribute [local irreducible] wK
attribute [local irreducible] uF
end
end Go.Proofs.YtkdelpdbjfpgmaaGreatDoor
