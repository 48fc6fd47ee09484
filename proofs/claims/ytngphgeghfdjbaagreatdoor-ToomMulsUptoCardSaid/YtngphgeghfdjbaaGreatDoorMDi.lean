/- wG of the proof (part 9): what the rows' text needs of the texts that lead to it. -/
import Derived.Test.YtngphgeghfdjbaaGreatDoorMDh
set_option linter.unusedVariables false
set_option linter.unusedSimpArgs false
set_option linter.unusedSectionVars false
set_option maxHeartbeats 4000000
noncomputable section
set_option maxRecDepth 100000
namespace Go.Proofs.YtngphgeghfdjbaaGreatDoor
open Go Go.Sl
def FX (xs:List Int):Prop:=∀ x∈xs,-9223372036854775808≤x∧x≤9223372036854775807
theorem kw (n:Nat):pb n=pw (2*n):=by
 unfold pb pw;rw [sD]
theorem SR {m k:Nat} {zs:List Int} (h:Below m zs) (hk:2*m≤k):Go.Sl.Below k zs:=fun z hz=>jJ (h z hz) (by rw [kw];exact Zs hk)
theorem Bk {xs:List Int} (h:FX xs):Below 2 xs:=fun z hz=>by
 have:=h z hz;have e:pb 2=18446744073709551616:=by unfold pb;rfl
 rw [e];omega
theorem df (G:A3) (a b:Option Addr) (ca cb:Nat) (la lb:List IV) (zs:List Int) (ha:Arr G a la) (hb:Arr G b lb) (hA:A8 G la zs) (hB:D1 G lb zs) (h1:zs.length≤1048576) (ba:Below 5 zs) :
 Does Tryz.prog 22 [.slice a la.length ca,.slice b lb.length cb] G [] (fun v G' Ho=>v=.bool true∧Ho=[]):=
 (c22 G a b ca cb la lb zs zs ha hb hA hB (by rw [hA.1];exact h1) 5 10 uR uR ba (SR ba uR)).mono fun v G' Ho _ hp=>⟨by rw [hp.1,cX rfl],hp.2⟩
theorem ur (G:A3) (a b:Option Addr) (ca cb:Nat) (la lb:List IV) (xs ys:List Int) (ha:Arr G a la) (hb:Arr G b lb) (hA:D1 G la xs) (hB:D1 G lb ys) (h1:xs.length≤80) (h2:ys.length≤80) (hx:FX xs) (hy:FX ys) :
 Does Tryz.prog 23 [.slice a la.length ca,.slice b lb.length cb] G [] (fun v G' Ho=>∃ (o:Option Addr) (r:List IV) (c:Nat),v=.slice o r.length c∧Arr G' o r∧D1 G' r (wT xs ys)∧Ho=[]):=
 c23 G a b ca cb la lb xs ys ha hb hA hB (by rw [hA.1];omega) (by rw [hB.1];omega) hx hy
theorem YE {u:UV} {k1 k2 n1 n2:Nat} {th:Int} (hc:Cnt u k1 k2) (hm:max n1 n2≤2048) (hst:Ct u≤49152):(wP k1 k2 u.pl.length (Ct u) th n1 n2).small:=by
 obtain ⟨g1,g2,g3,g4⟩:=Vn (st:=Ct u) (th:=th) hc.a1 hc.b1 hc.a2 hc.b2 hc.n hm hst;exact ⟨by omega,by omega,by omega,by omega⟩
theorem ut (u:UV) (h:UH) (b k1 k2:Nat) (th:Int) (hc:Cnt u k1 k2) (hU:vN u.k1 u.k2 u.pl u.x u.y u.z=(0,0)) (hst:Ct u≤600) (G:A3) (hT:C6 G) (hb:B7 G b (uC u h)) (hi:I0 G u h) (aa ab:Option Addr) (ca cb:Nat) (la lb:List IV) (xs ys:List Int) (ha:Arr G aa la) (hab:Arr G ab lb) (hca:la.length≤ca) (hcb:lb.length≤cb) (hA:A8 G la xs) (hB:A8 G lb ys) (hx:FX xs) (hy:FX ys)
 (h1:xs.length≤80) (h2:ys.length≤80) :
 Does Tryz.prog 21 [.pointer (some ⟨b,0,none⟩),.slice aa la.length ca,.slice ab lb.length cb,.int .i64 th] G [] (fun v G' Ho=>∃ (o:Option Addr) (c:Nat) (q:List IV),v=.tuple #[.slice o q.length c,.agg (gh (wP k1 k2 u.pl.length (Ct u) th xs.length ys.length)).toArray,.int .i64 0]∧
  Arr G' o q∧(q.length=0↔o=none)∧A8 G' q (wT xs ys)∧Ho=[]):=by
 have e1:=hA.1;have e2:=hB.1;have hs:u.x.code.length+u.y.code.length+u.z.code.length≤600:=hst;have hd:=cf hc.a1 hc.a2 th (j:=7) (n1:=la.length) (n2:=lb.length) uR (show max la.length lb.length≤2 ^ 7 by have:(2 ^ 7:Nat)=128:=rfl;omega);have hU':vN (k1:Int) (k2:Int) u.pl u.x u.y u.z=(0,0):=by rw [←hc.e1,←hc.e2];exact hU
 have hF:=YE (th:=th) (n1:=la.length) (n2:=lb.length) hc uJ (aP hst uR);refine (c21 u h b k1 k2 600 600 th hc.e1 hc.e2 hU' uJ uJ uJ G hT hb hi aa ab ca cb la lb xs ys 2 ha hab hca hcb hA hB (Bk hx) (Bk hy) uJ uJ ?_ hF).mono fun v G' Ho _ ⟨o,c,q,g1,g2,g3,g4,g5,g6,g7⟩=>?_
 · unfold Nd;have:=dQ (6*600+3*600+1) hd;omega
 rw [←e1,←e2];exact ⟨o,c,q,g1,g2,g4,g6,g7⟩
section
attribute [local irreducible] vN Vw uZ IZ vZ zA wT uM uS pw pb Te
theorem c3 (hWorks:∀ G,TabOk G→Does Tryz.prog 16 [] G [] (fun v G' Ho=>v=.bool (decide (1=1))∧G'=G∧Ho=[])) (G:A3) (hT:TabOk G) (hT32:C6 G) (u:UV) (h:UH) (i:I0 G u h) (hB:I6 u) (th:Int)
 (aa ab:Option Addr) (ca cb:Nat) (xs ys:List Int) (ha:Arr G aa xs) (hb:Arr G ab ys) (hx:FX xs) (hy:FX ys) :
 Does Tryz.prog 3 [.agg (uC u h).toArray,.slice aa xs.length ca,.slice ab ys.length cb,.int .i64 th] G [] (fun v G' Ho=>v=.bool true∧Ho=[]):=by
 refine bU Tryz.func3 U Tryz.ntmps3 U fun w=>?_;refine aL 2 [] ?_;refine gU 0 U U U fun b1=>?_;refine aN 6 [] ?_;refine dC U (hWorks _ hT) ?_;refine aU U (gF U) ?_;refine aN 9 [0,0] ?_;refine dC U (uq _ u h hB) ?_;refine aF 1 [] ?_;refine Ua 20 U (fun hg1=>?_) fun hg1=>?_;refine bA 19 [1] ?_;refine cZ ?_;rotate_left;refine aF 8 [] ?_;apply fG 4 25 29 U;intro hg1;refine aF 7 [] ?_;exact kR 4 0 U U U U U;intro hg1;refine aF 4 [] ?_;exact kR 4 0 U U U U U;refine bY 2 [] ?_;refine jF U (fun hc1=>?_) fun hc1=>?_;refine cJ 7 [] ?_;refine cZ ?_;rotate_left;refine aL 5 [0] ?_;rotate_left
 · exact ⟨U,U⟩
 · exact ⟨U,U⟩
 have hlw:Vw u h=false:=by assumption
 have hle80:¬(80<(xs.length:Int)∨80<(ys.length:Int)):=by assumption
 have hxl:xs.length≤80:=uJ;have hyl:ys.length≤80:=uJ;clear hle80;obtain ⟨m,hlen,hpl15⟩:=SQ (u:=u) (h:=h) hB hlw;by_cases hU:(vN u.k1 u.k2 u.pl u.x u.y u.z).2=0
 case neg =>
  refine cQ 1 U (uo _ u h i m hU) fun v1 G1 Ho1 hle1 hp=>?_;obtain ⟨rfl,rfl⟩:=hp;replace i:=i.up hle1;replace ha:=ha.up hle1;replace hb:=hb.up hle1;refine aN 18 [1] ?_;refine aU U (Qy.eqlPtrNil uO U U) ?_;refine bA 5 [] ?_;refine cZ ?_;exact ⟨by rw [cX rfl],U⟩
 case pos =>
  obtain ⟨k1,k2,hc⟩:=SP (Vv hU);have hst:Ct u≤600:=hlen;obtain ⟨F,hF⟩:∃ F,F=wP k1 k2 u.pl.length (Ct u) th xs.length ys.length:=⟨_,U⟩
  have h19:∀ G,Does Tryz.prog 19 [.agg (uC u h).toArray,.int .i64 (xs.length:Int),.int .i64 (ys.length:Int),.int .i64 th] G [] (fun v G' Ho=>v=.agg (gh F).toArray∧G'=G∧Ho=[]):=fun G=>by
   rw [hF];exact c19 G u h k1 k2 hc (aP hst uR) th _ xs.length ys.length U uJ
  have hcl:(wT xs ys).length≤160:=by
   rcases dD xs.length with h0 | h0
   · rw [Gc (.inl h0)];exact aS _
   rcases dD ys.length with h1 | h1
   · rw [Gc (.inr h1)];exact aS _
   rw [Dd h0 h1];omega
  have hBc:Below 5 (wT xs ys):=Qp (Bk hx) (Bk hy) uJ;have hBx:Below 5 xs:=(Bk hx).mono uR;have hBy:Below 5 ys:=(Bk hy).mono uR;refine cQ 1 U (kv _ u h i m hU) fun v1 G1 Ho1 hle1 hp=>?_;obtain ⟨bm1,hm1,rfl,hM1,hI1,rfl⟩:=hp;replace i:=i.up hle1;replace ha:=ha.up hle1;replace hb:=hb.up hle1;refine aN 25 [0,0] ?_;refine dC U (h19 _) ?_;refine bB 1 U T.zero37 fun b2=>?_;refine bY 11 [1,1] ?_;refine jF U (fun hc2=>?_) fun hc2=>?_;refine cJ 7 [] ?_;refine cZ ?_;rotate_left;refine aL 5 [] ?_;refine cQ 2 U (c20 _ _ _ _ uK uJ uK) fun v2 G2 Ho2 hle2 hp=>?_;obtain ⟨lb2,lr2,ld2,rfl,hlA2,hlN2,hlc2,rfl⟩:=hp;replace hM1:=hM1.up hle2;replace hI1:=hI1.up hle2;replace i:=i.up hle2;replace ha:=ha.up hle2;replace hb:=hb.up hle2;refine aF 1 [] ?_;refine cQ 2 U (c20 _ _ _ _ uK uJ uK) fun v3 G3 Ho3 hle3 hp=>?_;obtain ⟨lb3,lr3,ld3,rfl,hlA3,hlN3,hlc3,rfl⟩:=hp;replace hlA2:=hlA2.up hle3;replace hlN2:=hlN2.up hle3;replace hM1:=hM1.up hle3;replace hI1:=hI1.up hle3;replace i:=i.up hle3;replace ha:=ha.up hle3;replace hb:=hb.up hle3;refine aN 10 [] ?_;rotate_left
  · exact ⟨U,U⟩
  have h21:=ut u hm1 bm1 k1 k2 th hc (Vv hU) hst _ (hT32.up (bH hle1 (bH hle2 hle3))) hM1 hI1 lb2 lb3 ld2 ld3 lr2 lr3 xs ys hlA2 hlA3 hlc2 hlc3 hlN2 hlN3 hx hy hxl hyl;rw [←hF] at h21;refine cQ 2 U h21 fun v9 G9 Ho9 hle9 hp9=>?_;obtain ⟨o,c,q,rfl,hqA,hq0,hqB,rfl⟩:=hp9;replace ha:=ha.up hle9;replace hb:=hb.up hle9;replace hlA2:=hlA2.up hle9;replace hlA3:=hlA3.up hle9;replace hlN2:=hlN2.up hle9;replace hlN3:=hlN3.up hle9;clear h21 hM1 hI1 i hT;have hE:decide (o=none)=decide ((q.length:Int)=0):=gT.2 (by rw [←hq0];omega);have hTL:([(F.lv:Int),(F.ca:Int),(F.pr:Int),(F.st:Int)]:List Int)=[(F.lv:Int),(F.ca:Int),(F.pr:Int),(F.st:Int)]:=rfl;refine aF 4 [] ?_;refine bB 2 U T.zero37 fun b3=>?_;refine aN 10 [2] ?_;refine rX 64 U vG ?_;refine aF 5 [] ?_;refine cQ 3 U (ou _ _ _ _ uK uJ uK) fun v4 G4 Ho4 hle4 hp=>?_;obtain ⟨rb4,rr4,rd4,rfl,hrA4,hrN4,hrc4,rfl⟩:=hp;replace hqA:=hqA.up hle4;replace hqB:=hqB.up hle4;replace ha:=ha.up hle4;replace hb:=hb.up hle4;replace hlA2:=hlA2.up hle4;replace hlA3:=hlA3.up hle4;replace hlN2:=hlN2.up hle4;replace hlN3:=hlN3.up hle4;refine aF 3 [] ?_;refine cQ 3 U (ou _ _ _ _ uK uJ uK) fun v5 G5 Ho5 hle5 hp=>?_;obtain ⟨rb5,rr5,rd5,rfl,hrA5,hrN5,hrc5,rfl⟩:=hp;replace hrA4:=hrA4.up hle5;replace hrN4:=hrN4.up hle5;replace hqA:=hqA.up hle5;replace hqB:=hqB.up hle5;replace ha:=ha.up hle5;replace hb:=hb.up hle5;replace hlA2:=hlA2.up hle5;replace hlA3:=hlA3.up hle5;replace hlN2:=hlN2.up hle5;replace hlN3:=hlN3.up hle5;refine aF 1 [] ?_;refine cQ 3 U (ur _ _ _ _ _ _ _ xs ys uK uK uK uK uJ uJ hx hy) fun v6 G6 Ho6 hle6 hp=>?_;obtain ⟨po,pr,pc,rfl,hpA,hpN,rfl⟩:=hp;replace hrA5:=hrA5.up hle6;replace hrN5:=hrN5.up hle6;replace hrA4:=hrA4.up hle6;replace hrN4:=hrN4.up hle6;replace hqA:=hqA.up hle6;replace hqB:=hqB.up hle6;replace ha:=ha.up hle6;replace hb:=hb.up hle6;replace hlA2:=hlA2.up hle6;replace hlA3:=hlA3.up hle6;replace hlN2:=hlN2.up hle6;replace hlN3:=hlN3.up hle6;refine aF 1 [] ?_;refine cQ 3 U (df _ _ _ _ _ _ _ _ uK uK uK uK uJ uK) fun v7 G7 Ho7 hle7 hp=>?_;obtain ⟨rfl,rfl⟩:=hp;replace hpA:=hpA.up hle7;replace hpN:=hpN.up hle7;replace hrA5:=hrA5.up hle7;replace hrN5:=hrN5.up hle7;replace hrA4:=hrA4.up hle7;replace hrN4:=hrN4.up hle7;replace hqA:=hqA.up hle7;replace hqB:=hqB.up hle7;replace ha:=ha.up hle7;replace hb:=hb.up hle7;replace hlA2:=hlA2.up hle7;replace hlA3:=hlA3.up hle7;replace hlN2:=hlN2.up hle7;replace hlN3:=hlN3.up hle7;refine aF 5 [] ?_;refine aU U (iG T.sl39 U U) ?_;refine aF 7 [] ?_;refine aU U (rL T.u4 U U) ?_;refine aF 2 [] ?_;refine rX 81 U vG ?_;refine aF 5 [2,1] ?_;refine aU U (Nh [_,_,_,_] [_,_,_,_] T.ai37 U U U U) ?_;refine aF 2 [] ?_;refine rX 86 U vG ?_;refine aF 5 [] ?_;refine cQ 3 U (ou _ _ _ _ uK uJ uK) fun v8 G8 Ho8 hle8 hp=>?_;obtain ⟨rb8,rr8,rd8,rfl,hrA8,hrN8,hrc8,rfl⟩:=hp;replace hpA:=hpA.up hle8;replace hpN:=hpN.up hle8;replace hrA5:=hrA5.up hle8;replace hrN5:=hrN5.up hle8;replace hrA4:=hrA4.up hle8;replace hrN4:=hrN4.up hle8;replace hqA:=hqA.up hle8;replace hqB:=hqB.up hle8;replace ha:=ha.up hle8;replace hb:=hb.up hle8;replace hlA2:=hlA2.up hle8;replace hlA3:=hlA3.up hle8;replace hlN2:=hlN2.up hle8;replace hlN3:=hlN3.up hle8;refine aF 1 [] ?_;refine cQ 3 U (df _ _ _ _ _ _ _ _ uK uK uK uK uJ uK) fun v10 G10 Ho10 hle10 hp=>?_;obtain ⟨rfl,rfl⟩:=hp;replace hrA8:=hrA8.up hle10;replace hrN8:=hrN8.up hle10;replace hpA:=hpA.up hle10;replace hpN:=hpN.up hle10;replace hrA5:=hrA5.up hle10;replace hrN5:=hrN5.up hle10;replace hrA4:=hrA4.up hle10;replace hrN4:=hrN4.up hle10;replace hqA:=hqA.up hle10;replace hqB:=hqB.up hle10;replace ha:=ha.up hle10;replace hb:=hb.up hle10;replace hlA2:=hlA2.up hle10;replace hlA3:=hlA3.up hle10;replace hlN2:=hlN2.up hle10;replace hlN3:=hlN3.up hle10;refine aF 7 [] ?_;refine cQ 3 U (ou _ _ _ _ uK uJ uK) fun v11 G11 Ho11 hle11 hp=>?_;obtain ⟨rb11,rr11,rd11,rfl,hrA11,hrN11,hrc11,rfl⟩:=hp;replace hrA8:=hrA8.up hle11;replace hrN8:=hrN8.up hle11;replace hpA:=hpA.up hle11;replace hpN:=hpN.up hle11;replace hrA5:=hrA5.up hle11;replace hrN5:=hrN5.up hle11;replace hrA4:=hrA4.up hle11;replace hrN4:=hrN4.up hle11;replace hqA:=hqA.up hle11;replace hqB:=hqB.up hle11;replace ha:=ha.up hle11;replace hb:=hb.up hle11;replace hlA2:=hlA2.up hle11;replace hlA3:=hlA3.up hle11;replace hlN2:=hlN2.up hle11;replace hlN3:=hlN3.up hle11;refine aF 1 [] ?_;refine cQ 3 U (df _ _ _ _ _ _ _ _ uK uK uK uK uJ uK) fun v12 G12 Ho12 hle12 hp=>?_;obtain ⟨rfl,rfl⟩:=hp;replace hrA11:=hrA11.up hle12;replace hrN11:=hrN11.up hle12;replace hrA8:=hrA8.up hle12;replace hrN8:=hrN8.up hle12;replace hpA:=hpA.up hle12;replace hpN:=hpN.up hle12;replace hrA5:=hrA5.up hle12;replace hrN5:=hrN5.up hle12;replace hrA4:=hrA4.up hle12;replace hrN4:=hrN4.up hle12;replace hqA:=hqA.up hle12;replace hqB:=hqB.up hle12;replace ha:=ha.up hle12;replace hb:=hb.up hle12;replace hlA2:=hlA2.up hle12;replace hlA3:=hlA3.up hle12;replace hlN2:=hlN2.up hle12;replace hlN3:=hlN3.up hle12;refine bA 5 [] ?_;refine cZ ?_;exact ⟨U,U⟩
end
end Go.Proofs.YtngphgeghfdjbaaGreatDoor
namespace Go.Sl.Ev
open Go Go.Sl
def s4 {β:Sort _} (a b c d:β) (n:Nat):β:=Nat.rec (motive:=fun _=>β) a (fun n _=>Nat.rec (motive:=fun _=>β) b (fun n _=>Nat.rec (motive:=fun _=>β) c (fun _ _=>d) n) n) n
theorem dh {β:Sort _} (a b c d:β):s4 a b c d 0=a:=rfl
theorem di {β:Sort _} (a b c d:β):s4 a b c d 1=b:=rfl
theorem dj {β:Sort _} (a b c d:β):s4 a b c d 2=c:=rfl
theorem dk {β:Sort _} (a b c d:β):s4 a b c d 3=d:=rfl
inductive Tr (α:Type) where
 | e
 | n (x:Option α) (a b c d:Tr α)
def Tr.get {α:Type} (t:Tr α):Nat→Option α:=
 Tr.rec (motive:=fun _=>Nat→Option α) (fun _=>none) (fun x _ _ _ _ ga gb gc gd k=>Nat.rec (motive:=fun _=>Option α) x (fun m _=>s4 ga gb gc gd (Nat.mod m 4) (Nat.div m 4)) k) t
def Tr.put {α:Type} (v:Option α) (ih:Tr α→Nat→Tr α) (k:Nat) (x:Option α) (a b c d:Tr α):Tr α:=
 Nat.rec (motive:=fun _=>Tr α) (.n v a b c d) (fun m _=>s4 (.n x (ih a (Nat.div m 4)) b c d) (.n x a (ih b (Nat.div m 4)) c d) (.n x a b (ih c (Nat.div m 4)) d) (.n x a b c (ih d (Nat.div m 4))) (Nat.mod m 4)) k
def Tr.set {α:Type} (v:Option α) (f:Nat):Tr α→Nat→Tr α:=
 Nat.rec (motive:=fun _=>Tr α→Nat→Tr α) (fun t _=>t) (fun _ ih t k=>Tr.rec (motive:=fun _=>Tr α) (Tr.put v ih k none .e .e .e .e) (fun x a b c d _ _ _ _=>Tr.put v ih k x a b c d) t) f
theorem Ra {α:Type} (a b c d:Tr α) (x:Option α) (m:Nat):Tr.get (.n x a b c d) (m+1)=s4 a.get b.get c.get d.get (Nat.mod m 4) (Nat.div m 4):=rfl
theorem CN {α:Type} (v:Option α) (f k:Nat):Tr.set v (f+1) (.e:Tr α) k=Tr.set v (f+1) (.n none .e .e .e .e) k:=rfl
theorem SS {α:Type} (v:Option α) (f:Nat) (a b c d:Tr α) (x:Option α):Tr.set v (f+1) (.n x a b c d) 0=.n v a b c d:=rfl
theorem Rb {α:Type} (v:Option α) (f m:Nat) (a b c d:Tr α) (x:Option α):Tr.set v (f+1) (.n x a b c d) (m+1) =
 s4 (.n x (Tr.set v f a (Nat.div m 4)) b c d) (.n x a (Tr.set v f b (Nat.div m 4)) c d) (.n x a b (Tr.set v f c (Nat.div m 4)) d) (.n x a b c (Tr.set v f d (Nat.div m 4))) (Nat.mod m 4):=rfl
theorem FY (m:Nat):Nat.mod m 4=0∨Nat.mod m 4=1∨Nat.mod m 4=2∨Nat.mod m 4=3:=by
 have h:∀ k,k<4→k=0∨k=1∨k=2∨k=3:=uJ;exact h _ (iX m uR)
theorem ld {i m r:Nat} (h1:Nat.mod i 4=r) (h2:Nat.mod m 4=r):(Nat.div i 4=Nat.div m 4)=(i+1=m+1):=by
 have e1:i % 4=r:=h1;have e2:m % 4=r:=h2;apply propext;show (i / 4=m / 4)↔_;constructor <;> intro h <;> omega
theorem lf {i m r s:Nat} (h1:Nat.mod i 4=r) (h2:Nat.mod m 4=s) (h:r≠s):¬(i+1=m+1):=fun e=>by
 have:i=m:=uJ;subst this;exact h (h1.symm.trans h2)
theorem FZ {α:Type} (v:Option α):∀ (f:Nat) (t:Tr α) (k j:Nat),k<f→(Tr.set v f t k).get j=if j=k then v else t.get j:=by
 intro f;induction f with
 | zero=>intro t k j h;omega
 | succ f ih =>
   have key:∀ (a b c d:Tr α) (x:Option α) (k j:Nat),k<f+1→(Tr.set v (f+1) (.n x a b c d) k).get j=if j=k then v else (Tr.n x a b c d).get j:=by
    intro a b c d x k j h;cases k with
    | zero =>
      rw [SS];cases j with
      | zero=>rfl
      | succ i=>rw [aE (by omega)];rfl
    | succ m =>
      rw [Rb];have hm:Nat.div m 4<f:=by show m / 4<f;omega
      cases j with
      | zero =>
        rw [aE (by omega)];rcases FY m with h1 | h1 | h1 | h1 <;> rw [h1] <;> rfl
      | succ i =>
        rcases FY m with h1 | h1 | h1 | h1 <;> rcases FY i with h2 | h2 | h2 | h2 <;> simp only [h1,dh,di,dj,dk,Ra,h2] <;>
         first
         | (rw [aE (lf h2 h1 uR)])
         | (simp only [ih _ _ _ hm,ld h2 h1])
   intro t k j h;cases t with
   | e =>
     rw [CN,key _ _ _ _ _ _ _ h];congr 1;cases j with
     | zero=>rfl
     | succ i=>rw [Ra];rcases FY i with h2 | h2 | h2 | h2 <;> rw [h2] <;> rfl
   | n x a b c d=>exact key a b c d x k j h
abbrev fE:=@FZ
inductive CV where
 | int (k:IntKind) (n:Int)
 | bool (b:Bool)
 | str (s:CV)
 | ptr (t o:Nat)
 | nilp
 | sl (t o n sz:Nat) (c:Option Nat)
 | nils
 | sle
 | mp (t:Nat)
 | nilm
 | fn (f:Nat) (fst cap:CV)
 | nilf
 | yl (t:Nat)
 | agg (l:CV)
 | tup (l:CV)
 | nil
 | cons (a b:CV)
abbrev Pl:=Nat→Nat×Nat
def D (ρ:Pl) (x:CV):(Value→Prop)×(List Value→Prop):=
 CV.rec (motive:=fun _=>(Value→Prop)×(List Value→Prop))
  (fun k n=>(fun v=>v=.int k n,fun _=>False))
  (fun b=>(fun v=>v=.bool b,fun _=>False))
  (fun _ ih=>(fun v=>∃ (vs:List Value) (bs:List UInt8),ih.2 vs∧vs=bs.map (fun b=>Value.int .u8 b.toNat)∧v=.string ⟨bs.toArray⟩,fun _=>False))
  (fun t o=>(fun v=>v=.pointer (some ⟨(ρ t).1,o,none⟩),fun _=>False))
  (fun v=>v=.pointer none,fun _=>False)
  (fun t o n sz c=>(fun v=>match c with
   | some c=>v=.slice (some ⟨(ρ t).1,o,none⟩) n c∧o+c*sz≤(ρ t).2∧n≤c∧c≤maxLen
   | none=>∃ c,v=.slice (some ⟨(ρ t).1,o,none⟩) n c∧o+c*sz=(ρ t).2∧n≤c∧c≤maxLen,fun _=>False))
  (fun v=>v=.slice none 0 0,fun _=>False)
  (fun v=>∃ a c,v=.slice a 0 c,fun _=>False)
  (fun t=>(fun v=>v=.map (some (ρ t).1),fun _=>False))
  (fun v=>v=.map none,fun _=>False)
  (fun f _ _ i1 i2=>(fun v=>∃ xs ys,i1.2 xs∧i2.2 ys∧v=.func (.func f) xs.toArray ys.toArray,fun _=>False))
  (fun v=>v=.nilFunc,fun _=>False)
  (fun t=>(fun v=>v=.func (.yield (ρ t).1) #[] #[],fun _=>False))
  (fun _ ih=>(fun v=>∃ vs,ih.2 vs∧v=.agg vs.toArray,fun _=>False))
  (fun _ ih=>(fun v=>∃ vs,ih.2 vs∧v=.tuple vs.toArray,fun _=>False))
  (fun v=>v=.nilIface,fun l=>l=[])
  (fun _ _ i1 i2=>(fun _=>False,fun l=>∃ v vs,l=v :: vs∧i1.1 v∧i2.2 vs)) x
def DV (ρ:Pl) (x:CV) (v:Value):Prop:=(D ρ x).1 v
def DL (ρ:Pl) (x:CV) (l:List Value):Prop:=(D ρ x).2 l
section
variable {ρ:Pl} {v:Value} {l:List Value}
theorem DV.int {k:IntKind} {n:Int}:DV ρ (.int k n) v↔v=.int k n:=oP
abbrev iJ:=@DV.int
theorem DV.bool {b:Bool}:DV ρ (.bool b) v↔v=.bool b:=oP
abbrev sV:=@DV.bool
theorem DV.ptr {t o:Nat}:DV ρ (.ptr t o) v↔v=.pointer (some ⟨(ρ t).1,o,none⟩):=oP
abbrev nX:=@DV.ptr
theorem DV.nilp:DV ρ .nilp v↔v=.pointer none:=oP
theorem DV.nils:DV ρ .nils v↔v=.slice none 0 0:=oP
abbrev oS:=@DV.nils
theorem DV.mp {t:Nat}:DV ρ (.mp t) v↔v=.map (some (ρ t).1):=oP
theorem dl {t o n sz c:Nat}:DV ρ (.sl t o n sz (some c)) v↔v=.slice (some ⟨(ρ t).1,o,none⟩) n c∧o+c*sz≤(ρ t).2∧n≤c∧c≤maxLen:=oP
abbrev lI:=@dl
theorem dn {t o n sz:Nat}:DV ρ (.sl t o n sz none) v↔∃ c,v=.slice (some ⟨(ρ t).1,o,none⟩) n c∧o+c*sz=(ρ t).2∧n≤c∧c≤maxLen:=oP
abbrev oR:=@dn
theorem DV.fn {f:Nat} {x y:CV}:DV ρ (.fn f x y) v↔∃ xs ys,DL ρ x xs∧DL ρ y ys∧v=.func (.func f) xs.toArray ys.toArray:=oP
theorem DV.agg {x:CV}:DV ρ (.agg x) v↔∃ vs,DL ρ x vs∧v=.agg vs.toArray:=oP
abbrev uI:=@DV.agg
theorem DV.tup {x:CV}:DV ρ (.tup x) v↔∃ vs,DL ρ x vs∧v=.tuple vs.toArray:=oP
abbrev rQ:=@DV.tup
theorem DL.nil:DL ρ .nil l↔l=[]:=oP
theorem DL.cons {a b:CV}:DL ρ (.cons a b) l↔∃ v vs,l=v :: vs∧DV ρ a v∧DL ρ b vs:=oP
abbrev mJ:=@DL.cons
end
def Bd (nx:Nat) (x:CV):Prop:=
 CV.rec (motive:=fun _=>Prop) (fun _ _=>True) (fun _=>True) (fun _ ih=>ih) (fun t _=>t<nx) True (fun t _ _ _ _=>t<nx) True True (fun t=>t<nx) True (fun _ _ _ i1 i2=>i1∧i2) True (fun t=>t<nx)
  (fun _ ih=>ih) (fun _ ih=>ih) True (fun _ _ i1 i2=>i1∧i2) x
def F8 (nx:Nat) (ρ ρ':Pl):Prop:=∀ t,t<nx→ρ' t=ρ t
theorem F8.refl (nx:Nat) (ρ:Pl):F8 nx ρ ρ:=fun _ _=>rfl
abbrev dT:=@F8.refl
theorem F8.trans {nx nx':Nat} {a b c:Pl} (h:F8 nx a b) (k:F8 nx' b c) (hn:nx≤nx'):F8 nx a c:=fun t ht=>(k t (bW ht hn)).trans (h t ht)
theorem ZP {nx:Nat} {ρ ρ':Pl} (h:F8 nx ρ ρ') (x:CV) (hb:Bd nx x):D ρ' x=D ρ x:=by
 induction x with
 | int k n=>rfl
 | bool b=>rfl
 | str s ih=>have:=ih hb;show (_,_)=(_,_);simp only [D] at this ⊢;rw [this]
 | ptr t o=>have e:=h t hb;show (_,_)=(_,_);simp only [e]
 | nilp=>rfl
 | sl t o n sz c=>have e:=h t hb;show (_,_)=(_,_);simp only [e]
 | nils=>rfl
 | sle=>rfl
 | mp t=>have e:=h t hb;show (_,_)=(_,_);simp only [e]
 | nilm=>rfl
 | fn f x y i1 i2=>have e1:=i1 hb.1;have e2:=i2 hb.2;show (_,_)=(_,_);simp only [D] at e1 e2 ⊢;rw [e1,e2]
 | nilf=>rfl
 | yl t=>have e:=h t hb;show (_,_)=(_,_);simp only [e]
 | agg l ih=>have:=ih hb;show (_,_)=(_,_);simp only [D] at this ⊢;rw [this]
 | tup l ih=>have:=ih hb;show (_,_)=(_,_);simp only [D] at this ⊢;rw [this]
 | nil=>rfl
 | cons a b i1 i2=>have e1:=i1 hb.1;have e2:=i2 hb.2;show (_,_)=(_,_);simp only [D] at e1 e2 ⊢;rw [e1,e2]
theorem Bd.mono {nx nx':Nat} (h:nx≤nx') (x:CV) (hb:Bd nx x):Bd nx' x:=by
 induction x with
 | str s ih=>exact ih hb
 | ptr t o=>exact bW (show t<nx from hb) h
 | sl t o n sz c=>exact bW (show t<nx from hb) h
 | mp t=>exact bW (show t<nx from hb) h
 | fn f x y i1 i2=>exact ⟨i1 hb.1,i2 hb.2⟩
 | yl t=>exact bW (show t<nx from hb) h
 | agg l ih=>exact ih hb
 | tup l ih=>exact ih hb
 | cons a b i1 i2=>exact ⟨i1 hb.1,i2 hb.2⟩
 | _=>trivial
def Kn (nx:Nat) (ρ:Pl) (x:CV) (v:Value):Prop:=Bd nx x∧DV ρ x v
def KL (nx:Nat) (ρ:Pl) (x:CV) (l:List Value):Prop:=Bd nx x∧DL ρ x l
theorem Kn.up {nx nx':Nat} {ρ ρ':Pl} {x:CV} {v:Value} (h:Kn nx ρ x v) (hn:nx≤nx') (he:F8 nx ρ ρ'):Kn nx' ρ' x v:=
 ⟨h.1.mono hn,by unfold DV;rw [ZP he x h.1];exact h.2⟩
theorem KL.up {nx nx':Nat} {ρ ρ':Pl} {x:CV} {v:List Value} (h:KL nx ρ x v) (hn:nx≤nx') (he:F8 nx ρ ρ'):KL nx' ρ' x v:=
 ⟨h.1.mono hn,by unfold DL;rw [ZP he x h.1];exact h.2⟩
theorem KL.nil {nx:Nat} {ρ:Pl}:KL nx ρ .nil []:=⟨I8,U⟩
abbrev pA:=@KL.nil
theorem KL.cons {nx:Nat} {ρ:Pl} {a b:CV} {v:Value} {vs:List Value} (h1:Kn nx ρ a v) (h2:KL nx ρ b vs):KL nx ρ (.cons a b) (v :: vs):=⟨⟨h1.1,h2.1⟩,⟨v,vs,U,h1.2,h2.2⟩⟩
abbrev qT:=@KL.cons
structure Rw where
 n:Nat
 t:Tr CV
def RT (nx:Nat) (ρ:Pl) (t:Tr CV) (vs:List Value):Prop:=∀ i x,t.get i=some x→∃ v,vs[i]?=some v∧Kn nx ρ x v
def RL (nx:Nat) (ρ:Pl) (r:Rw) (vs:List Value):Prop:=r.n=vs.length∧RT nx ρ r.t vs
theorem RL.up {nx nx':Nat} {ρ ρ':Pl} {r:Rw} {vs:List Value} (h:RL nx ρ r vs) (hn:nx≤nx') (he:F8 nx ρ ρ'):RL nx' ρ' r vs:=
 ⟨h.1,fun i x hx=>by obtain ⟨v,h1,h2⟩:=h.2 i x hx;exact ⟨v,h1,h2.up hn he⟩⟩
inductive CB where
 | cells (l:Rw) (ty:Nat) (op:Bool) (st:Nat)
 | ro (l:Rw) (ty:Nat) (st:Nat)
 | mapI (l:List (Int×Int)) (st:Nat)
 | mapK (l:List (K4×Int)) (st:Nat)
 | it (l:CV) (pos:Nat) (st:Nat)
 | lp (E:Tr CV) (n:Nat) (ps:List Nat) (asg body:Code) (q:LoopState) (p:Option Code) (st:Nat)
def Yl:CB→Nat
 | .cells _ _ _ s=>s
 | .ro _ _ s=>s
 | .mapI _ s=>s
 | .mapK _ s=>s
 | .it _ _ s=>s
 | .lp _ _ _ _ _ _ _ s=>s
def DB (nx:Nat) (ρ:Pl) (size:Nat):CB→Obj→Prop
 | .cells l ty op _,o=>∃ vs junk,RL nx ρ l vs∧o=.cells (vs++junk).toArray ty (0,0)∧vs.length+junk.length=size∧(op=false→junk=[])
 | .ro l ty _,o=>∃ vs fz,RL nx ρ l vs∧o=.cells vs.toArray ty fz
 | .mapI l _,o=>o=vV l
 | .mapK l _,o=>o=vV l
 | .it l pos _,o=>∃ bs:List UInt8,KL nx ρ l (bs.map fun b=>Value.int .u8 b.toNat)∧o=.stringIter ⟨bs.toArray⟩ pos
 | .lp E n ps asg body st p _,o=>∃ q:Loop,o=.loop q∧q.state=st∧q.pending=p∧q.params=ps.toArray∧q.assign=asg∧q.body=body∧q.tmps.size=n∧∀ i x,E.get i=some x→∃ v,q.tmps[i]?=some v∧Kn nx ρ x v
theorem DB.up {nx nx':Nat} {ρ ρ':Pl} {s:Nat} {b:CB} {o:Obj} (h:DB nx ρ s b o) (hn:nx≤nx') (he:F8 nx ρ ρ'):DB nx' ρ' s b o:=by
 cases b with
 | cells l ty op st=>obtain ⟨vs,junk,h1,h2⟩:=h;exact ⟨vs,junk,h1.up hn he,h2⟩
 | ro l ty st=>obtain ⟨vs,fz,h1,h2⟩:=h;exact ⟨vs,fz,h1.up hn he,h2⟩
 | mapI l st=>exact h
 | mapK l st=>exact h
 | it l pos st=>obtain ⟨bs,h1,h2⟩:=h;exact ⟨bs,h1.up hn he,h2⟩
 | lp E n ps asg body q p st =>
   obtain ⟨q,h1,h2,h3,h4,h5,h6,h7,h8⟩:=h;exact ⟨q,h1,h2,h3,h4,h5,h6,h7,fun i x hx=>by obtain ⟨v,g1,g2⟩:=h8 i x hx;exact ⟨v,g1,g2.up hn he⟩⟩
structure E5 (Φ:A3→Prop) where
 w:World
 ks:List Nat
 G:A3
 ok:Φ G
 s:Nat
structure Mem {Φ:A3→Prop} (ρ:Pl) (w0:E5 Φ) (h:Tr CB) (nx:Nat) (w:World):Prop where
 upd:D2 (fun _=>False) w0.w w
 own:∀ t b,h.get t=some b→t<nx∧Yl b<nx∧w0.w.heap.size≤(ρ t).1∧∃ o,w.heap[(ρ t).1]?=some o∧DB nx ρ (ρ t).2 b o
 one:∀ t t' b b',h.get t=some b→h.get t'=some b'→(ρ t).1=(ρ t').1→t=t'
 imm:∀ b o,w0.G b=some o→w0.w.heap[b]?=some o
 nod:w0.ks.Nodup
 kept:∀ b,b∈w0.ks→w0.w.heap.size≤b∧w.heap[b]?=some (.deferred (some []))∧∀ t c,h.get t=some c→(ρ t).1≠b
def B4 (ρ:Pl) (E:Tr CV) (nx:Nat) (n:Nat) (a:Act):Prop:=a.tmps.size=n∧∀ i x,E.get i=some x→∃ v,a.tmps[i]?=some v∧Kn nx ρ x v
def E5.plus {Φ:A3→Prop} (w0:E5 Φ) (os:List Nat):E5 Φ:=⟨w0.w,os++w0.ks,w0.G,w0.ok,w0.s⟩
structure Rel0 {Φ:A3→Prop} (ρ:Pl) (w0:E5 Φ) (os:List Nat) (n:Nat) (E:Tr CV) (h:Tr CB) (nx:Nat) (a:Act) (w:World):Prop where
 slots:B4 ρ E nx n a
 defers:a.defers=os.map mark
 mem:Mem ρ (w0.plus os) h nx w
 mks:∀ b,b∈os→w0.s≤b
 ss:w0.s≤w.heap.size
def F1 {Φ:A3→Prop} (ρ:Pl) (w0:E5 Φ) (n:Nat) (E:Tr CV) (h:Tr CB) (nx:Nat) (a:Act) (w:World):Prop:=∃ os,Rel0 ρ w0 os n E h nx a w
def lrec {β:Sort _} (n:β) (c:CV→CV→β→β) (x:CV):β:=
 CV.rec (motive:=fun _=>β) (fun _ _=>n) (fun _=>n) (fun _ _=>n) (fun _ _=>n) n (fun _ _ _ _ _=>n) n n (fun _=>n) n (fun _ _ _ _ _=>n) n (fun _=>n) (fun _ _=>n) (fun _ _=>n) n (fun a b _ ih=>c a b ih) x
section
variable {β:Type} {n:β} {c:CV→CV→β→β}
end
def Lv (l:CV):Nat→Option CV:=lrec (fun _=>none) (fun a _ ih k=>bif Nat.beq k 0 then some a else ih (Nat.pred k)) l
def vP (l:CV):Nat:=lrec 0 (fun _ _ ih=>Nat.succ ih) l
def Df (l m:CV):CV:=lrec m (fun a _ ih=>.cons a ih) l
def Fk (k:Nat):CV→CV:=Nat.rec (fun l=>l) (fun _ ih l=>lrec .nil (fun _ b _=>ih b) l) k
def Fl (k:Nat):CV→CV:=Nat.rec (fun _=>.nil) (fun _ ih l=>lrec .nil (fun a b _=>.cons a (ih b)) l) k
def Ym (x:CV):Bool:=
 CV.rec (motive:=fun _=>Bool) (fun _ _=>true) (fun _=>true) (fun _ _=>true) (fun _ _=>true) true (fun _ _ _ _ _=>true) true true (fun _=>true) true (fun _ _ _ _ _=>true) true (fun _=>true) (fun _ _=>false) (fun _ _=>false) false (fun _ _ _ _=>false) x
def Jv (l:CV):Bool:=lrec true (fun a _ ih=>Ym a && ih) l
def GA (l:CV) (k:Nat):CV:=Nat.rec .nil (fun _ ih=>Df l ih) k
section
variable {nx:Nat} {ρ:Pl}
theorem KL.inv_nil {l:List Value} (h:KL nx ρ .nil l):l=[]:=h.2
theorem KL.inv_cons {a b:CV} {l:List Value} (h:KL nx ρ (.cons a b) l):∃ v vs,l=v :: vs∧Kn nx ρ a v∧KL nx ρ b vs:=by
 obtain ⟨h1,v,vs,h2,h3,h4⟩:=h;exact ⟨v,vs,h2,⟨h1.1,h3⟩,⟨h1.2,h4⟩⟩
theorem NB {motive:CV→List Value→Prop} (h0:motive .nil []) (h1:∀ a b v vs,Kn nx ρ a v→KL nx ρ b vs→motive b vs→motive (.cons a b) (v :: vs)):∀ {x:CV} {l:List Value},KL nx ρ x l→motive x l:=by
 intro x;induction x with
 | nil=>intro l h;rw [h.inv_nil];exact h0
 | cons a b _ ih =>
   intro l h;obtain ⟨v,vs,rfl,h2,h3⟩:=h.inv_cons;exact h1 a b v vs h2 h3 (ih h3)
 | _=>intro l h;exact absurd h.2 id
abbrev nD:=@NB
theorem Gf {x:CV} {l:List Value} (h:KL nx ρ x l):∀ {k:Nat} {c:CV},Lv x k=some c→∃ v,l[k]?=some v∧Kn nx ρ c v:=by
 refine nD (motive:=fun x l=>∀ {k:Nat} {c:CV},Lv x k=some c→∃ v,l[k]?=some v∧Kn nx ρ c v) ?_ ?_ h
 · intro k c hc;cases hc
 intro a b v vs hv hvs ih k c hc;have hc':(bif Nat.beq k 0 then some a else Lv b (Nat.pred k))=some c:=hc;cases hb:Nat.beq k 0 with
 | true =>
   rw [hb] at hc';have:=aD hb;subst this;cases hc';exact ⟨v,U,hv⟩
 | false =>
   rw [hb] at hc';obtain ⟨u,h1,h2⟩:=ih hc';refine ⟨u,?_,h2⟩;cases k with
   | zero=>cases hb
   | succ k=>exact h1
theorem vS {x:CV} {l:List Value} (h:KL nx ρ x l):vP x=l.length:=by
 refine nD (motive:=fun x l=>vP x=l.length) U ?_ h;intro a b v vs _ _ ih;show Nat.succ (vP b)=_;rw [ih];rfl
theorem Gg {x y:CV} {l m:List Value} (h:KL nx ρ x l) (k:KL nx ρ y m):KL nx ρ (Df x y) (l++m):=by
 refine nD (motive:=fun x l=>KL nx ρ (Df x y) (l++m)) k ?_ h;intro a b v vs h1 _ ih;exact qT h1 ih
theorem Jw:∀ (k:Nat) {x:CV} {l:List Value},KL nx ρ x l→KL nx ρ (Fk k x) (l.drop k):=by
 intro k;induction k with
 | zero=>intro x l h;exact h
 | succ k ih =>
   intro x l h;refine nD (motive:=fun x l=>KL nx ρ (Fk (k+1) x) (l.drop (k+1))) pA ?_ h;intro a b v vs _ h2 _;exact ih h2
theorem Jx:∀ (k:Nat) {x:CV} {l:List Value},KL nx ρ x l→KL nx ρ (Fl k x) (l.take k):=by
 intro k;induction k with
 | zero=>intro x l h;exact pA
 | succ k ih =>
   intro x l h;refine nD (motive:=fun x l=>KL nx ρ (Fl (k+1) x) (l.take (k+1))) pA ?_ h;intro a b v vs h1 h2 _;exact qT h1 (ih h2)
theorem Np {x:CV} {l:List Value} (h:KL nx ρ x l):∀ k:Nat,KL nx ρ (GA x k) (List.replicate k l).flatten:=by
 intro k;induction k with
 | zero=>exact pA
 | succ k ih =>
   rw [pT,List.flatten_cons];exact Gg h ih
theorem Vx {x:CV} {v:Value} (h:Kn nx ρ x v) (hs:Ym x=true):v.oneCell'=true:=by
 cases x with
 | int k n=>rw [show v=_ from h.2];rfl
 | bool b=>rw [show v=_ from h.2];rfl
 | str s=>obtain ⟨_,_,_,_,h3⟩:=h.2;rw [h3];rfl
 | ptr t o=>rw [show v=_ from h.2];rfl
 | nilp=>rw [show v=_ from h.2];rfl
 | sl t o n sz c =>
   cases c with
   | some c=>rw [(lI.1 h.2).1];rfl
   | none=>obtain ⟨c,h1,_⟩:=oR.1 h.2;rw [h1];rfl
 | nils=>rw [show v=_ from h.2];rfl
 | sle=>obtain ⟨_,_,h1⟩:=h.2;rw [h1];rfl
 | mp t=>rw [show v=_ from h.2];rfl
 | nilm=>rw [show v=_ from h.2];rfl
 | fn f x y=>obtain ⟨_,_,_,_,h1⟩:=DV.fn.1 h.2;rw [h1];rfl
 | nilf=>rw [show v=_ from h.2];rfl
 | yl t=>rw [show v=_ from h.2];rfl
 | agg l=>cases hs
 | tup l=>cases hs
 | nil=>cases hs
 | cons a b=>cases hs
theorem Rd {x:CV} {l:List Value} (h:KL nx ρ x l):Jv x=true→l.all (·.oneCell')=true:=by
 refine nD (motive:=fun x l=>Jv x=true→l.all (·.oneCell')=true) (fun _=>rfl) ?_ h;intro a b v vs h1 _ ih hs;have hs':(Ym a && Jv b)=true:=hs;simp only [aB] at hs';rw [kC,aB];exact ⟨Vx h1 hs'.1,ih hs'.2⟩
end
def NC (r:Rw) (o:Nat):Option CV:=r.t.get o
def vU (r:Rw) (o k:Nat):CV:=Nat.rec (motive:=fun _=>Nat→CV) (fun _=>.nil) (fun _ ih o=>match r.t.get o with | some a=>.cons a (ih (Nat.succ o)) | none=>.nil) k o
def ND (m:CV) (t:Tr CV) (p:Nat):Tr CV:=lrec (β:=Tr CV→Nat→Tr CV) (fun t _=>t) (fun a _ ih t p=>ih (t.set (some a) (Nat.succ p) p) (Nat.succ p)) m t p
def Tj (p:Nat) (m:CV) (r:Rw):Rw:=⟨r.n,ND m r.t p⟩
def dq (r:Rw) (m:CV):Rw:=⟨Nat.add r.n (vP m),ND m r.t r.n⟩
def Tk (m:CV):Rw:=⟨vP m,ND m .e 0⟩
theorem SU:∀ (m:CV) (t:Tr CV) (p i:Nat),(ND m t p).get i=if p≤i∧i<p+vP m then Lv m (i - p) else t.get i:=by
 intro m;induction m with
 | cons a b _ ih =>
   intro t p i;show (ND b (t.set (some a) (Nat.succ p) p) (Nat.succ p)).get i=if p≤i∧i<p+Nat.succ (vP b) then (bif Nat.beq (i - p) 0 then some a else Lv b (Nat.pred (i - p))) else t.get i;rw [ih,fE _ _ _ _ _ (dB p)];by_cases h1:i=p
   · subst h1;rw [aE (by omega),aM rfl,aM (by omega),iW];rfl
   · by_cases h2:p+1≤i∧i<p+1+vP b
     · rw [aM (show Nat.succ p≤i∧i<Nat.succ p+vP b from h2),aM (by omega)];have h3:Nat.beq (i - p) 0=false:=by
        cases hb:Nat.beq (i - p) 0 with
        | false=>rfl
        | true=>have:=aD hb;omega
       rw [h3];show Lv b (i - (p+1))=Lv b (i - p - 1);rw [Nat.sub_add_eq]
     · rw [aE (show ¬(Nat.succ p≤i∧i<Nat.succ p+vP b) from h2),aE h1,aE (by omega)]
 | _=>intro t p i;exact (aE (show ¬(p≤i∧i<p+0) by omega)).symm
section
variable {nx:Nat} {ρ:Pl}
theorem JA {α:Type} {l n:List α} {p:Nat} (h:p+n.length≤l.length) (i:Nat):(l.take p++n++l.drop (p+n.length))[i]?=if p≤i∧i<p+n.length then n[i - p]? else l[i]?:=by
 have hl:(l.take p).length=p:=by rw [bI];omega
 by_cases h1:i<p
 · rw [aE (by omega),cU,bC uJ,List.getElem?_take_of_lt h1]
 by_cases h2:i<p+n.length
 · rw [aM ⟨by omega,h2⟩,cU,cD uJ,hl,bC uJ]
 rw [aE (by omega),cD (by rw [aI,hl];omega),aI,hl,eW];congr 1;omega
theorem Yn {m:CV} {t:Tr CV} {p:Nat} {vs us news:List Value} (hm:KL nx ρ m news) (ht:RT nx ρ t vs) (h1:∀ i,p≤i→i<p+news.length→us[i]?=news[i - p]?) (h2:∀ i v,¬(p≤i∧i<p+news.length)→vs[i]?=some v→us[i]?=some v):RT nx ρ (ND m t p) us:=fun i x hx=>by
 rw [SU,vS hm] at hx;by_cases h:p≤i∧i<p+news.length
 · rw [aM h] at hx;obtain ⟨v,e1,e2⟩:=Gf hm hx;exact ⟨v,by rw [h1 i h.1 h.2];exact e1,e2⟩
 rw [aE h] at hx;obtain ⟨v,e1,e2⟩:=ht i x hx;exact ⟨v,h2 i v h e1,e2⟩
theorem YF {m:CV} {r:Rw} {p:Nat} {vs news:List Value} (hr:RL nx ρ r vs) (hm:KL nx ρ m news) (hp:p+news.length≤vs.length):RL nx ρ (Tj p m r) (vs.take p++news++vs.drop (p+news.length)):=
 ⟨by show r.n=_;rw [hr.1];simp only [aI,bI,cE];omega,
  Yn hm hr.2 (fun i h1 h2=>by rw [JA hp,aM ⟨h1,h2⟩]) (fun i v h e=>by rw [JA hp,aE h];exact e)⟩
theorem JB {m:CV} {r:Rw} {vs news:List Value} (hr:RL nx ρ r vs) (hm:KL nx ρ m news):RL nx ρ (dq r m) (vs++news):=
 ⟨by show r.n+vP m=_;rw [hr.1,vS hm,aI],
  Yn hm hr.2 (fun i h1 h2=>by rw [hr.1] at h1 ⊢;exact cD h1) (fun i v _ e=>by
   have:=(aR.1 e).1;rw [bC this];exact e)⟩
theorem Yo {m:CV} {vs:List Value} (hm:KL nx ρ m vs):RL nx ρ (Tk m) vs:=
 ⟨vS hm,Yn (vs:=[]) hm (fun i x hx=>by cases hx) (fun i _ h2=>by rw [pY]) (fun i v _ e=>by cases e)⟩
theorem Jy {r:Rw} {vs:List Value} (hr:RL nx ρ r vs):r.n=vs.length:=hr.1
theorem JC {r:Rw} {vs:List Value} (hr:RL nx ρ r vs) {k:Nat} {c:CV} (h:NC r k=some c):∃ v,vs[k]?=some v∧Kn nx ρ c v:=hr.2 k c h
theorem zZ {r:Rw} {vs:List Value} (hr:RL nx ρ r vs):∀ {k o:Nat},vP (vU r o k)=k→KL nx ρ (vU r o k) ((vs.drop o).take k):=by
 intro k;induction k with
 | zero=>intro o h;exact pA
 | succ k ih =>
   intro o h;have hs:vU r o (k+1)=(match r.t.get o with | some a=>.cons a (vU r (o+1) k) | none=>.nil):=rfl;rw [hs] at h ⊢;split at h
   · rename_i a ha;obtain ⟨v,e1,e2⟩:=hr.2 o a ha;have h':vP (vU r (o+1) k)=k:=rO h;obtain ⟨hl,hg⟩:=aR.1 e1;rw [eN hl,hg,List.take_succ_cons];exact qT e2 (ih h')
   cases h
end
def ofB (l:List UInt8):CV:=List.rec .nil (fun b _ ih=>.cons (.int .u8 b.toNat) ih) l
def SW:Value→Option CV
 | .int k n=>some (.int k n)
 | .bool b=>some (.bool b)
 | .pointer none=>some .nilp
 | .slice none n c=>bif Nat.beq n 0 && Nat.beq c 0 then some .nils else none
 | .map none=>some .nilm
 | .nilFunc=>some .nilf
 | .nilIface=>some .nil
 | .string ⟨⟨l⟩⟩=>some (.str (ofB l))
 | _=>none
def ov (l:List Value):Option CV:=List.rec (some .nil) (fun v _ ih=>match SW v with | some a=>(match ih with | some b=>some (.cons a b) | none=>none) | none=>none) l
def ZQ:Value→Option CV
 | .agg ⟨l⟩=>match ov l with | some x=>some (.agg x) | none=>none
 | .tuple ⟨l⟩=>match ov l with | some x=>some (.tup x) | none=>none
 | v=>SW v
section
variable {nx:Nat} {ρ:Pl}
theorem dt:∀ l:List UInt8,KL nx ρ (ofB l) (l.map fun b=>Value.int .u8 b.toNat):=by
 intro l;induction l with
 | nil=>exact pA
 | cons b l ih=>exact qT ⟨I8,U⟩ ih
theorem JD {v:Value} {x:CV} (h:SW v=some x):Kn nx ρ x v:=by
 unfold SW at h;split at h
 · cases h;exact ⟨I8,U⟩
 · cases h;exact ⟨I8,U⟩
 · cases h;exact ⟨I8,U⟩
 · rename_i n c;cases hb:Nat.beq n 0 && Nat.beq c 0 with
   | true =>
     rw [hb] at h;cases h;simp only [aB] at hb;have e1:=aD hb.1;have e2:=aD hb.2;subst e1 e2;exact ⟨I8,U⟩
   | false=>rw [hb] at h;cases h
 · cases h;exact ⟨I8,U⟩
 · cases h;exact ⟨I8,U⟩
 · cases h;exact ⟨I8,U⟩
 · rename_i l;cases h;have:=dt (nx:=nx) (ρ:=ρ) l;exact ⟨this.1,⟨_,l,this.2,U,U⟩⟩
 cases h
theorem SX:∀ {l:List Value} {x:CV},ov l=some x→KL nx ρ x l:=by
 intro l;induction l with
 | nil=>intro x h;cases h;exact pA
 | cons v l ih =>
   intro x h;have h':(match SW v with | some a=>(match ov l with | some b=>some (.cons a b) | none=>none) | none=>none)=some x:=h;split at h'
   · rename_i a ha;split at h'
     · rename_i b hb;cases h';exact qT (JD ha) (ih hb)
     cases h'
   cases h'
theorem SY {v:Value} {x:CV} (h:ZQ v=some x):Kn nx ρ x v:=by
 unfold ZQ at h;split at h
 · split at h
   · rename_i l y hy;cases h;have:=SX (nx:=nx) (ρ:=ρ) hy;exact ⟨this.1,uI.2 ⟨_,this.2,U⟩⟩
   cases h
 · split at h
   · rename_i l y hy;cases h;have:=SX (nx:=nx) (ρ:=ρ) hy;exact ⟨this.1,rQ.2 ⟨_,this.2,U⟩⟩
   cases h
 exact JD h
end
def wA (E:Tr CV):Operand→Option CV
 | .tmp t=>E.get t
 | .const v=>ZQ v
 | .func f=>some (.fn f .nil .nil)
 | .global _=>none
def NE (E:Tr CV) (l:List Operand):Option CV:=List.rec (some .nil) (fun x _ ih=>match wA E x with | some a=>(match ih with | some b=>some (.cons a b) | none=>none) | none=>none) l
theorem Fm:∀ (vs:List Value) (i j:Nat),(xC i vs).get (i+j)=vs[j]?
 | [],i,j=>rfl
 | v :: vs,i,j=>by
   show B0.get ((i,v) :: xC (i+1) vs) (i+j)=_;rw [jQ];cases j with
   | zero=>simp
   | succ j =>
     rw [aE (by omega),show i+(j+1)=(i+1)+j by omega,Fm vs (i+1) j];rfl
def eA (a:Act):B0:=xC 0 a.tmps.toList
theorem GB (a:Act) (i:Nat):(eA a).get i=a.tmps[i]?:=by
 have:=Fm a.tmps.toList 0 i;rw [cF] at this;unfold eA;rw [this,oV]
section
variable {nx n:Nat} {ρ:Pl} {E:Tr CV} {a:Act}
theorem uQ (h:B4 ρ E nx n a) {x:Operand} {c:CV} (hc:wA E x=some c):∃ v,(eA a).ev x=some v∧Kn nx ρ c v:=by
 cases x with
 | tmp t =>
   obtain ⟨v,h1,h2⟩:=h.2 t c hc;exact ⟨v,by show (eA a).get t=_;rw [GB];exact h1,h2⟩
 | const v=>exact ⟨v,U,SY hc⟩
 | func f =>
   cases hc;exact ⟨_,U,⟨⟨I8,I8⟩,DV.fn.2 ⟨[],[],U,U,U⟩⟩⟩
 | global g=>cases hc
theorem Nq (h:B4 ρ E nx n a):∀ {l:List Operand} {c:CV},NE E l=some c→∃ vs,(eA a).evs l=some vs∧KL nx ρ c vs:=by
 intro l;induction l with
 | nil=>intro c hc;cases hc;exact ⟨[],U,pA⟩
 | cons x l ih =>
   intro c hc;have hc':(match wA E x with | some a=>(match NE E l with | some b=>some (.cons a b) | none=>none) | none=>none)=some c:=hc;split at hc'
   · rename_i c1 h1;split at hc'
     · rename_i c2 h2;cases hc';obtain ⟨v,e1,k1⟩:=uQ h h1;obtain ⟨vs,e2,k2⟩:=ih h2;exact ⟨v :: vs,by unfold B0.evs;rw [e1,e2],qT k1 k2⟩
     cases hc'
   cases hc'
theorem lookN (a:Act) (w:World):H3 (eA a) [] (fun _=>none) a w:=
 ⟨fun i v h=>by rw [GB] at h;exact h,⟨fun t b o h=>xY,fun t t' b o o' h=>xY,fun b o h=>xY,fun t b o h=>xY⟩⟩
theorem lh (a:Act) {w:World} {b:Nat} {o:Obj} (hb:w.heap[b]?=some o):H3 (eA a) [(0,some b,o)] (fun _=>none) a w:=
 ⟨fun i v h=>by rw [GB] at h;exact h,⟨fun t b' o' h=>(by
  rw [bZ] at h;split at h
  · cases h;exact hb
  · cases h),fun t t' b1 o1 o2 h h'=>(by
  rw [bZ] at h h';split at h <;> split at h'
  · omega
  · cases h'
  · cases h
  cases h),fun b o h=>xY,fun t b o h=>rfl⟩⟩
end
def OD (P:Program) (T:Nat):Option Nat:=match P.info? T with | some i=>some i.size | none=>none
def gi (P:Program) (T:Nat):Option Nat:=match OD P T with | some k=>bif xZ P T k then some k else none | none=>none
def ow (P:Program) (s f:Nat):Option Nat:=match P.underlying s with
 | some (.struct ⟨fs⟩)=>match Ic fs f with
   | some fd=>match OD P fd.type with
     | some k=>bif Nat.beq k 0 then none else some fd.offset
     | none=>none
   | none=>none
 | _=>none
def Vy (P:Program) (T:Nat):Option (Nat×Nat):=match P.underlying T with
 | some (.slice E)=>match OD P E with | some k=>some (E,k) | none=>none
 | _=>none
theorem Hv {P:Program} {T k:Nat} (h:OD P T=some k):(P.info? T).map (·.size)=some k:=by
 unfold OD at h;split at h
 · rename_i i hi;rw [hi];exact h
 cases h
theorem SZ {P:Program} {T k:Nat} (h:gi P T=some k):xZ P T k=true:=by
 unfold gi at h;split at h
 · rename_i m hm;cases hb:xZ P T m with
   | true=>rw [hb] at h;cases h;exact hb
   | false=>rw [hb] at h;cases h
 cases h
theorem xX {P:Program} {T E k:Nat} (h:Vy P T=some (E,k)):uX P T E k:=by
 unfold Vy at h;split at h
 · rename_i E' hu;split at h
   · rename_i m hm;cases h;exact ⟨hu,Hv hm⟩
   cases h
 cases h
theorem dx {P:Program} {s f k:Nat} (h:ow P s f=some k):Ay P s f k:=by
 unfold ow at h;split at h
 · rename_i fs hu;split at h
   · rename_i fd hf;split at h
     · rename_i m hm;cases hb:Nat.beq m 0 with
       | true=>rw [hb] at h;cases h
       | false =>
         rw [hb] at h;cases h;intro b o w;rw [zE] at hf;have h1:fs.toArray[f]?=some fd:=by simpa using hf
         have h2:=run_sizeOf (P:=P) w (Hv hm);have h3:m≠0:=fun e=>by subst e;simp at hb
         simp only [Instr.fieldAt,bL,aQ hu,aO,h1,Instr.sureAddr,bR,fieldPlace,h2,h3,fJ,add_lit]
     cases h
   cases h
 cases h
def Lw (m n:Int):Bool:=Int.rec (fun a=>Int.rec (fun b=>Nat.beq a b) (fun _=>false) n) (fun a=>Int.rec (fun _=>false) (fun b=>Nat.beq a b) n) m
def yK (m n:Int):Bool:=Int.rec (fun a=>Int.rec (fun b=>Nat.ble a b) (fun _=>false) n) (fun a=>Int.rec (fun _=>true) (fun b=>Nat.ble b a) n) m
theorem Re (a b:Nat):Nat.beq a b=decide (a=b):=by
 cases h:Nat.beq a b with
 | true=>rw [aD h];simp
 | false => have:a≠b:=fun e=>by subst e;simp at h
            simp [this]
theorem Rf (a b:Nat):Nat.ble a b=decide (a≤b):=by
 cases h:Nat.ble a b with
 | true=>simp [bK h]
 | false => have:¬a≤b:=fun e=>by rw [Nat.ble_eq_true_of_le e] at h;cases h
            simp [this]
theorem yR (m n:Int):Lw m n=decide (m=n):=by
 cases m <;> cases n
 · rename_i a b;show Nat.beq a b=_;rw [Re];exact gT.2 ⟨fun h=>by rw [h],fun h=>Int.ofNat.inj h⟩
 · rename_i a b;show false=_;symm;rw [eZ];intro h;cases h
 · rename_i a b;show false=_;symm;rw [eZ];intro h;cases h
 rename_i a b;show Nat.beq a b=_;rw [Re];exact gT.2 ⟨fun h=>by rw [h],fun h=>Int.negSucc.inj h⟩
theorem wI (m n:Int):yK m n=decide (m≤n):=by
 cases m <;> cases n
 · rename_i a b;show Nat.ble a b=_;rw [Rf];exact gT.2 ⟨fun h=>qB.2 h,fun h=>qB.1 h⟩
 · rename_i a b;show false=_;symm;rw [eZ];intro h;have:=Int.negSucc_lt_zero b;have:=kP a;simp only [kY] at h;omega
 · rename_i a b;show true=_;symm;rw [aY];have:=Int.negSucc_lt_zero a;have:=kP b;simp only [kY];omega
 rename_i a b;show Nat.ble b a=_;rw [Rf];exact gT.2 ⟨fun h=>by omega,fun h=>by omega⟩
def li (lim a:Nat) (z w:Int):Int:=bif Nat.ble a lim then z else w
theorem GC {lim a:Nat} {z w:Int} (h:a≤lim→w=z):li lim a z w=w:=by
 unfold li;cases hb:Nat.ble a lim with
 | true=>exact (h (bK hb)).symm
 | false=>rfl
def lj (z:Int):Int:=Int.rec (fun a=>li 9223372036854775807 a (.ofNat a) (IntKind.wrap .i64 (.ofNat a))) (fun a=>li 9223372036854775807 a (.negSucc a) (IntKind.wrap .i64 (.negSucc a))) z
def ox (lim:Nat) (k:IntKind) (z:Int):Int:=Int.rec (fun a=>li lim a (.ofNat a) (k.wrap (.ofNat a))) (fun a=>k.wrap (.negSucc a)) z
def wr (k:IntKind) (z:Int):Int:=match k with
 | .i64=>lj z
 | .u64=>ox 18446744073709551615 .u64 z
 | .u32=>ox 4294967295 .u32 z
 | .u8=>ox 255 .u8 z
 | k=>k.wrap z
theorem YG (z:Int):lj z=IntKind.wrap .i64 z:=by
 cases z with
 | ofNat a=>exact GC fun h=>lG _ (by simp only [kY];omega)
 | negSucc a=>exact GC fun h=>lG _ uJ
theorem GD {lim:Nat} {k:IntKind} (h:∀ a:Nat,a≤lim→k.wrap (.ofNat a)=.ofNat a) (z:Int):ox lim k z=k.wrap z:=by
 cases z with
 | ofNat a=>exact GC (h a)
 | negSucc a=>exact Eq.refl (k.wrap (.negSucc a))
theorem Rg (k:IntKind) (z:Int):wr k z=k.wrap z:=by
 cases k
 case i64=>exact YG z
 case u64=>exact GD (fun a h=>kO _ (by simp only [kY];omega)) z
 case u32=>exact GD (fun a h=>by rw [rF];simp only [kY];omega) z
 case u8=>exact GD (fun a h=>by rw [IntKind.wrap_u8];simp only [kY];omega) z
 all_goals exact Eq.refl _
def bo (o:BinOp) (k:IntKind) (m n:Int):Option CV:=match o with
 | .eql=>some (.bool (Lw m n))
 | .neq=>some (.bool (not (Lw m n)))
 | .lss=>some (.bool (not (yK n m)))
 | .leq=>some (.bool (yK m n))
 | .gtr=>some (.bool (not (yK m n)))
 | .geq=>some (.bool (yK n m))
 | .add=>some (.int k (wr k (Int.add m n)))
 | .sub=>some (.int k (wr k (Int.sub m n)))
 | .mul=>some (.int k (wr k (Int.mul m n)))
 | .quo=>bif Lw n 0 then none else some (.int k (wr k (Int.tdiv m n)))
 | .rem=>bif Lw n 0 then none else some (.int k (Int.tmod m n))
 | .and=>some (.int k (bits .and k m n))
 | .or=>some (.int k (bits .or k m n))
 | _=>none
def sh (o:BinOp) (k:IntKind) (m n:Int):Option CV:=match o with
 | .shl=>bif yK 0 n then some (.int k (wr k (Int.mul m (2 ^ (min n.toNat k.bits))))) else none
 | .shr=>bif yK 0 n then some (.int k (Int.fdiv m (2 ^ (min n.toNat k.bits)))) else none
 | _=>none
section
variable {P:Program} {e:B0} {H:Hp} {G:A3} {ty t t':TypeId} {x y:Operand} {k k':IntKind} {m n:Int} {nx:Nat} {ρ:Pl} {c:CV}
theorem Jz (p:Prop) [Decidable p]:(not (decide p))=decide (¬p):=by by_cases h:p <;> simp [h]
theorem ll {o:BinOp} (hx:e.ev x=some (.int k m)) (hy:e.ev y=some (.int k n)) (h:bo o k m n=some c):∃ v,Kn nx ρ c v∧∀ ty,Qy P (.binOp o t x y t') ty e H G v:=by
 cases o <;> first | (cases h;done) | skip
 case eql=>cases h;exact ⟨_,⟨I8,U⟩,fun ty=>by rw [yR];exact uB hx hy⟩
 case neq=>cases h;exact ⟨_,⟨I8,U⟩,fun ty=>by rw [yR,Jz];exact Qy.neq hx hy⟩
 case lss=>cases h;exact ⟨_,⟨I8,U⟩,fun ty=>by rw [wI,Jz,show decide (¬n≤m)=decide (m<n) from gT.2 Int.not_le];exact oX hx hy⟩
 case leq=>cases h;exact ⟨_,⟨I8,U⟩,fun ty=>by rw [wI];exact Qy.leq hx hy⟩
 case gtr=>cases h;exact ⟨_,⟨I8,U⟩,fun ty=>by rw [wI,Jz,show decide (¬m≤n)=decide (n<m) from gT.2 Int.not_le];exact Qy.gtr hx hy⟩
 case geq=>cases h;exact ⟨_,⟨I8,U⟩,fun ty=>by rw [wI];exact Qy.geq hx hy⟩
 case add=>cases h;exact ⟨_,⟨I8,U⟩,fun ty=>by rw [Rg];exact Nf hx hy⟩
 case sub=>cases h;exact ⟨_,⟨I8,U⟩,fun ty=>by rw [Rg];exact tK hx hy⟩
 case mul=>cases h;exact ⟨_,⟨I8,U⟩,fun ty=>by rw [Rg];exact nC hx hy⟩
 case quo =>
  have h':(bif Lw n 0 then none else some (CV.int k (wr k (Int.tdiv m n))))=some c:=h;have e:=yR n 0;by_cases h0:n=0
  · rw [e,cX h0] at h';cases h'
  rw [e,cM h0] at h';cases h';exact ⟨_,⟨I8,U⟩,fun ty=>by rw [Rg];exact Ng hx hy h0⟩
 case rem =>
  have h':(bif Lw n 0 then none else some (CV.int k (Int.tmod m n)))=some c:=h;have e:=yR n 0;by_cases h0:n=0
  · rw [e,cX h0] at h';cases h'
  rw [e,cM h0] at h';cases h';exact ⟨_,⟨I8,U⟩,fun ty=>Qy.rem hx hy h0⟩
 case and=>cases h;exact ⟨_,⟨I8,U⟩,fun ty=>nO hx hy⟩
 case or=>cases h;exact ⟨_,⟨I8,U⟩,fun ty=>Ok hx hy⟩
theorem lm {o:BinOp} (hx:e.ev x=some (.int k m)) (hy:e.ev y=some (.int k' n)) (h:sh o k m n=some c):∃ v,Kn nx ρ c v∧∀ ty,Qy P (.binOp o t x y t') ty e H G v:=by
 cases o <;> first | (cases h;done) | skip
 case shl =>
  have h':(bif yK 0 n then some (CV.int k (wr k (Int.mul m (2 ^ (min n.toNat k.bits))))) else none)=some c:=h;have e:=wI 0 n;by_cases h0:0≤n
  · rw [e,cX h0] at h';cases h';exact ⟨_,⟨I8,U⟩,fun ty=>by rw [Rg];exact Qy.shl hx hy h0⟩
  rw [e,cM h0] at h';cases h'
 case shr =>
  have h':(bif yK 0 n then some (CV.int k (Int.fdiv m (2 ^ (min n.toNat k.bits)))) else none)=some c:=h;have e:=wI 0 n;by_cases h0:0≤n
  · rw [e,cX h0] at h';cases h';exact ⟨_,⟨I8,U⟩,fun ty=>pO hx hy h0⟩
  rw [e,cM h0] at h';cases h'
end
def dy (e:B0) (d:Nat):Option Operand→Nat→Prop
 | none,l=>l=d
 | some y,l=>∃ k,e.ev y=some (.int k (l:Int))
section
variable {P:Program} {e:B0} {H:Hp} {G:A3} {ty T:TypeId}
theorem NF {x:Operand} {fs:Array Field} {fd:Field} {i:Nat} {vs:List Value} {v:Value} (hu:P.underlying T=some (.struct fs)) (hf:fs[i]?=some fd) (h1:xB P fd.type=true)
 (hx:e.ev x=some (.agg vs.toArray)) (hv:vs[fd.offset]?=some v):Qy P (.field T x i) ty e H G v:=fun a w _ _ _ _ hh=>by
 simp [execOp,hh.eval hx,Instr.field,aQ hu,hf,asAgg,part,xS w h1,hv]
theorem NG {x:Operand} {fs:Array Field} {fd:Field} {i k:Nat} {vs:List Value} (hu:P.underlying T=some (.struct fs)) (hf:fs[i]?=some fd) (h1:xZ P fd.type k=true)
 (hx:e.ev x=some (.agg vs.toArray)):Qy P (.field T x i) ty e H G (.agg ((vs.drop fd.offset).take k).toArray):=fun a w _ _ _ _ hh=>by
 have h2:=run_sizeOf (P:=P) w (Ig h1);simp [execOp,hh.eval hx,Instr.field,aQ hu,hf,asAgg,part,Ae w h1,h2]
theorem Mx {x:Operand} {lo hi:Option Operand} {a:Option Addr} {n c l h E sz:Nat} (hT:uX P T E sz) (hx:e.ev x=some (.slice a n c))
 (hl:dy e 0 lo l) (hh:dy e n hi h) (hlh:l≤h) (hhc:h≤c) :
 Qy P (.slice T x lo hi none) ty e H G (.slice (if c=l then a else a.map (·.add (l*sz))) (h - l) (c - l)):=fun ac w _ _ _ _ hk=>by
 have hr:=run_sizeOf (P:=P) w hT.2;have e1:(h:Int)≤c:=uJ;have e2:(l:Int)≤h:=uJ;cases lo with
 | none =>
   have hl:l=0:=hl;subst hl;cases hi with
   | none=>have hh:h=n:=hh;subst hh;simp [execOp,Instr.sliceAt,Instr.slice,hk.eval hx,aQ hT.1,Instr.sliceBounds,Instr.sliceBound,asIntOf,hr]
   | some y =>
     obtain ⟨k,hy⟩:=hh;simp [execOp,Instr.sliceAt,Instr.slice,hk.eval hx,hk.eval hy,aQ hT.1,Instr.sliceBounds,Instr.sliceBound,asIntOf,hr,e1,hhc]
 | some z =>
   obtain ⟨kz,hz⟩:=hl;cases hi with
   | none =>
     have hh:h=n:=hh;subst hh;simp [execOp,Instr.sliceAt,Instr.slice,hk.eval hx,hk.eval hz,aQ hT.1,Instr.sliceBounds,Instr.sliceBound,asIntOf,hr,e2,hlh]
   | some y =>
     obtain ⟨k,hy⟩:=hh;simp [execOp,Instr.sliceAt,Instr.slice,hk.eval hx,hk.eval hz,hk.eval hy,aQ hT.1,Instr.sliceBounds,Instr.sliceBound,asIntOf,hr,e1,e2,hlh,hhc]
theorem Tl {x i:Operand} {b o n sz E:Nat} {k:IntKind} {m:Int} (hu:P.underlying T=some (.array n E)) (hs:(P.info? E).map (·.size)=some sz) (hx:e.ev x=some (.pointer (some ⟨b,o,none⟩))) (hi:e.ev i=some (.int k m))
 (hb:0≤m∧m<n):Qy P (.indexAddr T x i) ty e H G (.pointer (some ⟨b,o+m.toNat*sz,none⟩)):=fun a w _ _ _ _ hh=>by
 simp [execOp,Instr.indexAt,hh.eval hx,hh.eval hi,asIntOf,aQ hu,Instr.sureAddr,hb,run_sizeOf w hs,add_lit]
theorem Qy.indexV {x i:Operand} {n E:Nat} {k:IntKind} {m:Int} {vs:List Value} {v:Value} (hu:P.underlying T=some (.array n E)) (h1:xB P E=true) (hs:(P.info? E).map (·.size)=some 1) (hx:e.ev x=some (.agg vs.toArray)) (hi:e.ev i=some (.int k m))
 (hb:0≤m∧m<n) (hv:vs[m.toNat]?=some v):Qy P (.index T x i) ty e H G v:=fun a w _ _ _ _ hh=>by
 simp [execOp,Instr.index,hh.eval hx,hh.eval hi,asIntOf,aQ hu,hb,run_sizeOf w hs,part,xS w h1,hv]
theorem Qy.indexVA {x i:Operand} {n E sz:Nat} {k:IntKind} {m:Int} {vs:List Value} (hu:P.underlying T=some (.array n E)) (h1:xZ P E sz=true) (hx:e.ev x=some (.agg vs.toArray)) (hi:e.ev i=some (.int k m))
 (hb:0≤m∧m<n):Qy P (.index T x i) ty e H G (.agg ((vs.drop (m.toNat*sz)).take sz).toArray):=fun a w _ _ _ _ hh=>by
 have h2:=run_sizeOf (P:=P) w (Ig h1);simp [execOp,Instr.index,hh.eval hx,hh.eval hi,asIntOf,aQ hu,hb,h2,part,Ae w h1]
theorem YH {x:Operand} {s:ByteArray} (ht:P.underlying T=some .string) (hx:e.ev x=some (.string s)):Qy P (.call { callee:=.builtin .len,args:=#[x],argTypes:=#[T] }) ty e H G (.int .i64 s.size):=fun a w _ _ _ _ hh=>by
 simp [execOp,resolve,invoke,builtin,Builtin.len_,hh.eval hx,aQ ht,goInt]
end
section
variable {P:Program} {e:B0} {H:Hp} {G:A3} {ty T:TypeId}
theorem Qy.eqlPtrNil {t t':TypeId} {x y:Operand} {a:Option Addr} (ht:P.underlying t=some (.pointer (P.pointee t))) (hx:e.ev x=some (.pointer a)) (hy:e.ev y=some (.pointer none)):Qy P (.binOp .eql t x y t') ty e H G (.bool a.isNone):=fun w0 w _ _ _ _ hh=>by
 have:=run_equalIn_pointer_nil (P:=P) w 9999 t a ht;simp [execOp,hh.eval hx,hh.eval hy,binOp,eqGuard,Op.equal,Op.maxDepth,this]
theorem Ka {t t':TypeId} {x y:Operand} {a:Option Addr} (ht:P.underlying t=some (.pointer (P.pointee t))) (hx:e.ev x=some (.pointer a)) (hy:e.ev y=some (.pointer none)):Qy P (.binOp .neq t x y t') ty e H G (.bool (!a.isNone)):=fun w0 w _ _ _ _ hh=>by
 have:=run_equalIn_pointer_nil (P:=P) w 9999 t a ht;simp [execOp,hh.eval hx,hh.eval hy,binOp,eqGuard,Op.equal,Op.maxDepth,this]
theorem Vz {x z:Operand} {lo hi:Option Operand} {a:Option Addr} {n c l h m E sz:Nat} {kz:IntKind} (hT:uX P T E sz) (hx:e.ev x=some (.slice a n c))
 (hl:dy e 0 lo l) (hh:∃ y,hi=some y∧∃ k,e.ev y=some (.int k (h:Int))) (hz:e.ev z=some (.int kz (m:Int))) (hlh:l≤h) (hhm:h≤m) (hmc:m≤c) :
 Qy P (.slice T x lo hi (some z)) ty e H G (.slice (if m=l then a else a.map (·.add (l*sz))) (h - l) (m - l)):=fun ac w _ _ _ _ hk=>by
 have hr:=run_sizeOf (P:=P) w hT.2;have e1:(h:Int)≤m:=uJ;have e2:(l:Int)≤h:=uJ;have e3:(m:Int)≤c:=uJ;obtain ⟨y,rfl,k,hy⟩:=hh;cases lo with
 | none =>
   have hl:l=0:=hl;subst hl;simp [execOp,Instr.sliceAt,Instr.slice,hk.eval hx,hk.eval hy,hk.eval hz,aQ hT.1,Instr.sliceBounds,Instr.sliceBound,asIntOf,hr,e1,e3,hhm,hmc]
 | some u =>
   obtain ⟨ku,hu⟩:=hl;simp [execOp,Instr.sliceAt,Instr.slice,hk.eval hx,hk.eval hy,hk.eval hz,hk.eval hu,aQ hT.1,Instr.sliceBounds,Instr.sliceBound,asIntOf,hr,e1,e2,e3,hhm,hmc,hlh]
end
def ln (P:Program) (T:Nat):Option (Nat×Nat×Nat):=match P.underlying T with
 | some (.array n E)=>match OD P E with | some k=>some (n,E,k) | none=>none
 | _=>none
theorem Lx {P:Program} {T n E k:Nat} (h:ln P T=some (n,E,k)):P.underlying T=some (.array n E)∧(P.info? E).map (·.size)=some k:=by
 unfold ln at h;split at h
 · rename_i n' E' hu;split at h
   · rename_i m hm;cases h;exact ⟨hu,Hv hm⟩
   cases h
 cases h
def Cu:CV→Option CV
 | .agg l=>some l
 | .tup _=>none
 | .nil=>none
 | .cons _ _=>none
 | x=>some (.cons x .nil)
section
variable {nx n:Nat} {ρ:Pl}
theorem Dg {x:CV} {v:Value} (h:Kn nx ρ x v) {l:CV} (hl:Cu x=some l):KL nx ρ l v.cells.toList:=by
 have scal:∀ y:CV,Ym y=true→∀ u,Kn nx ρ y u→KL nx ρ (.cons y .nil) u.cells.toList:=fun y hy u hu=>by
  rw [Tz (Vx hu hy)];exact qT hu pA
 cases x with
 | agg m=>cases hl;obtain ⟨vs,h1,h2⟩:=uI.1 h.2;rw [h2];exact ⟨h.1,h1⟩
 | tup m=>cases hl
 | nil=>cases hl
 | cons a b=>cases hl
 | _=>cases hl;exact scal _ U _ h
end
def uu (P:Program) (fs:List Field):Option (List (Nat×Nat)):=List.rec (some []) (fun f _ ih=>match OD P f.type with | some k=>(match ih with | some l=>some ((f.offset,k) :: l) | none=>none) | none=>none) fs
theorem ee {P:Program}:∀ {fs:List Field} {pl:List (Nat×Nat)},uu P fs=some pl→fs.map (fun f=>(f.offset,(P.info? f.type).map (·.size)))=pl.map fun x=>(x.1,some x.2):=by
 intro fs;induction fs with
 | nil=>intro pl h;cases h;rfl
 | cons f fs ih =>
   intro pl h;have h':(match OD P f.type with | some k=>(match uu P fs with | some l=>some ((f.offset,k) :: l) | none=>none) | none=>none)=some pl:=h;split at h'
   · rename_i k hk;split at h'
     · rename_i l hl;cases h';rw [cA,cA,ih hl,Hv hk]
     cases h'
   cases h'
def ZR (P:Program) (T:Nat):Option CV:=match P.info? T with
 | some i=>match i.zero with
   | some v=>match ZQ v with
     | some x=>Cu x
     | none=>none
   | none=>none
 | none=>none
theorem Rh {P:Program} {T:Nat} {x:CV} (h:ZR P T=some x) (nx:Nat) (ρ:Pl):∃ i z,P.info? T=some i∧i.zero=some z∧KL nx ρ x z.cells.toList:=by
 unfold ZR at h;split at h
 · rename_i i hi;split at h
   · rename_i v hv;split at h
     · rename_i y hy;exact ⟨i,v,hi,hv,Dg (SY hy) h⟩
     cases h
   cases h
 cases h
def Kb (E:Tr CV) (pl:List (Nat×Nat)) (n:Nat) (parts:List (Nat×Operand)):CV→Option CV:=
 List.rec (fun l=>some l) (fun p _ ih l=>match Ic pl p.1 with
  | some (off,size)=>(match wA E p.2 with
    | some c=>(match Cu c with
      | some m=>bif Nat.beq (vP m) size && Nat.ble (off+size) n then ih (Df (Fl off l) (Df m (Fk (off+size) l))) else none
      | none=>none)
    | none=>none)
  | none=>none) parts
section
variable {nx n:Nat} {ρ:Pl} {E:Tr CV} {a:Act}
theorem Kc (hs:B4 ρ E nx n a) {pl:List (Nat×Nat)} {N:Nat}:∀ {parts:List (Nat×Operand)} {l r:CV} {zs:List Value},KL nx ρ l zs→Kb E pl N parts l=some r→
 ∃ vs,Ba (eA a) parts=some vs∧Gv pl N vs=true∧KL nx ρ r (Au pl zs vs):=by
 intro parts;induction parts with
 | nil=>intro l r zs hl h;cases h;exact ⟨[],U,U,hl⟩
 | cons p parts ih =>
   intro l r zs hl h;obtain ⟨i,x⟩:=p;have h':(match Ic pl i with
    | some (off,size)=>(match wA E x with
      | some c=>(match Cu c with
        | some m=>bif Nat.beq (vP m) size && Nat.ble (off+size) N then Kb E pl N parts (Df (Fl off l) (Df m (Fk (off+size) l))) else none
        | none=>none)
      | none=>none)
    | none=>none)=some r:=h
   split at h'
   · rename_i off size hp;split at h'
     · rename_i c hc;split at h'
       · rename_i m hm;cases hb:Nat.beq (vP m) size && Nat.ble (off+size) N with
         | true =>
           rw [hb] at h';simp only [aB] at hb;obtain ⟨v,e1,k1⟩:=uQ hs hc;have kc:=Dg k1 hm;have hlen:v.cells.toList.length=size:=by rw [←vS kc];exact aD hb.1
           obtain ⟨vs,e2,o2,k2⟩:=ih (Gg (Jx off hl) (Gg kc (Jw (off+size) hl))) h';rw [zE] at hp;refine ⟨(i,v) :: vs,by unfold Ba;rw [e1,e2],?_,?_⟩
           · unfold Gv;rw [hp,o2,nL,hlen];simp only [aB];exact ⟨by simp,hb.2⟩
           · unfold Au;rw [hp];simp only [hlen];exact k2
         | false=>rw [hb] at h';cases h'
       cases h'
     cases h'
   cases h'
end
def ef (P:Program) (fs:List Field):Nat→Bool:=List.rec (fun _=>true) (fun f _ ih j=>match Ah P f with | (true,k)=>Nat.beq k j && ih (Nat.succ j) | _=>false) fs
theorem YI {P:Program}:∀ {fs:List Field} {j:Nat},ef P fs j=true→fs.map (Ah P)=(List.range' j fs.length).map fun i=>(true,i):=by
 intro fs;induction fs with
 | nil=>intro j _;rfl
 | cons f fs ih =>
   intro j h;have h':(match Ah P f with | (true,k)=>Nat.beq k j && ef P fs (Nat.succ j) | _=>false)=true:=h;split at h'
   · rename_i k hk;rw [aB] at h';have e:=aD h'.1;subst e;rw [cA,hk,bN,uE,cA,ih h'.2]
   cases h'
def oy (P:Program) (t:Nat):Option Nat:=match P.underlying t with
 | some (.struct ⟨fs⟩)=>bif not (P.stoodInHeld t) && (not (P.eqGuardType P.depth t) && ef P fs 0) then some fs.length else none
 | _=>none
theorem TA {P:Program} {t n:Nat} (h:oy P t=some n):Es P t n:=by
 unfold oy at h;split at h
 · rename_i fs hu;rcases uN h with ⟨h1,h2⟩ | ⟨_,h2⟩
   · cases h2;simp only [aB,eJ] at h1;have hf:P.fieldsOf t=⟨fs⟩:=by unfold Program.fieldsOf;rw [hu]
     refine ⟨by rw [hf];exact hu,h1.1,h1.2.1,?_⟩;rw [hf,YI h1.2.2,sE]
   cases h2
 cases h
def YJ:CV→Option Int
 | .int .i64 n=>some n
 | _=>none
theorem YK {nx:Nat} {ρ:Pl} {a:CV} {v:Value} {n:Int} (h:YJ a=some n) (hk:Kn nx ρ a v):v=.int .i64 n:=by
 unfold YJ at h;split at h
 · cases h;exact hk.2
 cases h
def CO (l:CV):Option (List Int):=lrec (some []) (fun a _ ih=>match YJ a with | some n=>(match ih with | some l=>some (n :: l) | none=>none) | none=>none) l
theorem CQ {nx:Nat} {ρ:Pl} {x:CV} {vs:List Value} (h:KL nx ρ x vs):∀ {xs:List Int},CO x=some xs→vs=xs.map (Value.int .i64):=by
 refine nD (motive:=fun x vs=>∀ {xs:List Int},CO x=some xs→vs=xs.map (Value.int .i64)) ?_ ?_ h
 · intro xs hx;have hx':some []=some xs:=hx;cases hx';rfl
 intro a b v vs hv _ ih xs hx;have hx':(match YJ a with | some n=>(match CO b with | some l=>some (n :: l) | none=>none) | none=>none)=some xs:=hx;split at hx'
 · rename_i n hn;split at hx'
   · rename_i l hl;cases hx';rw [cA,←ih hl,YK hn hv]
   cases hx'
 cases hx'
def ls (xs ys:List Int):Bool:=List.rec (fun ys=>List.rec true (fun _ _ _=>false) ys) (fun x _ ih ys=>List.rec false (fun y l _=>Lw x y && ih l) ys) xs ys
theorem TB:∀ xs ys:List Int,ls xs ys=decide (xs=ys):=by
 intro xs;induction xs with
 | nil=>intro ys;cases ys with
   | nil=>rfl
   | cons y ys=>show false=_;simp
 | cons x xs ih=>intro ys;cases ys with
   | nil=>show false=_;simp
   | cons y ys =>
     show (Lw x y && ls xs ys)=_;rw [yR,ih];by_cases h1:x=y <;> by_cases h2:xs=ys <;> simp [h1,h2]
theorem YL (b:ByteArray):∀ (k i:Nat) (r:List UInt8),b.size=i+k→ByteArray.toList.loop b i r=r.reverse++b.data.toList.drop i:=by
 intro k;induction k with
 | zero =>
   intro i r h;rw [ByteArray.toList.loop,aE (by omega),cY (by have:b.data.toList.length=b.size:=rfl;omega),fH]
 | succ k ih =>
   intro i r h;rw [ByteArray.toList.loop,aM (by omega),ih (i+1) _ uJ];have hl:i<b.data.toList.length:=by show i<b.size;omega
   rw [eN hl,tR,cU];have hs:i<b.size:=uJ;have:b.get! i=b.data.toList[i]:=by
    show b.data[i]! = _;rw [pV b.data i hs];rfl
   rw [this];rfl
theorem Wa (l:List UInt8):(ByteArray.mk l.toArray).toList=l:=by
 show ByteArray.toList.loop _ 0 []=l;rw [YL _ _ 0 [] (cF _).symm];simp
def uv:CV→Option Int
 | .int .u8 n=>some n
 | _=>none
def TC (l:CV):Option (List Int):=lrec (some []) (fun a _ ih=>match uv a with | some n=>(match ih with | some l=>some (n :: l) | none=>none) | none=>none) l
theorem JE {nx:Nat} {ρ:Pl} {x:CV} {vs:List Value} (h:KL nx ρ x vs):∀ {xs:List Int},TC x=some xs→vs=xs.map (Value.int .u8):=by
 refine nD (motive:=fun x vs=>∀ {xs:List Int},TC x=some xs→vs=xs.map (Value.int .u8)) ?_ ?_ h
 · intro xs hx;have hx':some []=some xs:=hx;cases hx';rfl
 intro a b v vs hv _ ih xs hx;have hx':(match uv a with | some n=>(match TC b with | some l=>some (n :: l) | none=>none) | none=>none)=some xs:=hx;split at hx'
 · rename_i n hn;split at hx'
   · rename_i l hl;cases hx';rw [cA,←ih hl];unfold uv at hn;split at hn
     · cases hn;rw [iJ.1 hv.2]
     cases hn
   cases hx'
 cases hx'
theorem TD {bs:List UInt8} {xs:List Int} (h:(bs.map fun b=>Value.int .u8 (b.toNat:Int))=xs.map (Value.int .u8)):xs=bs.map fun b=>(b.toNat:Int):=by
 induction bs generalizing xs with
 | nil=>cases xs with
   | nil=>rfl
   | cons x xs=>cases h
 | cons b bs ih=>cases xs with
   | nil=>cases h
   | cons x xs =>
     rw [cA,cA] at h;injection h with h1 h2;injection h1 with _ h3;rw [cA,ih h2,h3]
theorem eg {a b:List UInt8} (h:(a.map fun b=>(b.toNat:Int))=b.map fun b=>(b.toNat:Int)):a=b:=by
 induction a generalizing b with
 | nil=>cases b with
   | nil=>rfl
   | cons y b=>cases h
 | cons x a ih=>cases b with
   | nil=>cases h
   | cons y b =>
     rw [cA,cA] at h;injection h with h1 h2;rw [ih h2,UInt8.toNat_inj.1 (Int.ofNat.inj h1)]
section
variable {P:Program} {e:B0} {H:Hp} {G:A3} {ty:TypeId}
theorem GF {t t':TypeId} {x y:Operand} {m n:ByteArray} (hx:e.ev x=some (.string m)) (hy:e.ev y=some (.string n)):Qy P (.binOp .eql t x y t') ty e H G (.bool (m.toList == n.toList)):=fun a w _ _ _ _ hh=>by
 simp [execOp,hh.eval hx,hh.eval hy,binOp,eqGuard,Op.stringOp]
theorem GG {t t':TypeId} {x y:Operand} {m n:ByteArray} (hx:e.ev x=some (.string m)) (hy:e.ev y=some (.string n)):Qy P (.binOp .neq t x y t') ty e H G (.bool (!(m.toList == n.toList))):=fun a w _ _ _ _ hh=>by
 simp [execOp,hh.eval hx,hh.eval hy,binOp,eqGuard,Op.stringOp]
end
def uw (P:Program) (t:Nat) (x y:CV):Option Bool:=match x,y with
 | .bool a,.bool b=>(match P.underlying t with | some .bool=>some (bif a then b else not b) | _=>none)
 | .agg a,.agg b=>(match oy P t with
   | some n=>(match CO a with
     | some xs=>(match CO b with
       | some ys=>bif Nat.beq xs.length n && Nat.beq ys.length n then some (ls xs ys) else none
       | none=>none)
     | none=>none)
   | none=>none)
 | .sl _ _ _ _ _,.nils=>(match Vy P t with | some _=>some false | none=>none)
 | .nils,.nils=>(match Vy P t with | some _=>some true | none=>none)
 | .ptr _ _,.nilp=>(match P.underlying t with | some (.pointer _)=>some false | _=>none)
 | .nilp,.nilp=>(match P.underlying t with | some (.pointer _)=>some true | _=>none)
 | .ptr p o,.ptr p' o'=>bif Nat.beq p p' && Nat.beq o o' then (match P.underlying t with | some (.pointer te)=>(match P.info? te with | some _=>some true | none=>none) | _=>none) else none
 | .fn _ _ _,.nilf=>bif Io P t then some false else none
 | .str a,.str b=>(match TC a with
   | some xs=>(match TC b with | some ys=>some (ls xs ys) | none=>none)
   | none=>none)
 | _,_=>none
theorem Nr {P:Program} {t u:Nat} (h:P.underlying t=some (.pointer u)):P.underlying t=some (.pointer (P.pointee t)):=by
 have:P.pointee t=u:=by unfold Program.pointee;rw [h]
 rw [this];exact h
section
variable {P:Program} {nx n:Nat} {ρ:Pl} {E:Tr CV} {a:Act} {e:B0} {H:Hp} {G:A3}
theorem Tm {P:Program} {e:B0} {H:Hp} {G:A3} {ty t t' te:TypeId} {x y:Operand} {ad:Addr} {j:TypeInfo} (ht:P.underlying t=some (.pointer te)) (hj:P.info? te=some j) (hx:e.ev x=some (.pointer (some ad))) (hy:e.ev y=some (.pointer (some ad))):Qy P (.binOp .eql t x y t') ty e H G (.bool true):=fun w0 w _ _ _ _ hh=>by
 have h:∀ d:Nat,(Op.equalIn (d+1) t (.pointer (some ad)) (.pointer (some ad))).run P w=.ok true w:=fun d=>by
  simp [Op.equalIn,aQ ht,sizeOf,typeInfo,hj,tI]
 have h2:=h 9999;simp [execOp,hh.eval hx,hh.eval hy,binOp,eqGuard,Op.equal,Op.maxDepth,h2]
theorem Tn {P:Program} {e:B0} {H:Hp} {G:A3} {ty t t' te:TypeId} {x y:Operand} {ad:Addr} {j:TypeInfo} (ht:P.underlying t=some (.pointer te)) (hj:P.info? te=some j) (hx:e.ev x=some (.pointer (some ad))) (hy:e.ev y=some (.pointer (some ad))):Qy P (.binOp .neq t x y t') ty e H G (.bool false):=fun w0 w _ _ _ _ hh=>by
 have h:∀ d:Nat,(Op.equalIn (d+1) t (.pointer (some ad)) (.pointer (some ad))).run P w=.ok true w:=fun d=>by
  simp [Op.equalIn,aQ ht,sizeOf,typeInfo,hj,tI]
 have h2:=h 9999;simp [execOp,hh.eval hx,hh.eval hy,binOp,eqGuard,Op.equal,Op.maxDepth,h2]
theorem eh {t t':Nat} {x y:Operand} {cx cy:CV} {vx vy:Value} {b:Bool} (h:uw P t cx cy=some b) (kx:Kn nx ρ cx vx) (ky:Kn nx ρ cy vy) (hx:e.ev x=some vx) (hy:e.ev y=some vy) :
 (∀ ty,Qy P (.binOp .eql t x y t') ty e H G (.bool b))∧(∀ ty,Qy P (.binOp .neq t x y t') ty e H G (.bool (not b))):=by
 unfold uw at h;split at h
 · rename_i p q;split at h
   · rename_i hu;cases h;rw [sV.1 kx.2] at hx;rw [sV.1 ky.2] at hy;have e1:(bif p then q else not q)=decide (p=q):=by cases p <;> cases q <;> rfl
     refine ⟨fun ty=>by rw [e1];exact rL hu hx hy,fun ty=>?_⟩;rw [e1,Jz];exact Ih hu hx hy
   cases h
 · rename_i l m;split at h
   · rename_i N hN;split at h
     · rename_i xs hxs;split at h
       · rename_i ys hys;rcases uN h with ⟨h1,h2⟩ | ⟨_,h2⟩
         · cases h2;rw [aB] at h1;obtain ⟨vs,k1,e1⟩:=uI.1 kx.2;obtain ⟨us,k2,e2⟩:=uI.1 ky.2;have kl1:KL nx ρ l vs:=⟨kx.1,k1⟩
           have kl2:KL nx ρ m us:=⟨ky.1,k2⟩
           have g1:=CQ kl1 hxs;have g2:=CQ kl2 hys;rw [e1,g1] at hx;rw [e2,g2] at hy;rw [TB];have hT:=TA hN;refine ⟨fun ty=>Nh xs ys hT hx hy (aD h1.1) (aD h1.2),fun ty=>?_⟩;rw [Jz];exact VP xs ys hT hx hy (aD h1.1) (aD h1.2)
         cases h2
       cases h
     cases h
   cases h
 · rename_i t1 o1 n1 s1 c1;split at h
   · rename_i q hT;obtain ⟨E',sz⟩:=q;cases h;have e2:=oS.1 ky.2;subst e2;have hs:∃ c',vx=.slice (some ⟨(ρ t1).1,o1,none⟩) n1 c':=by
      cases c1 with
      | some c=>exact ⟨c,(lI.1 kx.2).1⟩
      | none=>obtain ⟨c,h1,_⟩:=oR.1 kx.2;exact ⟨c,h1⟩
     obtain ⟨c',rfl⟩:=hs;refine ⟨fun ty=>?_,fun ty=>?_⟩
     · have:=iG (t':=t') (ty:=ty) (H:=H) (G:=G) (xX hT) hx hy;simpa using this
     have:=Ew (t':=t') (ty:=ty) (H:=H) (G:=G) (xX hT) hx hy;simpa using this
   cases h
 · split at h
   · rename_i q hT;obtain ⟨E',sz⟩:=q;cases h;have e1:=oS.1 kx.2;have e2:=oS.1 ky.2;subst e1 e2;refine ⟨fun ty=>?_,fun ty=>?_⟩
     · have:=iG (t':=t') (ty:=ty) (H:=H) (G:=G) (xX hT) hx hy;simpa using this
     have:=Ew (t':=t') (ty:=ty) (H:=H) (G:=G) (xX hT) hx hy;simpa using this
   cases h
 · split at h
   · rename_i u hu;cases h;have e1:=nX.1 kx.2;have e2:=DV.nilp.1 ky.2;subst e1 e2;exact ⟨fun ty=>Qy.eqlPtrNil (Nr hu) hx hy,fun ty=>Ka (Nr hu) hx hy⟩
   cases h
 · split at h
   · rename_i u hu;cases h;have e1:=DV.nilp.1 kx.2;have e2:=DV.nilp.1 ky.2;subst e1 e2;exact ⟨fun ty=>Qy.eqlPtrNil (Nr hu) hx hy,fun ty=>Ka (Nr hu) hx hy⟩
   cases h
 · rcases uN h with ⟨h1,h2⟩ | ⟨_,h2⟩
   · rw [aB] at h1;have q1:=aD h1.1;have q2:=aD h1.2;subst q1 q2;split at h2
     · rename_i te hu;split at h2
       · rename_i j hj;cases h2;have e1:=nX.1 kx.2;have e2:=nX.1 ky.2;subst e1 e2;exact ⟨fun ty=>Tm hu hj hx hy,fun ty=>Tn hu hj hx hy⟩
       cases h2
     cases h2
   cases h2
 · rcases uN h with ⟨h1,h2⟩ | ⟨_,h2⟩
   · cases h2;obtain ⟨xs,ys,_,_,e1⟩:=DV.fn.1 kx.2;have e2:vy=.nilFunc:=ky.2;subst e1 e2;exact ⟨fun ty=>Sz h1 hx hy,fun ty=>Ta h1 hx hy⟩
   cases h2
 · rename_i p q;split at h
   · rename_i xs hxs;split at h
     · rename_i ys hys;cases h;obtain ⟨vs,bs,k1,e1,e2⟩:=kx.2;obtain ⟨us,cs,k2,e3,e4⟩:=ky.2;subst e2 e4;have g1:=JE (nx:=nx) (ρ:=ρ) (x:=p) (vs:=vs) ⟨kx.1,k1⟩ hxs;have g2:=JE (nx:=nx) (ρ:=ρ) (x:=q) (vs:=us) ⟨ky.1,k2⟩ hys;rw [e1] at g1;rw [e3] at g2;have q1:=TD g1;have q2:=TD g2;have e5:((ByteArray.mk bs.toArray).toList == (ByteArray.mk cs.toArray).toList)=ls xs ys:=by
        rw [Wa,Wa,TB,q1,q2];by_cases hbc:bs=cs
        · subst hbc;simp
        have:¬((bs.map fun b=>(b.toNat:Int))=cs.map fun b=>(b.toNat:Int)):=fun h=>hbc (eg h);rw [cM this];simp [hbc]
       refine ⟨fun ty=>?_,fun ty=>?_⟩
       · rw [←e5];exact GF hx hy
       rw [←e5];exact GG hx hy
     cases h
   cases h
 cases h
end
section Ws
variable {κ:Type} [DecidableEq κ] [A9 κ]
def To (eq:κ→κ→Bool) (k:κ) (l:List (κ×Int)):Option Int:=List.rec none (fun x _ ih=>bif eq x.1 k then some x.2 else ih) l
def TE (eq:κ→κ→Bool) (k:κ) (v:Int) (l:List (κ×Int)):List (κ×Int):=List.rec [(k,v)] (fun x xs ih=>bif eq x.1 k then (x.1,v) :: xs else x :: ih) l
theorem Ns {eq:κ→κ→Bool} (he:∀ a b,eq a b=decide (a=b)) (k:κ) (l:List (κ×Int)):To eq k l=yZ l k:=by
 induction l with
 | nil=>rfl
 | cons x l ih =>
   show (bif eq x.1 k then some x.2 else To eq k l)=_;rw [he,ih];by_cases h:x.1=k
   · simp [yZ,h]
   simp [yZ,h]
theorem YM {eq:κ→κ→Bool} (he:∀ a b,eq a b=decide (a=b)) (k:κ) (v:Int) (l:List (κ×Int)):TE eq k v l=Su l k v:=by
 induction l with
 | nil=>rfl
 | cons x l ih =>
   obtain ⟨k',u⟩:=x;show (bif eq k' k then (k',v) :: l else (k',u) :: TE eq k v l)=_;rw [he,ih];by_cases h:k'=k
   · simp [Su,h]
   simp [Su,h]
end Ws
def gj (a b:K4):Bool:=Lw a.c b.c && (Lw a.b b.b && (Lw a.a b.a && Lw a.op b.op))
theorem Yp (a b:K4):gj a b=decide (a=b):=by
 cases a;cases b;simp only [gj,yR];rw [Bool.eq_iff_iff];simp only [aB,aY,K4.mk.injEq];constructor
 · rintro ⟨h1,h2,h3,h4⟩;exact ⟨h4,h3,h2,h1⟩
 rintro ⟨h1,h2,h3,h4⟩;exact ⟨h4,h3,h2,h1⟩
def NH (x:CV):Option Int:=match x with
 | .int .i64 n=>some n
 | _=>none
def NI (x:CV):Option K4:=match x with
 | .agg (.cons (.int .i64 a) (.cons (.int .i64 b) (.cons (.int .i64 c) (.cons (.int .i64 d) .nil))))=>some ⟨a,b,c,d⟩
 | _=>none
def z0 (P:Program) (et:Nat):Bool:=match P.info? et with
 | some i=>match i.zero with | some (.int .i64 n)=>Lw n 0 | _=>false
 | none=>false
theorem ZS {P:Program} {et:Nat} (h:z0 P et=true) (w:World):(zeroValue et).run P w=.ok (.int .i64 0) w:=by
 unfold z0 at h;split at h
 · rename_i i hi;split at h
   · rename_i n hz;rw [yR,aY] at h;subst h;simp [zeroValue,typeInfo,hi,hz]
   cases h
 cases h
def ek (P:Program) (T:Nat):Bool:=match P.underlying T with
 | some (.map kt et)=>match P.underlying kt with | some (.int .i64)=>z0 P et | _=>false
 | _=>false
def el (P:Program) (T:Nat):Bool:=match P.underlying T with
 | some (.map kt et)=>match oy P kt with | some n=>Nat.beq n 4 && z0 P et | none=>false
 | _=>false
theorem Yq {P:Program} {T:Nat} (h:ek P T=true):∃ kt,I1 P T kt Int:=by
 unfold ek at h;split at h
 · rename_i kt et hT;split at h
   · rename_i hk;exact ⟨kt,⟨et,hT,ZS h⟩,H7.int hk⟩
   cases h
 cases h
theorem Yr {P:Program} {T:Nat} (h:el P T=true):∃ kt,I1 P T kt K4:=by
 unfold el at h;split at h
 · rename_i kt et hT;split at h
   · rename_i n hk;rw [aB] at h;have:=aD h.1;subst this;exact ⟨kt,⟨et,hT,ZS h.2⟩,H7.k4 (TA hk)⟩
   cases h
 cases h
def gk (c:Bool) (r:Option Int):CV:=bif c then .tup (.cons (.int .i64 (match r with | some v=>v | none=>0)) (.cons (.bool (match r with | some _=>true | none=>false)) .nil)) else .int .i64 (match r with | some v=>v | none=>0)
section
variable {P:Program} {nx n:Nat} {ρ:Pl} {w:World}
theorem Nt {x:CV} {n:Int} {v:Value} (h:NH x=some n) (hk:Kn nx ρ x v):v=A9.val n:=by
 unfold NH at h;split at h
 · cases h;exact iJ.1 hk.2
 cases h
theorem Nu {x:CV} {n:K4} {v:Value} (h:NI x=some n) (hk:Kn nx ρ x v):v=A9.val n:=by
 unfold NI at h;split at h
 · cases h;obtain ⟨vs,h1,rfl⟩:=uI.1 hk.2;obtain ⟨v1,r1,rfl,g1,h1⟩:=mJ.1 h1;obtain ⟨v2,r2,rfl,g2,h1⟩:=mJ.1 h1;obtain ⟨v3,r3,rfl,g3,h1⟩:=mJ.1 h1;obtain ⟨v4,r4,rfl,g4,h1⟩:=mJ.1 h1;rw [DL.nil.1 h1,iJ.1 g1,iJ.1 g2,iJ.1 g3,iJ.1 g4];rfl
 cases h
theorem Ri {t:Nat} {v:Value} (hk:Kn nx ρ (.mp t) v):v=.map (some (ρ t).1):=DV.mp.1 hk.2
theorem TF {c:Bool} {r:Option Int}:Kn nx ρ (gk c r) (if c then .tuple #[.int .i64 (r.getD 0),.bool r.isSome] else .int .i64 (r.getD 0)):=by
 cases c with
 | false=>cases r <;> exact ⟨I8,U⟩
 | true =>
   cases r with
   | none=>exact ⟨⟨I8,I8,I8⟩,rQ.2 ⟨_,mJ.2 ⟨_,_,U,U,mJ.2 ⟨_,_,U,U,U⟩⟩,U⟩⟩
   | some v=>exact ⟨⟨I8,I8,I8⟩,rQ.2 ⟨_,mJ.2 ⟨_,_,U,U,mJ.2 ⟨_,_,U,U,U⟩⟩,U⟩⟩
variable {κ:Type} [DecidableEq κ] [A9 κ] {T kt:TypeId}
theorem Hw {r:Nat} {xs:List (κ×Int)} {k:κ} (hT:I1 P T kt κ) (hb:w.heap[r]?=some (vV xs)) (c:Bool):(Instr.lookup T (.map (some r)) (A9.val k) c).run P w =
 .ok (if c then .tuple #[.int .i64 ((yZ xs k).getD 0),.bool (yZ xs k).isSome] else .int .i64 ((yZ xs k).getD 0)) w:=by
 obtain ⟨⟨et,hu,hz⟩,hk⟩:=hT;simp only [Instr.lookup,bL,aQ hu,aO,oK (P:=P) hb,bR,hk.check,hk.look];cases hm:yZ xs k with
 | none=>rw [(Kq xs k).1 hm];cases c <;> simp [hz]
 | some v=>obtain ⟨i,h1,_⟩:=Ug xs k hm;rw [h1];cases c <;> simp
end
def en (E:Tr CV):Option Operand→Option Int
 | none=>some 0
 | some y=>match wA E y with | some (.int _ m)=>some m | _=>none
def hiC (E:Tr CV) (n:Nat):Option Operand→Option Int
 | none=>some n
 | some y=>match wA E y with | some (.int _ m)=>some m | _=>none
def ep (t o n sz:Nat) (c:Option Nat) (l h:Int):Option CV:=
 bif yK 0 l && yK l h then
  (match c with
  | some c=>bif yK h c then
   (bif Nat.beq c l.toNat then some (.sl t o (Nat.sub h.toNat l.toNat) sz (some 0)) else some (.sl t (Nat.add o (Nat.mul l.toNat sz)) (Nat.sub h.toNat l.toNat) sz (some (Nat.sub c l.toNat)))) else none
  | none=>bif yK h n then
   (bif Nat.beq l.toNat 0 then some (.sl t o h.toNat sz none) else
    bif yK n l then some .sle else some (.sl t (Nat.add o (Nat.mul l.toNat sz)) (Nat.sub h.toNat l.toNat) sz none)) else none)
 else none
def ZT (m:Int) (n:Nat):Option Nat→Bool
 | some c=>yK m c
 | none=>yK m n
def TG (E:Tr CV):Op→Option Nat
 | .load _ x=>match wA E x with | some (.ptr t _)=>some t | _=>none
 | .lookup _ x _ _=>match wA E x with | some (.mp t)=>some t | _=>none
 | _=>none
def oz (P:Program) (E:Tr CV) (h:Tr CB) (c:Operand) (x:Operand) (y:Operand):Option CV:=match wA E c with | some (.bool b)=>wA E (bif b then x else y) | _=>none
def qv3 (P:Program) (E:Tr CV) (h:Tr CB) (x:Operand):Option CV:=match wA E x with | some (.bool b)=>some (.bool (not b)) | _=>none
def qv4 (P:Program) (E:Tr CV) (h:Tr CB) (x:Operand):Option CV:=match wA E x with | some (.int k m)=>some (.int k (wr k (0 - m))) | _=>none
def pd (P:Program) (E:Tr CV) (h:Tr CB) (o:BinOp) (t:TypeId) (x:Operand) (y:Operand):Option CV:=match wA E x with
 | some (.int k m)=>match wA E y with
   | some (.int k' n)=>match sh o k m n with
     | some c=>some c
     | none=>bif OB k k' then bo o k m n else none
   | _=>none
 | some a=>match wA E y with
   | some b=>match uw P t a b with
     | some r=>(match o with | .eql=>some (.bool r) | .neq=>some (.bool (not r)) | _=>none)
     | none=>none
   | none=>none
 | none=>none
def pe (P:Program) (E:Tr CV) (h:Tr CB) (s:TypeId) (t:TypeId) (x:Operand):Option CV:=match P.underlying t with
 | some (.int k')=>match P.underlying s with
   | some _=>match wA E x with | some (.int _ m)=>some (.int k' (wr k' m)) | _=>none
   | none=>none
 | _=>none
def qv7 (P:Program) (E:Tr CV) (h:Tr CB) (x:Operand) (i:Nat):Option CV:=match wA E x with | some (.tup l)=>Lv l i | _=>none
def pf (P:Program) (E:Tr CV) (h:Tr CB) (x:Operand):Option CV:=match wA E x with
 | some (.ptr t o)=>some (.ptr t o)
 | some (.mp t)=>some (.mp t)
 | some (.fn f a b)=>some (.fn f a b)
 | some (.yl t)=>some (.yl t)
 | _=>none
def pg (P:Program) (E:Tr CV) (h:Tr CB) (s:TypeId) (x:Operand) (f:Nat):Option CV:=match wA E x with
 | some (.ptr t o)=>match ow P s f with | some k=>some (.ptr t (Nat.add o k)) | none=>none
 | _=>none
def lu (P:Program) (E:Tr CV) (h:Tr CB) (T:TypeId) (x:Operand) (i:Nat):Option CV:=match wA E x with
 | some (.agg l)=>match P.underlying T with
   | some (.struct ⟨fs⟩)=>match Ic fs i with
     | some fd=>bif xB P fd.type then Lv l fd.offset else (match gi P fd.type with | some k=>some (.agg (Fl k (Fk fd.offset l))) | none=>none)
     | none=>none
   | _=>none
 | _=>none
def YN (P:Program) (E:Tr CV) (h:Tr CB) (T:TypeId) (x:Operand):Option CV:=match wA E x with
 | some (.ptr t o)=>match h.get t with
   | some (.cells l _ _ _)=>bif xB P T then NC l o else
     (match gi P T with
     | some k=>bif Nat.beq (vP (vU l o k)) k then some (.agg (vU l o k)) else none
     | none=>none)
   | _=>none
 | _=>none
def lx (P:Program) (E:Tr CV) (h:Tr CB) (f:Nat) (xs:List Operand) (ys:List Operand):Option CV:=match NE E xs with
 | some a=>match NE E ys with | some b=>some (.fn f a b) | none=>none
 | none=>none
def YO (P:Program) (E:Tr CV) (h:Tr CB) (T:TypeId) (x:Operand) (i:Operand):Option CV:=match wA E i with
 | some (.int _ m)=>match wA E x with
   | some (.sl t o n sz _)=>match Vy P T with
     | some (_,sz')=>bif Nat.beq sz sz' && (yK 0 m && not (yK n m)) then some (.ptr t (Nat.add o (Nat.mul m.toNat sz'))) else none
     | none=>none
   | some (.ptr t o)=>match ln P T with
     | some (n,_,sz)=>bif yK 0 m && not (yK n m) then some (.ptr t (Nat.add o (Nat.mul m.toNat sz))) else none
     | none=>none
   | _=>none
 | _=>none
def mc (P:Program) (E:Tr CV) (h:Tr CB) (T:TypeId) (x:Operand) (i:Operand):Option CV:=match wA E i with
 | some (.int _ m)=>match wA E x with
   | some (.agg l)=>match ln P T with
     | some (n,E',sz)=>bif Nat.beq sz 1 && (xB P E' && (yK 0 m && not (yK n m))) then Lv l m.toNat else
      bif xZ P E' sz && (Nat.ble 1 sz && (yK 0 m && not (yK n m))) then some (.agg (Fl sz (Fk (Nat.mul m.toNat sz) l))) else none
     | none=>none
   | _=>none
 | _=>none
def md (P:Program) (E:Tr CV) (h:Tr CB) (T:TypeId) (x:Operand) (lo:Option Operand) (hi:Option Operand):Option CV:=match wA E x with
 | some (.sl t o n sz c)=>match Vy P T with
   | some (_,sz')=>bif Nat.beq sz sz' then (match en E lo with
     | some l=>(match hiC E n hi with | some h=>ep t o n sz c l h | none=>none)
     | none=>none) else none
   | none=>none
 | some .nils=>match Vy P T with
   | some _=>(match en E lo with
     | some l=>(match hiC E 0 hi with | some h=>bif Lw l 0 && Lw h 0 then some .nils else none | none=>none)
     | none=>none)
   | none=>none
 | _=>none
def me (P:Program) (E:Tr CV) (h:Tr CB) (T:TypeId) (x:Operand) (lo:Option Operand) (y:Operand) (z:Operand):Option CV:=match wA E x with
 | some (.sl t o n sz c)=>match Vy P T with
   | some (_,sz')=>bif Nat.beq sz sz' then (match en E lo with
     | some l=>(match hiC E n (some y) with
       | some h=>(match wA E z with
         | some (.int _ m)=>bif yK 0 l && (yK l h && (yK h m && ZT m n c)) then
          (bif Nat.beq m.toNat l.toNat then some (.sl t o (Nat.sub h.toNat l.toNat) sz (some 0)) else some (.sl t (Nat.add o (Nat.mul l.toNat sz)) (Nat.sub h.toNat l.toNat) sz (some (Nat.sub m.toNat l.toNat)))) else none
         | _=>none)
       | none=>none)
     | none=>none) else none
   | none=>none
 | some .nils=>match Vy P T with
   | some _=>(match en E lo with
     | some l=>(match hiC E 0 (some y) with
       | some h=>(match wA E z with
         | some (.int _ m)=>bif Lw l 0 && (Lw h 0 && Lw m 0) then some .nils else none
         | _=>none)
       | none=>none)
     | none=>none)
   | none=>none
 | _=>none
def mf (P:Program) (E:Tr CV) (h:Tr CB) (t:TypeId) (parts:List (Nat×Operand)):Option CV:=match P.underlying t with
 | some (.struct ⟨fs⟩)=>match uu P fs with
   | some pl=>match ZR P t with
     | some z=>match Kb E pl (vP z) parts z with | some l=>some (.agg l) | none=>none
     | none=>none
   | none=>none
 | some (.array n E')=>match OD P E' with
   | some sz=>match ZR P t with
     | some z=>match Kb E (xJ n sz) (vP z) parts z with | some l=>some (.agg l) | none=>none
     | none=>none
   | none=>none
 | _=>none
def NJ (P:Program) (E:Tr CV) (h:Tr CB) (x:Operand) (T:TypeId):Option CV:=match wA E x with
 | some (.sl _ _ n _ _)=>match Vy P T with | some _=>some (.int .i64 n) | none=>none
 | some .nils=>match Vy P T with | some _=>some (.int .i64 0) | none=>none
 | some .sle=>match Vy P T with | some _=>some (.int .i64 0) | none=>none
 | some (.str s)=>match P.underlying T with | some .string=>some (.int .i64 (vP s)) | _=>none
 | _=>none
def mg (P:Program) (E:Tr CV) (h:Tr CB) (x:Operand) (T:TypeId):Option CV:=match wA E x with
 | some (.sl _ _ _ _ (some c))=>match Vy P T with | some _=>some (.int .i64 c) | none=>none
 | some .nils=>match Vy P T with | some _=>some (.int .i64 0) | none=>none
 | _=>none
def mh (P:Program) (E:Tr CV) (h:Tr CB) (x:Operand) (y:Operand):Option CV:=match wA E x with
 | some (.int k m)=>match wA E y with | some (.int k' n)=>bif OB k k' then some (.int k (bif yK m n then m else n)) else none | _=>none
 | _=>none
def mi (P:Program) (E:Tr CV) (h:Tr CB) (x:Operand) (y:Operand):Option CV:=match wA E x with
 | some (.int k m)=>match wA E y with | some (.int k' n)=>bif OB k k' then some (.int k (bif yK n m then m else n)) else none | _=>none
 | _=>none
def ph (P:Program) (E:Tr CV) (h:Tr CB) (T:TypeId) (x i:Operand) (c:Bool):Option CV:=match wA E x with
 | some (.mp t)=>match wA E i with
   | some k=>match h.get t with
     | some (.mapI l _)=>(match NH k with | some n=>bif ek P T then some (gk c (To Lw n l)) else none | none=>none)
     | some (.mapK l _)=>(match NI k with | some n=>bif el P T then some (gk c (To gj n l)) else none | none=>none)
     | _=>none
   | none=>none
 | _=>none
def qv (P:Program) (E:Tr CV) (h:Tr CB):Op→Option CV
 | .move x=>wA E x
 | .assign x=>wA E x
 | .pick c x y=>oz P E h c x y
 | .unOp .not _ x=>qv3 P E h x
 | .unOp .neg _ x=>qv4 P E h x
 | .binOp o t x y _=>pd P E h o t x y
 | .convert s t x=>pe P E h s t x
 | .extract x i=>qv7 P E h x i
 | .nilCheck x=>pf P E h x
 | .fieldAddr s x f=>pg P E h s x f
 | .field T x i=>lu P E h T x i
 | .load T x=>YN P E h T x
 | .makeFunc (.func f) ⟨xs⟩ ⟨ys⟩=>lx P E h f xs ys
 | .indexAddr T x i=>YO P E h T x i
 | .index T x i=>mc P E h T x i
 | .slice T x lo hi none=>md P E h T x lo hi
 | .slice T x lo (some y) (some z)=>me P E h T x lo y z
 | .build t ⟨parts⟩=>mf P E h t parts
 | .call ⟨.builtin .len,⟨[x]⟩,⟨[T]⟩⟩=>NJ P E h x T
 | .call ⟨.builtin .cap,⟨[x]⟩,⟨[T]⟩⟩=>mg P E h x T
 | .call ⟨.builtin .min,⟨[x,y]⟩,_⟩=>mh P E h x y
 | .call ⟨.builtin .max,⟨[x,y]⟩,_⟩=>mi P E h x y
 | .lookup T x i c=>ph P E h T x i c
 | _=>none
def Yd (P:Program) (op:Op) (nx:Nat) (ρ:Pl) (E:Tr CV) (ob:Nat→Obj) (a:Act) (c:CV):Prop:=
 ∃ v,Kn nx ρ c v∧∀ (w:World),(∀ t,TG E op=some t→w.heap[(ρ t).1]?=some (ob t))→∀ (dst:Option Tmp) (ty:TypeId) (pos:String) (after:Array Edge) (g:Option (Nat×Bool)),(execOp a.eval ⟨dst,op,ty,pos,after,g⟩).run P w=.ok (.value v) w
section
variable {P:Program} {op:Op} {nx n:Nat} {ρ:Pl} {E:Tr CV} {h:Tr CB} {ob:Nat→Obj} {a:Act} {c:CV}
theorem Yd.pure {v:Value} (hk:Kn nx ρ c v) (hq:∀ ty,Qy P op ty (eA a) [] (fun _=>none) v):Yd P op nx ρ E ob a c:=
 ⟨v,hk,fun w _ dst ty pos after g=>hq ty a w dst pos after g (lookN a w)⟩
abbrev eX:=@Yd.pure
theorem Yd.read {v:Value} {t:Nat} (ht:TG E op=some t) (hk:Kn nx ρ c v) (hq:∀ ty,Qy P op ty (eA a) [(0,some (ρ t).1,ob t)] (fun _=>none) v):Yd P op nx ρ E ob a c:=
 ⟨v,hk,fun w hw dst ty pos after g=>hq ty a w dst pos after g (lh a (hw t ht))⟩
theorem Aa {k:IntKind} {m:Int}:Kn nx ρ (.int k m) (.int k m):=⟨I8,U⟩
theorem Nv {b:Bool}:Kn nx ρ (.bool b) (.bool b):=⟨I8,U⟩
theorem YP {t o m sz:Nat} {c:Option Nat} {l hi:Int} {r:CV} {v:Value} (hv:Kn nx ρ (.sl t o m sz c) v) (hr:ep t o m sz c l hi=some r) :
 0≤l∧l≤hi∧∃ c',v=.slice (some ⟨(ρ t).1,o,none⟩) m c'∧hi.toNat≤c'∧Kn nx ρ r (.slice (if c'=l.toNat then some ⟨(ρ t).1,o,none⟩ else (some (⟨(ρ t).1,o,none⟩:Addr)).map (·.add (l.toNat*sz))) (hi.toNat - l.toNat) (c' - l.toNat)):=by
 unfold ep at hr;cases hb:yK 0 l && yK l hi with
 | false=>rw [hb] at hr;cases hr
 | true =>
   rw [hb] at hr;simp only [iA] at hr;simp only [aB,wI,aY] at hb;obtain ⟨h1,h2⟩:=hb;refine ⟨h1,h2,?_⟩;have hlh:l.toNat≤hi.toNat:=uJ;cases c with
   | some c =>
     obtain ⟨e1,e2,e3,e4⟩:=lI.1 hv.2;simp only at hr;cases hb2:yK hi c with
     | false=>rw [hb2] at hr;cases hr
     | true =>
       rw [hb2] at hr;simp only [iA] at hr;simp only [wI,aY] at hb2;have hhc:hi.toNat≤c:=uJ;refine ⟨c,e1,hhc,?_⟩;cases hb3:Nat.beq c l.toNat with
       | true =>
         rw [hb3] at hr;cases hr;have:=aD hb3;rw [aM this];refine ⟨hv.1,lI.2 ⟨?_,by omega,?_,by simp [maxLen]⟩⟩
         · rw [show c - l.toNat=0 by omega];rfl
         · show hi.toNat - l.toNat≤0;omega
       | false =>
         rw [hb3] at hr;cases hr;have hne:c≠l.toNat:=fun e=>by rw [e] at hb3;simp at hb3
         rw [aE hne];refine ⟨hv.1,lI.2 ⟨?_,?_,?_,?_⟩⟩
         · show Value.slice (some (Addr.add ⟨(ρ t).1,o,none⟩ (l.toNat*sz))) _ _=_;rw [add_lit];rfl
         · show o+l.toNat*sz+(c - l.toNat)*sz≤_;have:l.toNat*sz+(c - l.toNat)*sz=c*sz:=by rw [←eB];congr 1;omega
           omega
         · show hi.toNat - l.toNat≤c - l.toNat;omega
         · show c - l.toNat≤_;omega
   | none =>
     obtain ⟨c,e1,e2,e3,e4⟩:=oR.1 hv.2;simp only at hr;cases hb2:yK hi m with
     | false=>rw [hb2] at hr;cases hr
     | true =>
       rw [hb2] at hr;simp only [iA] at hr;simp only [wI,aY] at hb2;refine ⟨c,e1,by omega,?_⟩;cases hb3:Nat.beq l.toNat 0 with
       | true =>
         rw [hb3] at hr;cases hr;have h0:=aD hb3;rw [h0];refine ⟨hv.1,oR.2 ⟨c,?_,e2,by omega,e4⟩⟩;show Value.slice (if c=0 then _ else some (Addr.add ⟨(ρ t).1,o,none⟩ (0*sz))) _ _=_;rw [jN,add_lit];simp
       | false =>
         rw [hb3] at hr;simp only [nT] at hr;cases hb4:yK m l with
         | true =>
           rw [hb4] at hr;cases hr;simp only [wI,aY] at hb4;exact ⟨I8,_,_,by rw [show hi.toNat - l.toNat=0 by omega]⟩
         | false =>
           rw [hb4] at hr;cases hr;simp only [wI,eZ] at hb4;rw [aE (by omega)];refine ⟨hv.1,oR.2 ⟨c - l.toNat,?_,?_,?_,?_⟩⟩
           · show Value.slice (some (Addr.add ⟨(ρ t).1,o,none⟩ (l.toNat*sz))) _ _=_;rw [add_lit];rfl
           · show o+l.toNat*sz+(c - l.toNat)*sz=_;have:l.toNat*sz+(c - l.toNat)*sz=c*sz:=by rw [←eB];congr 1;omega
             omega
           · show hi.toNat - l.toNat≤_;omega
           omega
theorem Rj (hs:B4 ρ E nx n a) {lo:Option Operand} {l:Int} (h:en E lo=some l) (h0:0≤l):dy (eA a) 0 lo l.toNat:=by
 cases lo with
 | none=>cases h;rfl
 | some y =>
   unfold en at h;simp only at h;split at h
   · rename_i k m hy;cases h;obtain ⟨v,e1,k1⟩:=uQ hs hy;rw [iJ.1 k1.2] at e1;exact ⟨k,by rw [dZ h0];exact e1⟩
   cases h
theorem Rk (hs:B4 ρ E nx n a) {N:Nat} {lo:Option Operand} {l:Int} (h:hiC E N lo=some l) (h0:0≤l):dy (eA a) N lo l.toNat:=by
 cases lo with
 | none=>cases h;rfl
 | some y =>
   unfold hiC at h;simp only at h;split at h
   · rename_i k m hy;cases h;obtain ⟨v,e1,k1⟩:=uQ hs hy;rw [iJ.1 k1.2] at e1;exact ⟨k,by rw [dZ h0];exact e1⟩
   cases h
end
section
variable {P:Program} {op:Op} {nx n:Nat} {ρ:Pl} {E:Tr CV} {h:Tr CB} {ob:Nat→Obj} {a:Act} {c:CV}
theorem Rl {l:CV} {vs:List Value} (h:KL nx ρ l vs):Kn nx ρ (.agg l) (.agg vs.toArray):=⟨h.1,uI.2 ⟨vs,h.2,U⟩⟩
theorem Hx {l:CV} {v:Value} (h:Kn nx ρ (.agg l) v):∃ vs,KL nx ρ l vs∧v=.agg vs.toArray:=by
 obtain ⟨vs,h1,h2⟩:=uI.1 h.2;exact ⟨vs,⟨h.1,h1⟩,h2⟩
theorem GH {l:CV} {v:Value} (h:Kn nx ρ (.tup l) v):∃ vs,KL nx ρ l vs∧v=.tuple vs.toArray:=by
 obtain ⟨vs,h1,h2⟩:=rQ.1 h.2;exact ⟨vs,⟨h.1,h1⟩,h2⟩
theorem Ly {f:Nat} {x y:CV} {v:Value} (h:Kn nx ρ (.fn f x y) v):∃ xs ys,KL nx ρ x xs∧KL nx ρ y ys∧v=.func (.func f) xs.toArray ys.toArray:=by
 obtain ⟨xs,ys,h1,h2,h3⟩:=DV.fn.1 h.2;exact ⟨xs,ys,⟨h.1.1,h1⟩,⟨h.1.2,h2⟩,h3⟩
theorem Fp {t o m sz:Nat} {cc:Option Nat} {v:Value} (h:Kn nx ρ (.sl t o m sz cc) v):∃ c',v=.slice (some ⟨(ρ t).1,o,none⟩) m c':=by
 cases cc with
 | some c=>exact ⟨c,(lI.1 h.2).1⟩
 | none=>obtain ⟨c,h1,_⟩:=oR.1 h.2;exact ⟨c,h1⟩
theorem Gh {m:Int} {N:Nat} (hb:(yK 0 m && not (yK N m))=true):0≤m∧m<N:=by
 simp only [aB,eJ,wI,aY,eZ] at hb;omega
theorem Kd {s:CV} {v:Value} (h:Kn nx ρ (.str s) v):∃ bs:List UInt8,v=.string ⟨bs.toArray⟩∧KL nx ρ s (bs.map fun b=>Value.int .u8 b.toNat):=by
 obtain ⟨vs,bs,h1,h2,h3⟩:=h.2;subst h2;exact ⟨bs,h3,h.1,h1⟩
theorem JF (hs:B4 ρ E nx n a) (hm:∀ t b,TG E op=some t→h.get t=some b→DB nx ρ (ρ t).2 b (ob t)) (hq:qv P E h op=some c):Yd P op nx ρ E ob a c:=by
 unfold qv at hq;unfold oz qv3 qv4 pd pe qv7 pf pg lu YN lx YO mc md me mf NJ mg mh mi at hq;split at hq
 · -- move
   obtain ⟨v,e1,k1⟩:=uQ hs hq;exact eX k1 fun ty=>cT e1
 · obtain ⟨v,e1,k1⟩:=uQ hs hq;exact eX k1 fun ty=>cG e1
 · -- pick
   split at hq
   · rename_i b hb;obtain ⟨v,e1,k1⟩:=uQ hs hb;obtain ⟨u,e2,k2⟩:=uQ hs hq;rw [sV.1 k1.2] at e1;exact eX k2 fun ty=>Qy.pick e1 e2
   cases hq
 · -- not
   split at hq
   · rename_i b hb;cases hq;obtain ⟨v,e1,k1⟩:=uQ hs hb;rw [sV.1 k1.2] at e1;exact eX Nv fun ty=>Qy.not e1
   cases hq
 · -- neg
   split at hq
   · rename_i k m hb;cases hq;obtain ⟨v,e1,k1⟩:=uQ hs hb;rw [iJ.1 k1.2] at e1;refine eX Aa fun ty=>?_;rw [Rg];exact nN e1
   cases hq
 · -- binOp
   split at hq
   · rename_i k m hx;split at hq
     · rename_i k' n' hy;obtain ⟨v,e1,k1⟩:=uQ hs hx;obtain ⟨u,e2,k2⟩:=uQ hs hy;rw [iJ.1 k1.2] at e1;rw [iJ.1 k2.2] at e2;split at hq
       · rename_i c' hc;cases hq;obtain ⟨v',hk,hq⟩:=lm (P:=P) (H:=[]) (G:=fun _=>none) (nx:=nx) (ρ:=ρ) e1 e2 hc;exact eX hk hq
       rcases uN hq with ⟨hk,hr1⟩ | ⟨_,hr1⟩
       · have:=Ky hk;subst this;obtain ⟨v',hk,hr1⟩:=ll (P:=P) (H:=[]) (G:=fun _=>none) (nx:=nx) (ρ:=ρ) e1 e2 hr1;exact eX hk hr1
       cases hr1
     cases hq
   · rename_i ca hne hx;split at hq
     · rename_i cb hy;split at hq
       · rename_i r hr;obtain ⟨v,e1,k1⟩:=uQ hs hx;obtain ⟨u,e2,k2⟩:=uQ hs hy;have he:=fun t'=>eh (t':=t') (H:=[]) (G:=fun _=>none) hr k1 k2 e1 e2;split at hq
         · cases hq;exact eX Nv (he _).1
         · cases hq;exact eX Nv (he _).2
         cases hq
       cases hq
     cases hq
   cases hq
 · -- convert
   split at hq
   · rename_i k' ht;split at hq
     · rename_i d hd;split at hq
       · rename_i k m hx;cases hq;obtain ⟨v,e1,k1⟩:=uQ hs hx;rw [iJ.1 k1.2] at e1;refine eX Aa fun ty=>?_;rw [Rg];exact jM (by rw [hd];rfl) ht e1
       cases hq
     cases hq
   cases hq
 · -- extract
   split at hq
   · rename_i l hx;obtain ⟨v,e1,k1⟩:=uQ hs hx;obtain ⟨vs,k2,rfl⟩:=GH k1;obtain ⟨u,e2,k3⟩:=Gf k2 hq;exact eX k3 fun ty=>lL e1 e2
   cases hq
 · -- nilCheck
   split at hq
   · rename_i t o hx;cases hq;obtain ⟨v,e1,k1⟩:=uQ hs hx;have e2:=nX.1 k1.2;subst e2;exact eX k1 fun ty=>sC e1
   · rename_i t hx;cases hq;obtain ⟨v,e1,k1⟩:=uQ hs hx;have e2:=DV.mp.1 k1.2;subst e2;exact eX k1 fun ty=>Wx e1
   · rename_i f x y hx;cases hq;obtain ⟨v,e1,k1⟩:=uQ hs hx;obtain ⟨xs,ys,_,_,rfl⟩:=Ly k1;exact eX k1 fun ty=>Wy e1
   · rename_i t hx;cases hq;obtain ⟨v,e1,k1⟩:=uQ hs hx;have e2:v=.func (.yield (ρ t).1) #[] #[]:=k1.2;subst e2;exact eX k1 fun ty=>Wz e1
   cases hq
 · -- fieldAddr
   split at hq
   · rename_i t o hx;split at hq
     · rename_i k hk;cases hq;obtain ⟨v,e1,k1⟩:=uQ hs hx;have e2:=nX.1 k1.2;subst e2;exact eX (c:=.ptr t (Nat.add o k)) ⟨k1.1,U⟩ fun ty=>iV (dx hk) e1
     cases hq
   cases hq
 · -- field
   split at hq
   · rename_i l hx;obtain ⟨v,e1,k1⟩:=uQ hs hx;obtain ⟨vs,k2,rfl⟩:=Hx k1;split at hq
     · rename_i fs hu;split at hq
       · rename_i fd hf;rw [zE] at hf;rcases uN hq with ⟨h1,hr1⟩ | ⟨_,hr1⟩
         · obtain ⟨u,e2,k3⟩:=Gf k2 hr1;exact eX k3 fun ty=>NF hu (by simpa using hf) h1 e1 e2
         split at hr1
         · rename_i k hk;cases hr1;exact eX (Rl (Jx k (Jw fd.offset k2))) fun ty=>NG hu (by simpa using hf) (SZ hk) e1
         cases hr1
       cases hq
     cases hq
   cases hq
 · -- load
   rename_i T x;split at hq
   · rename_i t o hx;split at hq
     · rename_i l bt op' st hb;obtain ⟨v,e1,k1⟩:=uQ hs hx;have e2:=nX.1 k1.2;subst e2;have hrd:TG E (.load T x)=some t:=by show (match wA E x with | some (.ptr t _)=>some t | _=>none)=some t;rw [hx]
       obtain ⟨vs,junk,kl,eo,_,_⟩:=hm t _ hrd hb;rcases uN hq with ⟨h1,hr1⟩ | ⟨_,hr1⟩
       · obtain ⟨u,e2,k3⟩:=JC kl hr1;refine Yd.read hrd k3 fun ty=>oH 0 h1 e1 (by rw [eo];rfl) ?_;rw [bC (aR.1 e2).1];exact e2
       split at hr1
       · rename_i k hk;rcases uN hr1 with ⟨h2,hr2⟩ | ⟨_,hr2⟩
         · cases hr2;have kk:=zZ kl (aD (by first | exact hb2 | exact h2 | exact hb | assumption));have hlen:=vS kk;rw [aD h2] at hlen;refine Yd.read hrd (Rl kk) fun ty=>iF 0 (SZ hk) e1 (by rw [eo];rfl) ?_ hlen.symm;have h3:o+k≤vs.length∨k=0:=by
            rw [bI,cE] at hlen;omega
           rcases h3 with h3 | h3
           · rw [fB uJ,fA GZ]
           subst h3;simp
         cases hr2
       cases hr1
     cases hq
   cases hq
 · -- makeFunc
   split at hq
   · rename_i x hx;split at hq
     · rename_i y hy;cases hq;obtain ⟨us,e1,k1⟩:=Nq hs hx;obtain ⟨vs,e2,k2⟩:=Nq hs hy;exact eX ⟨⟨k1.1,k2.1⟩,DV.fn.2 ⟨us,vs,k1.2,k2.2,U⟩⟩ fun ty=>jS e1 e2
     cases hq
   cases hq
 · -- indexAddr
   split at hq
   · rename_i k m hi;obtain ⟨vi,ei,ki⟩:=uQ hs hi;rw [iJ.1 ki.2] at ei;split at hq
     · rename_i t o N sz cc hx;split at hq
       · rename_i E' sz' hT;rcases uN hq with ⟨h1,hr1⟩ | ⟨_,hr1⟩
         · cases hr1;have h1':Nat.beq sz sz'=true∧(yK 0 m && not (yK N m))=true:=by simpa only [aB] using h1
           have:=aD h1'.1;subst this;obtain ⟨v,e1,k1⟩:=uQ hs hx;obtain ⟨c',rfl⟩:=Fp k1;exact eX (c:=.ptr t (Nat.add o (Nat.mul m.toNat sz))) ⟨k1.1,U⟩ fun ty=>dV (xX hT) e1 ei (Gh h1'.2)
         cases hr1
       cases hq
     · rename_i t o hx;split at hq
       · rename_i N E' sz hT;rcases uN hq with ⟨h1,hr1⟩ | ⟨_,hr1⟩
         · cases hr1;obtain ⟨v,e1,k1⟩:=uQ hs hx;have e2:=nX.1 k1.2;subst e2;exact eX (c:=.ptr t (Nat.add o (Nat.mul m.toNat sz))) ⟨k1.1,U⟩ fun ty=>Tl (Lx hT).1 (Lx hT).2 e1 ei (Gh h1)
         cases hr1
       cases hq
     cases hq
   cases hq
 · -- index
   split at hq
   · rename_i k m hi;obtain ⟨vi,ei,ki⟩:=uQ hs hi;rw [iJ.1 ki.2] at ei;split at hq
     · rename_i l hx;split at hq
       · rename_i N E' sz hT;rcases uN hq with ⟨h1,hr1⟩ | ⟨_,hr1⟩
         · have h1':Nat.beq sz 1=true∧xB P E'=true∧(yK 0 m && not (yK N m))=true:=by simpa only [aB] using h1
           have:=aD h1'.1;subst this;obtain ⟨v,e1,k1⟩:=uQ hs hx;obtain ⟨vs,k2,rfl⟩:=Hx k1;obtain ⟨u,e2,k3⟩:=Gf k2 hr1;exact eX k3 fun ty=>Qy.indexV (Lx hT).1 h1'.2.1 (Lx hT).2 e1 ei (Gh h1'.2.2) e2
         rcases uN hr1 with ⟨h2,hr2⟩ | ⟨_,hr2⟩
         · have h2':xZ P E' sz=true∧Nat.ble 1 sz=true∧(yK 0 m && not (yK N m))=true:=by simpa only [aB] using h2
           cases hr2;obtain ⟨v,e1,k1⟩:=uQ hs hx;obtain ⟨vs,k2,rfl⟩:=Hx k1;exact eX (Rl (Jx sz (Jw (Nat.mul m.toNat sz) k2))) fun ty=>Qy.indexVA (Lx hT).1 h2'.1 e1 ei (Gh h2'.2.2)
         cases hr2
       cases hq
     cases hq
   cases hq
 · -- slice
   split at hq
   · rename_i t o N sz cc hx;split at hq
     · rename_i E' sz' hT;rcases uN hq with ⟨h1,hr1⟩ | ⟨_,hr1⟩
       · have:=aD h1;subst this;split at hr1
         · rename_i l hl;split at hr1
           · rename_i hi hh;obtain ⟨v,e1,k1⟩:=uQ hs hx;obtain ⟨h2,h3,c',rfl,h4,k2⟩:=YP k1 hr1;exact eX k2 fun ty=>Mx (xX hT) e1 (Rj hs hl h2) (Rk hs hh uJ) uJ h4
           cases hr1
         cases hr1
       cases hr1
     cases hq
   · rename_i hx;split at hq
     · rename_i x' hT;obtain ⟨E',sz⟩:=x';split at hq
       · rename_i l hl;split at hq
         · rename_i hi hh;rcases uN hq with ⟨h1,hr1⟩ | ⟨_,hr1⟩
           · cases hr1;simp only [aB,yR,aY] at h1;obtain ⟨rfl,rfl⟩:=h1;obtain ⟨v,e1,k1⟩:=uQ hs hx;have e2:=oS.1 k1.2;subst e2;exact eX k1 fun ty=>Mx (xX hT) e1 (Rj hs hl uJ) (Rk hs hh uJ) (aG _) (aG _)
           cases hr1
         cases hq
       cases hq
     cases hq
   cases hq
 · -- slice,its room too
   split at hq
   · rename_i t o N sz cc hx;split at hq
     · rename_i E' sz' hT;rcases uN hq with ⟨h1,hr1⟩ | ⟨_,hr1⟩
       · have:=aD h1;subst this;split at hr1
         · rename_i l hl;split at hr1
           · rename_i hi hh;split at hr1
             · rename_i kz m hz;rcases uN hr1 with ⟨h2,hr2⟩ | ⟨_,hr2⟩
               · obtain ⟨v,e1,k1⟩:=uQ hs hx;obtain ⟨vz,ez,kkz⟩:=uQ hs hz;rw [iJ.1 kkz.2] at ez;have h2':0≤l∧l≤hi∧hi≤m∧ZT m N cc=true:=by
                  simpa only [aB,wI,aY] using h2
                 obtain ⟨q1,q2,q3,q4⟩:=h2';have hC:∃ C,v=.slice (some ⟨(ρ t).1,o,none⟩) N C∧m.toNat≤C∧o+C*sz≤(ρ t).2∧C≤maxLen:=by
                  cases cc with
                  | some c =>
                    obtain ⟨g1,g2,g3,g4⟩:=lI.1 k1.2;have q4':m≤(c:Int):=by
                     have q5:yK m c=true:=q4;simpa only [wI,aY] using q5
                    exact ⟨c,g1,by omega,g2,g4⟩
                  | none =>
                    obtain ⟨c,g1,g2,g3,g4⟩:=oR.1 k1.2;have q4':m≤(N:Int):=by
                     have q5:yK m N=true:=q4;simpa only [wI,aY] using q5
                    exact ⟨c,g1,by omega,by omega,g4⟩
                 obtain ⟨C,rfl,hmC,hsz,hCm⟩:=hC;have hLh:=Rk hs hh (show 0≤hi by omega);have hQ:=fun ty=>Vz (P:=P) (H:=[]) (G:=fun _=>none) (ty:=ty) (xX hT) e1 (Rj hs hl q1) (h:=hi.toNat) (m:=m.toNat) (kz:=kz) ⟨_,U,hLh⟩ (by rw [dZ uJ];exact ez) uJ uJ hmC;rcases uN hr2 with ⟨h3,hr3⟩ | ⟨h3,hr3⟩
                 · cases hr3;have h3':=aD h3;refine eX ⟨k1.1,lI.2 ⟨U,by omega,?_,by simp [maxLen]⟩⟩ fun ty=>?_
                   · show hi.toNat - l.toNat≤0;omega
                   have:=hQ ty;rw [aM h3',show m.toNat - l.toNat=0 by omega] at this;exact this
                 cases hr3;have h3':m.toNat≠l.toNat:=fun e=>by rw [e] at h3;simp at h3
                 refine eX ⟨k1.1,lI.2 ⟨U,?_,?_,?_⟩⟩ fun ty=>?_
                 · show o+l.toNat*sz+(m.toNat - l.toNat)*sz≤_;have e1:l.toNat*sz+(m.toNat - l.toNat)*sz=m.toNat*sz:=by rw [←eB];congr 1;omega
                   have e2:m.toNat*sz≤C*sz:=dQ _ hmC;omega
                 · show hi.toNat - l.toNat≤m.toNat - l.toNat;omega
                 · show m.toNat - l.toNat≤_;omega
                 have:=hQ ty;rw [aE h3'] at this;show Qy P _ ty _ _ _ (.slice (some ⟨(ρ t).1,o+l.toNat*sz,none⟩) (hi.toNat - l.toNat) (m.toNat - l.toNat));rw [←add_lit];exact this
               cases hr2
             cases hr1
           cases hr1
         cases hr1
       cases hr1
     cases hq
   · rename_i hx;split at hq
     · rename_i x' hT;obtain ⟨E',sz⟩:=x';split at hq
       · rename_i l hl;split at hq
         · rename_i hi hh;split at hq
           · rename_i kz m hz;rcases uN hq with ⟨h1,hr1⟩ | ⟨_,hr1⟩
             · cases hr1;simp only [aB,yR,aY] at h1;obtain ⟨rfl,rfl,rfl⟩:=h1;obtain ⟨v,e1,k1⟩:=uQ hs hx;have e2:=oS.1 k1.2;subst e2;obtain ⟨vz,ez,kkz⟩:=uQ hs hz;rw [iJ.1 kkz.2] at ez;refine eX k1 fun ty=>?_;have:=Vz (P:=P) (H:=[]) (G:=fun _=>none) (ty:=ty) (xX hT) e1 (Rj hs hl uJ) (h:=0) (m:=0) (kz:=kz) ⟨_,U,Rk hs hh uJ⟩ ez (aG _) (aG _) (aG _);exact this
             cases hr1
           cases hq
         cases hq
       cases hq
     cases hq
   cases hq
 · -- build
   rename_i t parts;split at hq
   · rename_i fs hu;split at hq
     · rename_i pl hpl;split at hq
       · rename_i z hz;split at hq
         · rename_i l hf;cases hq;obtain ⟨i,zv,hi,hzv,kz⟩:=Rh hz nx ρ;obtain ⟨vs,e1,o1,k1⟩:=Kc hs kz hf;rw [vS kz] at o1;refine eX (Rl k1) fun ty=>fY (pl:=pl) (zs:=zv.cells.toList) ⟨zv,fs.toArray,hu,fun w=>?_,by simp,ee hpl⟩ e1 o1 rfl;simp [zeroValue,typeInfo,hi,hzv]
         cases hq
       cases hq
     cases hq
   · rename_i N E' hu;split at hq
     · rename_i sz hsz;split at hq
       · rename_i z hz;split at hq
         · rename_i l hf;cases hq;obtain ⟨i,zv,hi,hzv,kz⟩:=Rh hz nx ρ;obtain ⟨vs,e1,o1,k1⟩:=Kc hs kz hf;rw [vS kz] at o1;refine eX (Rl k1) fun ty=>sU (n:=N) (sz:=sz) (zs:=zv.cells.toList) ⟨zv,E',hu,fun w=>?_,by simp,Hv hsz⟩ e1 o1 rfl;simp [zeroValue,typeInfo,hi,hzv]
         cases hq
       cases hq
     cases hq
   cases hq
 · -- len
   split at hq
   · rename_i t o N sz cc hx;split at hq
     · rename_i x' hT;obtain ⟨E',sz'⟩:=x';cases hq;obtain ⟨v,e1,k1⟩:=uQ hs hx;obtain ⟨c',rfl⟩:=Fp k1;exact eX Aa fun ty=>pP (xX hT) e1
     cases hq
   · rename_i hx;split at hq
     · rename_i x' hT;obtain ⟨E',sz'⟩:=x';cases hq;obtain ⟨v,e1,k1⟩:=uQ hs hx;have e2:=oS.1 k1.2;subst e2;exact eX Aa fun ty=>pP (xX hT) e1
     cases hq
   · rename_i hx;split at hq
     · rename_i x' hT;obtain ⟨E',sz'⟩:=x';cases hq;obtain ⟨v,e1,k1⟩:=uQ hs hx;obtain ⟨a',c',rfl⟩:=k1.2;exact eX Aa fun ty=>pP (xX hT) e1
     cases hq
   · rename_i s hx;split at hq
     · rename_i hT;cases hq;obtain ⟨v,e1,k1⟩:=uQ hs hx;obtain ⟨bs,rfl,k2⟩:=Kd k1;have e3:=vS k2;rw [aW] at e3;refine eX (v:=.int .i64 ((ByteArray.mk bs.toArray).size:Int)) ?_ fun ty=>YH hT e1;rw [show (ByteArray.mk bs.toArray).size=bs.length from by show bs.toArray.size=_;simp,←e3];exact Aa
     cases hq
   cases hq
 · -- cap
   split at hq
   · rename_i t o N sz cc hx;split at hq
     · rename_i x' hT;obtain ⟨E',sz'⟩:=x';cases hq;obtain ⟨v,e1,k1⟩:=uQ hs hx;have e2:=(lI.1 k1.2).1;subst e2;exact eX Aa fun ty=>Qy.cap (xX hT) e1
     cases hq
   · rename_i hx;split at hq
     · rename_i x' hT;obtain ⟨E',sz'⟩:=x';cases hq;obtain ⟨v,e1,k1⟩:=uQ hs hx;have e2:=oS.1 k1.2;subst e2;exact eX Aa fun ty=>Qy.cap (xX hT) e1
     cases hq
   cases hq
 · -- min
   split at hq
   · rename_i k m hx;split at hq
     · rename_i k' m' hy;rcases uN hq with ⟨h1,hr1⟩ | ⟨_,hr1⟩
       · have:=Ky h1;subst this;cases hr1;obtain ⟨v,e1,k1⟩:=uQ hs hx;obtain ⟨u,e2,k2⟩:=uQ hs hy;rw [iJ.1 k1.2] at e1;rw [iJ.1 k2.2] at e2;have e3:(bif yK m m' then m else m')=if m'<m then m' else m:=by
          rw [wI];by_cases h2:m≤m'
          · simp [h2,Int.not_lt.2 h2]
          simp [h2,Int.not_le.1 h2]
         rw [e3];exact eX Aa fun ty=>Qy.min e1 e2
       cases hr1
     cases hq
   cases hq
 · -- max
   split at hq
   · rename_i k m hx;split at hq
     · rename_i k' m' hy;rcases uN hq with ⟨h1,hr1⟩ | ⟨_,hr1⟩
       · have:=Ky h1;subst this;cases hr1;obtain ⟨v,e1,k1⟩:=uQ hs hx;obtain ⟨u,e2,k2⟩:=uQ hs hy;rw [iJ.1 k1.2] at e1;rw [iJ.1 k2.2] at e2;have e3:(bif yK m' m then m else m')=if m<m' then m' else m:=by
          rw [wI];by_cases h2:m'≤m
          · simp [h2,Int.not_lt.2 h2]
          simp [h2,Int.not_le.1 h2]
         rw [e3];exact eX Aa fun ty=>tB e1 e2
       cases hr1
     cases hq
   cases hq
 · -- lookup
   rename_i T x i cc;unfold ph at hq;split at hq
   · rename_i t hx;obtain ⟨v1,e1,k1⟩:=uQ hs hx;have e1':=Ri k1;subst e1';have hrd:TG E (.lookup T x i cc)=some t:=by show (match wA E x with | some (.mp t)=>some t | _=>none)=some t;rw [hx]
     split at hq
     · rename_i k hi;obtain ⟨v2,e2,k2⟩:=uQ hs hi;split at hq
       · rename_i l st hb;have hob:ob t=vV l:=hm t _ hrd hb;split at hq
         · rename_i m hk;rcases uN hq with ⟨h1,hr⟩ | ⟨_,hr⟩
           · cases hr;obtain ⟨kt,hT⟩:=Yq h1;have e3:=Nt hk k2;subst e3;rw [Ns yR];refine ⟨_,TF,fun w hw dst ty pos after g=>?_⟩;have hbk:=hw t hrd;rw [hob] at hbk;simp only [execOp,(lookN a w).eval e1,(lookN a w).eval e2,bL,Hw hT hbk cc,aO,bR]
           cases hr
         cases hq
       · rename_i l st hb;have hob:ob t=vV l:=hm t _ hrd hb;split at hq
         · rename_i m hk;rcases uN hq with ⟨h1,hr⟩ | ⟨_,hr⟩
           · cases hr;obtain ⟨kt,hT⟩:=Yr h1;have e3:=Nu hk k2;subst e3;rw [Ns Yp];refine ⟨_,TF,fun w hw dst ty pos after g=>?_⟩;have hbk:=hw t hrd;rw [hob] at hbk;simp only [execOp,(lookN a w).eval e1,(lookN a w).eval e2,bL,Hw hT hbk cc,aO,bR]
           cases hr
         cases hq
       cases hq
     cases hq
   cases hq
 cases hq
end
def uW:Nat:=1000000000
theorem Rm:uW=1000000000:=rfl
structure H6 (X:Nat→Prop) (ρ:Pl) (h:Tr CB) (nx:Nat) (w:World) (ρ':Pl) (h':Tr CB) (w':World):Prop where
 old:∀ t b,h'.get t=some b→Yl b<nx→h.get t=some b∧w'.heap[(ρ t).1]?=w.heap[(ρ t).1]?
 fr:∀ p,p<w.heap.size→(∀ t b,h.get t=some b→(ρ t).1≠p)→¬X p→w'.heap[p]?=w.heap[p]?
 nw:∀ t b,h'.get t=some b→w.heap.size≤(ρ' t).1∨∃ t' b',h.get t'=some b'∧(ρ t').1=(ρ' t).1
 sz:w.heap.size≤w'.heap.size
abbrev Tp:=H6 (fun _=>False)
section
variable {ρ ρ':Pl} {Φ:A3→Prop} {w0:E5 Φ} {w w' w'':World} {h h' h'':Tr CB} {nx nx':Nat}
theorem H6.refl {X:Nat→Prop}:H6 X ρ h nx w ρ h w:=⟨fun t b hb _=>⟨hb,U⟩,fun _ _ _ _=>rfl,fun t b hb=>.inr ⟨t,b,hb,U⟩,aG _⟩
abbrev gW:=@H6.refl
theorem Mem.lt (hm:Mem ρ w0 h nx w) {t:Nat} {b:CB} (ht:h.get t=some b):(ρ t).1<w.heap.size:=by
 obtain ⟨_,_,_,o,h1,_⟩:=hm.own t b ht;exact (cK.1 h1).1
theorem Mem.klt (hm:Mem ρ w0 h nx w) {b:Nat} (hb:b∈w0.ks):b<w.heap.size:=(cK.1 (hm.kept b hb).2.1).1
theorem My {X:Nat→Prop} {ρ2:Pl} (hm:Mem ρ w0 h nx w) (k1:Tp ρ h nx w ρ' h' w') (k2:H6 X ρ' h' nx' w' ρ2 h'' w'') (hX:∀ p,X p→w.heap.size≤p) (hn:nx≤nx') (he:F8 nx ρ ρ'):Tp ρ h nx w ρ2 h'' w'':=by
 refine ⟨fun t b hb hs=>?_,fun p hp hu _=>?_,fun t b hb=>?_,aP k1.sz k2.sz⟩
 · obtain ⟨a1,a2⟩:=k2.old t b hb (bW hs hn);obtain ⟨b1,b2⟩:=k1.old t b a1 hs;have e:=he t (hm.own t b b1).1;rw [e] at a2;exact ⟨b1,a2.trans b2⟩
 · refine (k2.fr p (bW hp k1.sz) (fun t b hb e=>?_) (fun hx=>mC _ (bW hp (hX p hx)))).trans (k1.fr p hp hu id);rcases k1.nw t b hb with h1 | ⟨t',b',h1,h2⟩
   · omega
   exact hu t' b' h1 (h2.trans e)
 rcases k2.nw t b hb with h1 | ⟨t',b',h1,h2⟩
 · exact .inl (aP k1.sz h1)
 rw [←h2];exact k1.nw t' b' h1
theorem H6.trans {ρ2:Pl} (hm:Mem ρ w0 h nx w) (k1:Tp ρ h nx w ρ' h' w') (k2:Tp ρ' h' nx' w' ρ2 h'' w'') (hn:nx≤nx') (he:F8 nx ρ ρ'):Tp ρ h nx w ρ2 h'' w'':=My hm k1 k2 (fun _ h=>h.elim) hn he
theorem Mem.new (hm:Mem ρ w0 h nx w) (hf:nx<uW) {b:CB} {o:Obj} {s:Nat} (hst:Yl b=nx) (hu:D2 (fun _=>False) w w') (hs:w'.heap.size=w.heap.size+1) (ho:w'.heap[w.heap.size]?=some o) (hb:DB nx ρ s b o) :
 ∃ ρ',F8 nx ρ ρ'∧ρ' nx=(w.heap.size,s)∧Mem ρ' w0 (h.set (some b) uW nx) (nx+1) w'∧Tp ρ h nx w ρ' (h.set (some b) uW nx) w':=by
 have hext:F8 nx ρ (fun t=>if t=nx then (w.heap.size,s) else ρ t):=fun t ht=>by simp [tN ht]
 have get:=fun j=>fE (some b) uW h nx j hf;refine ⟨fun t=>if t=nx then (w.heap.size,s) else ρ t,hext,by simp,⟨hm.upd.trans hu,?_,?_,hm.imm,hm.nod,fun c hc=>?_⟩,?_⟩
 · intro t b' ht;rw [get] at ht;by_cases e:t=nx
   · subst e;rw [aM rfl] at ht;cases ht;simp only [fI];exact ⟨by omega,by omega,hm.upd.size,o,ho,hb.up (dL _) hext⟩
   rw [aE e] at ht;obtain ⟨h1,hs1,h2,o',h3,h4⟩:=hm.own t b' ht;simp only [e,fJ];refine ⟨by omega,by omega,h2,o',?_,h4.up (dL _) hext⟩;rw [hu.same _ (hm.lt ht) id];exact h3
 · intro t t' b1 b2 h1 h2 he;rw [get] at h1 h2;by_cases e:t=nx <;> by_cases e':t'=nx
   · rw [e,e']
   · rw [aE e'] at h2;have:=hm.lt h2;simp only [e,e',fI,fJ] at he;omega
   · rw [aE e] at h1;have:=hm.lt h1;simp only [e,e',fI,fJ] at he;omega
   rw [aE e] at h1;rw [aE e'] at h2;simp only [e,e',fJ] at he;exact hm.one t t' b1 b2 h1 h2 he
 · obtain ⟨k1,k2,k3⟩:=hm.kept c hc;have hl:=hm.klt hc;refine ⟨k1,(hu.same _ hl id).trans k2,fun t b' ht=>?_⟩;rw [get] at ht;by_cases e:t=nx
   · simp only [e,fI];omega
   rw [aE e] at ht;simp only [e,fJ];exact k3 t b' ht
 refine ⟨fun t b' hb' hst'=>?_,fun p hp _ _=>hu.same _ hp id,fun t b' hb'=>?_,hu.size⟩
 · rw [get] at hb';by_cases e:t=nx
   · rw [aM e] at hb';cases hb';omega
   rw [aE e] at hb';exact ⟨hb',hu.same _ (hm.lt hb') id⟩
 rw [get] at hb';by_cases e:t=nx
 · simp only [e,fI];exact .inl (aG _)
 rw [aE e] at hb';simp only [e,fJ];exact .inr ⟨t,b',hb',U⟩
theorem Mem.write (hm:Mem ρ w0 h nx w) (hf:nx≤uW) {t:Nat} {b b':CB} {o:Obj} (hst:Yl b'=nx) (ht:h.get t=some b) (hu:D2 (·=(ρ t).1) w w') (ho:w'.heap[(ρ t).1]?=some o) (hb:DB nx ρ (ρ t).2 b' o) :
 Mem ρ w0 (h.set (some b') uW t) (nx+1) w'∧Tp ρ h nx w ρ (h.set (some b') uW t) w':=by
 obtain ⟨h1,hs1,h2,_⟩:=hm.own t b ht;have get:=fun j=>fE (some b') uW h t j uJ;refine ⟨⟨⟨hu.os.trans hm.upd.os,hu.tape.trans hm.upd.tape,hu.output.trans hm.upd.output,aP hm.upd.size hu.size,fun k hk hx=>?_⟩,?_,?_,hm.imm,hm.nod,fun c hc=>?_⟩,?_⟩
 · exact (hu.same k (bW hk hm.upd.size) uJ).trans (hm.upd.same k hk hx)
 · intro t' c hc;rw [get] at hc;by_cases e:t'=t
   · subst e;rw [aM rfl] at hc;cases hc;exact ⟨by omega,by omega,h2,o,ho,hb.up (dL _) (dT _ _)⟩
   rw [aE e] at hc;obtain ⟨g1,gs,g2,o',g3,g4⟩:=hm.own t' c hc;refine ⟨by omega,by omega,g2,o',?_,g4.up (dL _) (dT _ _)⟩;rw [hu.same _ (hm.lt hc) (fun e2=>e (hm.one t' t c b hc ht e2))];exact g3
 · intro t1 t2 b1 b2 e1 e2 he;have f:∀ t' c,(h.set (some b') uW t).get t'=some c→∃ c',h.get t'=some c':=fun t' c hc=>by
    rw [get] at hc;by_cases e:t'=t
    · subst e;exact ⟨b,ht⟩
    rw [aE e] at hc;exact ⟨c,hc⟩
   obtain ⟨c1,g1⟩:=f t1 b1 e1;obtain ⟨c2,g2⟩:=f t2 b2 e2;exact hm.one t1 t2 c1 c2 g1 g2 he
 · obtain ⟨k1,k2,k3⟩:=hm.kept c hc;refine ⟨k1,(hu.same _ (hm.klt hc) (fun e=>k3 t b ht e.symm)).trans k2,fun t' b' ht'=>?_⟩;rw [get] at ht';by_cases e:t'=t
   · subst e;exact k3 _ _ ht
   rw [aE e] at ht';exact k3 _ _ ht'
 refine ⟨fun t' c hc hs'=>?_,fun p hp hup _=>hu.same _ hp (fun e=>hup t b ht e.symm),fun t' c hc=>?_,hu.size⟩
 · rw [get] at hc;by_cases e:t'=t
   · rw [aM e] at hc;cases hc;omega
   rw [aE e] at hc;exact ⟨hc,hu.same _ (hm.lt hc) (fun e2=>e (hm.one t' t c b hc ht e2))⟩
 rw [get] at hc;by_cases e:t'=t
 · exact .inr ⟨t,b,ht,by rw [e]⟩
 rw [aE e] at hc;exact .inr ⟨t',c,hc,U⟩
theorem Mem.kill (hm:Mem ρ w0 h nx w) (hf:nx≤uW) {t:Nat} (ht:t<nx):Mem ρ w0 (h.set none uW t) nx w∧Tp ρ h nx w ρ (h.set none uW t) w:=by
 have get:=fun j=>fE (none:Option CB) uW h t j uJ;have f:∀ t' c,(h.set none uW t).get t'=some c→h.get t'=some c:=fun t' c hc=>by
  rw [get] at hc;by_cases e:t'=t
  · rw [aM e] at hc;cases hc
  rw [aE e] at hc;exact hc
 exact ⟨⟨hm.upd,fun t' c hc=>hm.own t' c (f t' c hc),fun t1 t2 b1 b2 e1 e2 he=>hm.one t1 t2 b1 b2 (f _ _ e1) (f _ _ e2) he,hm.imm,hm.nod,fun c hc=>⟨(hm.kept c hc).1,(hm.kept c hc).2.1,fun t' b' ht'=>(hm.kept c hc).2.2 t' b' (f _ _ ht')⟩⟩,⟨fun t' c hc _=>⟨f _ _ hc,U⟩,fun _ _ _ _=>rfl,fun t' c hc=>.inr ⟨t',c,f _ _ hc,U⟩,aG _⟩⟩
theorem Mem.drop (hm:Mem ρ w0 h nx w) (hf:nx≤uW) {t:Nat} {b:CB} (ht:h.get t=some b) (hu:D2 (·=(ρ t).1) w w'):Mem ρ w0 (h.set none uW t) nx w'∧Tp ρ h nx w ρ (h.set none uW t) w':=by
 obtain ⟨h1,hs1,h2,_⟩:=hm.own t b ht;have get:=fun j=>fE (none:Option CB) uW h t j uJ;have f:∀ t' c,(h.set none uW t).get t'=some c→t'≠t∧h.get t'=some c:=fun t' c hc=>by
  rw [get] at hc;by_cases e:t'=t
  · rw [aM e] at hc;cases hc
  rw [aE e] at hc;exact ⟨e,hc⟩
 have ne:∀ t' c,(h.set none uW t).get t'=some c→(ρ t').1≠(ρ t).1:=fun t' c hc e=>(f t' c hc).1 (hm.one t' t c b (f t' c hc).2 ht e);refine ⟨⟨⟨hu.os.trans hm.upd.os,hu.tape.trans hm.upd.tape,hu.output.trans hm.upd.output,aP hm.upd.size hu.size,fun k hk hx=>?_⟩,fun t' c hc=>?_,fun t1 t2 b1 b2 e1 e2 he=>hm.one t1 t2 b1 b2 (f _ _ e1).2 (f _ _ e2).2 he,hm.imm,hm.nod,fun c hc=>?_⟩,?_⟩
 · exact (hu.same k (bW hk hm.upd.size) uJ).trans (hm.upd.same k hk hx)
 · obtain ⟨g1,gs,g2,o',g3,g4⟩:=hm.own t' c (f t' c hc).2;exact ⟨g1,gs,g2,o',(hu.same _ (hm.lt (f t' c hc).2) (ne t' c hc)).trans g3,g4⟩
 · obtain ⟨k1,k2,k3⟩:=hm.kept c hc;exact ⟨k1,(hu.same _ (hm.klt hc) (fun e=>k3 t b ht e.symm)).trans k2,fun t' b' ht'=>k3 t' b' (f _ _ ht').2⟩
 exact ⟨fun t' c hc _=>⟨(f t' c hc).2,hu.same _ (hm.lt (f t' c hc).2) (ne t' c hc)⟩,fun p hp hup _=>hu.same _ hp (fun e=>hup t b ht e.symm),fun t' c hc=>.inr ⟨t',c,(f _ _ hc).2,U⟩,hu.size⟩
theorem Mem.rename (hm:Mem ρ w0 h nx w) (hf:nx<uW) {t:Nat} {b b':CB} {o:Obj} (hst:Yl b'=nx) (ht:h.get t=some b) (hu:D2 (·=(ρ t).1) w w') (ho:w'.heap[(ρ t).1]?=some o) (hb:DB nx ρ (ρ t).2 b' o) :
 ∃ ρ',F8 nx ρ ρ'∧ρ' nx=ρ t∧Mem ρ' w0 ((h.set none uW t).set (some b') uW nx) (nx+1) w'∧Tp ρ h nx w ρ' ((h.set none uW t).set (some b') uW nx) w':=by
 have htn:=(hm.own t b ht).1;have h0:=(hm.own t b ht).2.2.1;have hext:F8 nx ρ (fun u=>if u=nx then ρ t else ρ u):=fun u hu=>by simp [tN hu]
 have g1:=fun j=>fE (none:Option CB) uW h t j uJ;have get:=fun j=>fE (some b') uW (h.set none uW t) nx j hf;have f:∀ u c,((h.set none uW t).set (some b') uW nx).get u=some c→(u=nx∧c=b')∨(u≠nx∧u≠t∧h.get u=some c):=fun u c hc=>by
  rw [get] at hc;by_cases e:u=nx
  · rw [aM e] at hc;cases hc;exact .inl ⟨e,U⟩
  rw [aE e,g1] at hc;by_cases e2:u=t
  · rw [aM e2] at hc;cases hc
  rw [aE e2] at hc;exact .inr ⟨e,e2,hc⟩
 refine ⟨_,hext,by simp,⟨⟨hu.os.trans hm.upd.os,hu.tape.trans hm.upd.tape,hu.output.trans hm.upd.output,aP hm.upd.size hu.size,fun k hk hx=>?_⟩,?_,?_,hm.imm,hm.nod,fun c hc=>?_⟩,?_⟩
 · exact (hu.same k (bW hk hm.upd.size) uJ).trans (hm.upd.same k hk hx)
 · intro u c hc;rcases f u c hc with ⟨rfl,rfl⟩ | ⟨e1,e2,h1⟩
   · simp only [fI];exact ⟨by omega,by omega,h0,o,ho,hb.up (dL _) hext⟩
   obtain ⟨k1,ks,k2,o',k3,k4⟩:=hm.own u c h1;simp only [e1,fJ];refine ⟨by omega,by omega,k2,o',?_,k4.up (dL _) hext⟩;rw [hu.same _ (hm.lt h1) (fun e3=>e2 (hm.one u t c b h1 ht e3))];exact k3
 · intro u u' c c' hc hc' he;rcases f u c hc with ⟨rfl,rfl⟩ | ⟨e1,e2,h1⟩ <;> rcases f u' c' hc' with ⟨rfl,rfl⟩ | ⟨e1',e2',h1'⟩
   · rfl
   · simp only [fI,e1',fJ] at he;exact absurd (hm.one t u' b c' ht h1' he) (fun e=>e2' e.symm)
   · simp only [fI,e1,fJ] at he;exact absurd (hm.one u t c b h1 ht he) e2
   simp only [e1,e1',fJ] at he;exact hm.one u u' c c' h1 h1' he
 · obtain ⟨k1,k2,k3⟩:=hm.kept c hc;refine ⟨k1,(hu.same _ (hm.klt hc) (fun e=>k3 t b ht e.symm)).trans k2,fun t' c' ht'=>?_⟩;rcases f t' c' ht' with ⟨rfl,rfl⟩ | ⟨e1,e2,h1⟩
   · simp only [fI];exact k3 _ _ ht
   simp only [e1,fJ];exact k3 _ _ h1
 refine ⟨fun u c hc hs=>?_,fun p hp hup _=>hu.same _ hp (fun e=>hup t b ht e.symm),fun u c hc=>?_,hu.size⟩
 · rcases f u c hc with ⟨rfl,rfl⟩ | ⟨e1,e2,h1⟩
   · omega
   exact ⟨h1,hu.same _ (hm.lt h1) (fun e3=>e2 (hm.one u t c b h1 ht e3))⟩
 rcases f u c hc with ⟨rfl,rfl⟩ | ⟨e1,e2,h1⟩
 · simp only [fI];exact .inr ⟨t,b,ht,U⟩
 simp only [e1,fJ];exact .inr ⟨u,c,h1,U⟩
end
section
variable {Φ:A3→Prop} {ρ ρ':Pl} {w0:E5 Φ} {w w':World} {E E':Tr CV} {h h':Tr CB} {nx nx' n:Nat} {a a':Act}
theorem Mem.base {ks:List Nat} {W:World} {G:A3} {ok:Φ G} {s s':Nat} (hm:Mem ρ ⟨W,ks,G,ok,s⟩ h nx w):Mem ρ ⟨W,ks,G,ok,s'⟩ h nx w:=⟨hm.upd,hm.own,hm.one,hm.imm,hm.nod,hm.kept⟩
theorem Mem.less {ks os:List Nat} {W:World} {G:A3} {ok:Φ G} {s:Nat} (hm:Mem ρ ⟨W,os++ks,G,ok,s⟩ h nx w):Mem ρ ⟨W,ks,G,ok,s⟩ h nx w:=
 ⟨hm.upd,hm.own,hm.one,hm.imm,(qS.1 hm.nod).2.1,fun b hb=>hm.kept b (kS _ hb)⟩
theorem F1.slots (hR:F1 ρ w0 n E h nx a w):B4 ρ E nx n a:=by obtain ⟨os,hR⟩:=hR;exact hR.slots
theorem F1.mem (hR:F1 ρ w0 n E h nx a w):Mem ρ w0 h nx w:=by obtain ⟨os,hR⟩:=hR;exact hR.mem.less
theorem F1.put (hR:F1 ρ w0 n E h nx a w) {d:Option Nat} {v:Value} (hs:B4 ρ E' nx n (a.put d v)):F1 ρ w0 n E' h nx (a.put d v) w:=by
 obtain ⟨os,hR⟩:=hR;exact ⟨os,hs,(show (a.put d v).defers=a.defers by cases d <;> rfl).trans hR.defers,hR.mem,hR.mks,hR.ss⟩
theorem Mem.grow (hm:Mem ρ w0 h nx w) (hu:D2 (fun _=>False) w w'):Mem ρ w0 h nx w'∧Tp ρ h nx w ρ h w':=by
 refine ⟨⟨hm.upd.trans hu,fun t b ht=>?_,hm.one,hm.imm,hm.nod,fun b hb=>?_⟩,⟨fun t b hb _=>⟨hb,hu.same _ (hm.lt hb) id⟩,fun p hp _ _=>hu.same _ hp id,fun t b hb=>.inr ⟨t,b,hb,U⟩,hu.size⟩⟩
 · obtain ⟨h1,h2,h3,o,h4,h5⟩:=hm.own t b ht;exact ⟨h1,h2,h3,o,(hu.same _ (hm.lt ht) id).trans h4,h5⟩
 obtain ⟨k1,k2,k3⟩:=hm.kept b hb;exact ⟨k1,(hu.same _ (hm.klt hb) id).trans k2,k3⟩
theorem Mem.keep {ks:List Nat} {W:World} {G:A3} {ok:Φ G} {s:Nat} (hm:Mem ρ ⟨W,ks,G,ok,s⟩ h nx w):Mem ρ ⟨W,w.heap.size :: ks,G,ok,s⟩ h nx (w.alloc (.deferred (some [])))∧Tp ρ h nx w ρ h (w.alloc (.deferred (some []))):=by
 obtain ⟨g1,g2⟩:=hm.grow (w':=w.alloc (.deferred (some []))) ((lE _ w).alloc _);have hn:w.heap.size ∉ ks:=fun hb=>mC _ (hm.klt hb);refine ⟨⟨g1.upd,g1.own,g1.one,g1.imm,lZ.2 ⟨hn,hm.nod⟩,fun b hb=>?_⟩,g2⟩;rcases dK.1 hb with rfl | hb
 · refine ⟨hm.upd.size,vQ w _,fun t c ht=>?_⟩;have:=hm.lt ht;omega
 exact g1.kept b hb
theorem Mem.shut {b:Nat} {ks:List Nat} {W:World} {G:A3} {ok:Φ G} {s:Nat} (hm:Mem ρ ⟨W,b :: ks,G,ok,s⟩ h nx w):Mem ρ ⟨W,ks,G,ok,s⟩ h nx (w.putObj b (.deferred none))∧H6 (·=b) ρ h nx w ρ h (w.putObj b (.deferred none)):=by
 obtain ⟨k1,k2,k3⟩:=hm.kept b (bM ..);have hu:=xD w b (.deferred none);have hnd:=lZ.1 hm.nod;refine ⟨⟨⟨hu.os.trans hm.upd.os,hu.tape.trans hm.upd.tape,hu.output.trans hm.upd.output,aP hm.upd.size hu.size,fun k hk hx=>?_⟩,fun t c ht=>?_,hm.one,hm.imm,hnd.2,fun c hc=>?_⟩,⟨fun t c hc _=>⟨hc,hu.same _ (hm.lt hc) (k3 t c hc)⟩,fun p hp _ hx=>hu.same _ hp hx,fun t c hc=>.inr ⟨t,c,hc,U⟩,hu.size⟩⟩
 · exact (hu.same k (bW hk hm.upd.size) (fun e=>by subst e;exact absurd k1 (by show ¬W.heap.size≤k;exact Nat.not_le.2 hk))).trans (hm.upd.same k hk hx)
 · obtain ⟨h1,h2,h3,o,h4,h5⟩:=hm.own t c ht;exact ⟨h1,h2,h3,o,(hu.same _ (hm.lt ht) (k3 t c ht)).trans h4,h5⟩
 obtain ⟨q1,q2,q3⟩:=hm.kept c (bD _ hc);exact ⟨q1,(hu.same _ (hm.klt (bD _ hc)) (fun e=>hnd.1 (by rw [←e];exact hc))).trans q2,q3⟩
end
inductive Ro where
 | bad
 | val (v:CV) (h:Tr CB) (nx:Nat)
 | unit (h:Tr CB) (nx:Nat)
def Wd {Φ:A3→Prop} (P:Program) (op:Op) (ρ:Pl) (w0:E5 Φ) (h:Tr CB) (nx:Nat) (a:Act) (w:World):Ro→Prop
 | .bad=>True
 | .val c h' nx'=>nx≤nx'∧∃ v w' ρ',F8 nx ρ ρ'∧Kn nx' ρ' c v∧Mem ρ' w0 h' nx' w'∧nx'≤uW∧Tp ρ h nx w ρ' h' w'∧∀ (d:Option Tmp) (ty:TypeId) (pos:String) (after:Array Edge) (g:Option (Nat×Bool)),(execOp a.eval ⟨d,op,ty,pos,after,g⟩).run P w=.ok (.value v) w'
 | .unit h' nx'=>nx≤nx'∧∃ w' ρ',F8 nx ρ ρ'∧Mem ρ' w0 h' nx' w'∧nx'≤uW∧Tp ρ h nx w ρ' h' w'∧∀ (ty:TypeId) (pos:String) (after:Array Edge) (g:Option (Nat×Bool)),(execOp a.eval ⟨none,op,ty,pos,after,g⟩).run P w=.ok .skip w'
section
variable {P:Program} {w:World}
theorem Ke {t tx ty e:TypeId} {i:TypeInfo} (ht:P.underlying t=some (.slice e)) (hi:P.info? e=some i) {b off sLen sCap:Nat} {cur:Array Value} {bt:TypeId} (hb:w.heap[b]?=some (.cells cur bt (0,0))) {x:Value} {n:Nat} {news:List Value} (hs:Go.Src P i.size tx x n news w)
 (hroom:sLen+n≤sCap) (hfit:off+sLen*i.size+news.length≤cur.size) :
 (Builtin.append_ #[t,tx] ty #[.slice (some ⟨b,off,none⟩) sLen sCap,x]).run P w=.ok (.slice (some ⟨b,off,none⟩) (sLen+n) sCap) (w.setRow b (cur.toList.take (off+sLen*i.size)++news++cur.toList.drop (off+sLen*i.size+news.length)).toArray):=by
 have hst:=mF P b (off+sLen*i.size) bt news 0 cur w hb (by simpa using hfit) hs.one;simp only [fQ] at hst;rcases hs.kind with ⟨e',hk⟩ | hk <;> simp [Builtin.append_,aQ ht,aQ hk,sizeOf,typeInfo,hi,hs.len,hroom,hs.cells,Addr.add_lit,hst]
theorem TH {t tx ty e:TypeId} {i:TypeInfo} (ht:P.underlying t=some (.slice e)) (hi:P.info? e=some i) {b off dLen dCap:Nat} {cur:Array Value} {bt:TypeId} (hb:w.heap[b]?=some (.cells cur bt (0,0))) {src:Addr} {sLen sCap k:Nat} {news:List Value}
 (hk:Nat.min sLen dLen=k) (hl:news.length=k*i.size) (hn:∀ j v,news[j]?=some v→w.cell? (src.add j)=some v) (h1:∀ v∈news,v.oneCell'=true) (hfit:off+news.length≤cur.size) :
 (Builtin.copy_ #[t,tx] ty #[.slice (some ⟨b,off,none⟩) dLen dCap,.slice (some src) sLen sCap]).run P w=.ok (.int .i64 (k:Int)) (w.setRow b (cur.toList.take off++news++cur.toList.drop (off+news.length)).toArray):=by
 have hst:=mF P b off bt news 0 cur w hb (by simpa using hfit) h1;simp only [fQ] at hst;have hld:=kI (P:=P) w src news hn;rw [hl] at hld;simp [Builtin.copy_,aQ ht,Builtin.lenOf,Builtin.firstCells,sizeOf,typeInfo,hi,hk,hld,hst,goInt]
theorem NK {t tx ty e:TypeId} {i:TypeInfo} (ht:P.underlying t=some (.slice e)) (hi:P.info? e=some i) {d a:Option Addr} {dLen dCap sLen sCap:Nat} (hk:Nat.min sLen dLen=0) :
 (Builtin.copy_ #[t,tx] ty #[.slice d dLen dCap,.slice a sLen sCap]).run P w=.ok (.int .i64 0) w:=by
 have hl:∀ (x:Addr),(loadCells x 0).run P w=.ok #[] w:=fun x=>by simpa using kI (P:=P) w x [] vL
 cases d <;> cases a <;> simp [Builtin.copy_,aQ ht,Builtin.lenOf,Builtin.firstCells,sizeOf,typeInfo,hi,hk,storeCells,hl,goInt]
theorem Nw {zs:List Value} (h0:0<zs.length) (n:Nat):madeCells zs.toArray (n*zs.length)=(List.replicate n zs).flatten.toArray:=by
 apply tG;apply dW;intro q;have hlen:(List.replicate n zs).flatten.length=n*zs.length:=vL;by_cases hq:q<n*zs.length
 · have h6:q % zs.length<zs.length:=iX _ h0;have h7:zs.toArray[q % zs.toArray.size]! = zs[q % zs.length]'h6:=by
    rw [pV zs.toArray _ (by simpa using h6)];simp
   simp only [madeCells,rG,Array.toList_range,bJ,dP hq,fR,h7];symm;have key:∀ (n q:Nat),q<n*zs.length→(List.replicate n zs).flatten[q]?=some (zs[q % zs.length]'(iX _ h0)):=by
    intro n;induction n with
    | zero=>intro q h;simp at h
    | succ n ih =>
      intro q h;rw [pT,List.flatten_cons];by_cases hz:q<zs.length
      · rw [bC hz,aA hz];congr 1;simp only [eS hz]
      have h2:zs.length≤q:=uJ;rw [cD h2,ih (q - zs.length) (by rw [rN] at h;omega)];congr 1;have h3:(q - zs.length) % zs.length=q % zs.length:=by rw [←Nat.mod_eq_sub_mod h2]
      simp only [h3]
   exact key n q hq
 rw [bF (by simp [madeCells];omega),bF (by show (List.replicate n zs).flatten.length≤q;omega)]
end
def TI (P:Program) (T:Nat):Option (Nat×Nat×Nat×CV):=match P.underlying T with
 | some (.slice E)=>match P.info? E with
   | some i=>match ZR P E with
     | some z=>bif Nat.beq (vP z) i.size && Nat.ble 1 i.size then some (E,i.size,i.bytes,z) else none
     | none=>none
   | none=>none
 | _=>none
theorem Lz {P:Program} {T E sz by':Nat} {z:CV} (h:TI P T=some (E,sz,by',z)) (nx:Nat) (ρ:Pl) :
 P.underlying T=some (.slice E)∧∃ i v,P.info? E=some i∧i.zero=some v∧i.size=sz∧i.bytes=by'∧KL nx ρ z v.cells.toList∧v.cells.toList.length=sz∧0<sz:=by
 unfold TI at h;split at h
 · rename_i E' hu;split at h
   · rename_i i hi;split at h
     · rename_i z' hz;rcases uN h with ⟨h1,h⟩ | ⟨_,h⟩
       · cases h;simp only [aB] at h1;obtain ⟨i',v,hi',hv,kz⟩:=Rh hz nx ρ;rw [hi] at hi';cases hi';have:=aD h1.1;rw [vS kz] at this;exact ⟨hu,i,v,hi,hv,U,U,kz,this,bK h1.2⟩
       cases h
     cases h
   cases h
 cases h
def er (P:Program) (E:Tr CV) (h:Tr CB) (sz:Nat) (tx:Nat) (x:Operand):Option (Nat×CV):=match wA E x with
 | some .nils=>match Vy P tx with | some _=>some (0,.nil) | none=>none
 | some (.sl t o n sz' _)=>bif Nat.beq sz sz' then (match Vy P tx with
   | some _=>(match h.get t with
     | some (.cells l _ _ _)=>bif Nat.beq (vP (vU l o (Nat.mul n sz))) (Nat.mul n sz) && Jv (vU l o (Nat.mul n sz)) then some (n,vU l o (Nat.mul n sz)) else none
     | _=>none)
   | none=>none) else none
 | some (.str s)=>bif Nat.beq sz 1 then (match P.underlying tx with | some .string=>some (vP s,s) | _=>none) else none
 | _=>none
def pi (P:Program) (E:Tr CV) (h:Tr CB) (nx:Nat) (T tx:Nat) (s x:Operand):Ro:=match TI P T with
 | some (e,sz,by',_)=>match er P E h sz tx x with
   | some (m,news)=>match wA E s with
     | some .nils=>bif Nat.beq m 0 then .bad else
      bif Nat.ble (Nat.mul m by') 140737488355328 && (Nat.ble m 4611686018427387904 && Nat.ble (Nat.succ nx) uW) then .val (.sl nx 0 m sz none) (h.set (some (.cells (Tk news) e true nx)) uW nx) (Nat.succ nx) else .bad
     | some (.sl t o n sz' c)=>bif not (Nat.beq sz sz') then .bad else bif Nat.beq m 0 then .val (.sl t o n sz c) h nx else
       (match h.get t with
       | some (.cells l bt op _)=>bif not (Nat.beq bt e) then .bad else
         (match c with
         | some c=>bif Nat.ble (Nat.add n m) c then
          (bif Nat.ble (Nat.add o (Nat.mul (Nat.add n m) sz)) l.n && Nat.ble (Nat.succ nx) uW then .val (.sl t o (Nat.add n m) sz (some c)) (h.set (some (.cells (Tj (Nat.add o (Nat.mul n sz)) news l) bt op nx)) uW t) (Nat.succ nx) else .bad)
           else
            (bif Nat.ble (Nat.mul (Nat.add n m) by') 140737488355328 && (Nat.ble (Nat.add n m) 4611686018427387904 && (Nat.ble (Nat.succ nx) uW && Nat.beq (vP (vU l o (Nat.mul n sz))) (Nat.mul n sz))) then
             .val (.sl nx 0 (Nat.add n m) sz none) (h.set (some (.cells (Tk (Df (vU l o (Nat.mul n sz)) news)) e true nx)) uW nx) (Nat.succ nx) else .bad)
         | none=>bif Nat.ble (Nat.add o (Nat.mul (Nat.add n m) sz)) l.n && Nat.ble (Nat.succ nx) uW then .val (.sl t o (Nat.add n m) sz none) (h.set (some (.cells (Tj (Nat.add o (Nat.mul n sz)) news l) bt op nx)) uW t) (Nat.succ nx)
           else
            bif (Nat.beq o 0 && Nat.beq (Nat.mul n sz) l.n) && (Nat.ble (Nat.mul (Nat.add n m) by') 140737488355328 && (Nat.ble (Nat.add n m) 4611686018427387904 && Nat.ble (Nat.succ nx) uW)) then
             .val (.sl nx 0 (Nat.add n m) sz none) ((h.set none uW t).set (some (.cells (dq l news) e true nx)) uW nx) (Nat.succ nx) else .bad)
       | _=>.bad)
     | _=>.bad
   | none=>.bad
 | none=>.bad
def wv0 (P:Program) (E:Tr CV) (h:Tr CB) (nx:Nat) (T:TypeId):Ro:=match ZR P T with
 | some z=>bif Nat.ble (Nat.succ nx) uW then .val (.ptr nx 0) (h.set (some (.cells (Tk z) T false nx)) uW nx) (Nat.succ nx) else .bad
 | none=>.bad
def wv1 (P:Program) (E:Tr CV) (h:Tr CB) (nx:Nat) (T:TypeId) (x:Operand):Ro:=match wA E x with
 | some c=>match Cu c with
   | some l=>bif Nat.ble (Nat.succ nx) uW then .val (.ptr nx 0) (h.set (some (.cells (Tk l) T false nx)) uW nx) (Nat.succ nx) else .bad
   | none=>.bad
 | none=>.bad
def wv2 (P:Program) (E:Tr CV) (h:Tr CB) (nx:Nat) (T:TypeId) (x:Operand) (y:Operand):Ro:=match wA E x with
 | some (.ptr t o)=>match wA E y with
   | some c=>match Cu c with
     | some m=>match h.get t with
       | some (.cells l bt op _)=>match OD P T with
         | some k=>bif Nat.beq (vP m) k && (Jv m && (Nat.ble (Nat.add o k) l.n && Nat.ble (Nat.succ nx) uW)) then .unit (h.set (some (.cells (Tj o m l) bt op nx)) uW t) (Nat.succ nx) else .bad
         | none=>.bad
       | _=>.bad
     | none=>.bad
   | none=>.bad
 | _=>.bad
def wv3 (P:Program) (E:Tr CV) (h:Tr CB) (nx:Nat) (T:TypeId) (n:Nat) (parts:List (Nat×Operand)):Ro:=match TI P T with
 | some (e,sz,_,z)=>bif Nat.ble 1 n && (Nat.ble (Nat.mul n sz) 16777216 && Nat.ble (Nat.succ nx) uW) then
  (match Kb E (xJ n sz) (Nat.mul n sz) parts (GA z n) with
  | some l=>.val (.sl nx 0 n sz (some n)) (h.set (some (.cells (Tk l) e false nx)) uW nx) (Nat.succ nx)
  | none=>.bad) else .bad
 | none=>.bad
def wv4 (P:Program) (E:Tr CV) (h:Tr CB) (nx:Nat) (T:TypeId) (x:Operand) (y:Operand):Ro:=match TI P T with
 | some (e,sz,by',z)=>match wA E x with
   | some (.int _ n)=>match wA E y with
     | some (.int _ c)=>bif yK 0 n && (yK n c && (Nat.ble (Nat.mul by' c.toNat) 281474976710656 && (Nat.ble c.toNat 4611686018427387904 && Nat.ble (Nat.succ nx) uW))) then
      .val (.sl nx 0 n.toNat sz (some c.toNat)) (h.set (some (.cells (Tk (GA z c.toNat)) e false nx)) uW nx) (Nat.succ nx) else .bad
     | _=>.bad
   | _=>.bad
 | none=>.bad
def wv6 (P:Program) (E:Tr CV) (h:Tr CB) (nx:Nat) (d:Operand) (x:Operand) (T:TypeId):Ro:=match TI P T with
 | some (_,sz,_,_)=>match wA E d with
   | some (.sl t o n sz' _)=>match wA E x with
     | some (.sl t2 o2 n2 sz2 _)=>bif Nat.beq sz sz' && Nat.beq sz sz2 then
      (match h.get t with
      | some (.cells l bt op _)=>(match h.get t2 with
        | some (.cells l2 _ _ _) =>
          bif Nat.beq (vP (vU l2 o2 (Nat.mul (Nat.min n2 n) sz))) (Nat.mul (Nat.min n2 n) sz) && (Jv (vU l2 o2 (Nat.mul (Nat.min n2 n) sz)) && (Nat.ble (Nat.add o (Nat.mul (Nat.min n2 n) sz)) l.n && Nat.ble (Nat.succ nx) uW)) then
           .val (.int .i64 (Nat.min n2 n)) (h.set (some (.cells (Tj o (vU l2 o2 (Nat.mul (Nat.min n2 n) sz)) l) bt op nx)) uW t) (Nat.succ nx) else .bad
        | _=>.bad)
      | _=>.bad) else .bad
     | some .nils=>.val (.int .i64 0) h nx
     | _=>.bad
   | _=>.bad
 | none=>.bad
def wv (P:Program) (E:Tr CV) (h:Tr CB) (nx:Nat):Op→Ro
 | .alloc T=>wv0 P E h nx T
 | .box T x=>wv1 P E h nx T x
 | .store T x y=>wv2 P E h nx T x y
 | .buildSlice T n ⟨parts⟩=>wv3 P E h nx T n parts
 | .makeSlice T x y=>wv4 P E h nx T x y
 | .call ⟨.builtin .append,⟨[s,x]⟩,⟨[T,tx]⟩⟩=>pi P E h nx T tx s x
 | .call ⟨.builtin .copy,⟨[d,x]⟩,⟨[T,_]⟩⟩=>wv6 P E h nx d x T
 | _=>.bad
section
variable {P:Program} {nx n:Nat} {ρ:Pl} {Φ:A3→Prop} {w0:E5 Φ} {w:World} {E:Tr CV} {h:Tr CB} {a:Act}
theorem wU {x:Operand} {v:Value} (hx:(eA a).ev x=some v):a.eval x=v:=(lookN a default).eval hx
theorem Wd.new {op:Op} {c:CV} {b:CB} {o:Obj} {s:Nat} (hm:Mem ρ w0 h nx w) (hf:Nat.ble (Nat.succ nx) uW=true) (hst:Yl b=nx) {w':World} {v:Value} (hu:D2 (fun _=>False) w w') (hsz:w'.heap.size=w.heap.size+1) (ho:w'.heap[w.heap.size]?=some o) (hb:DB nx ρ s b o)
 (hk:∀ ρ',ρ' nx=(w.heap.size,s)→DV ρ' c v) (hbd:Bd (nx+1) c) (hr:∀ (d:Option Tmp) (ty:TypeId) (pos:String) (after:Array Edge) (g:Option (Nat×Bool)),(execOp a.eval ⟨d,op,ty,pos,after,g⟩).run P w=.ok (.value v) w') :
 Wd P op ρ w0 h nx a w (.val c (h.set (some b) uW nx) (Nat.succ nx)):=by
 have hf':=bK hf;obtain ⟨ρ',h1,h2,h3,h4⟩:=hm.new (w':=w') hf' hst hu hsz ho hb;exact ⟨dL _,v,w',ρ',h1,⟨hbd,hk ρ' h2⟩,h3,hf',h4,hr⟩
abbrev qY:=@Wd.new
theorem wQ (w:World) (o:Obj):D2 (fun _=>False) w (w.alloc o):=(lE _ w).alloc o
theorem wV (w:World) (o:Obj):(w.alloc o).heap.size=w.heap.size+1:=by show (w.heap.push o).size=_;simp
theorem yS {l:CV} {vs:List Value} (hk:KL nx ρ l vs) (ty:Nat) {st:Nat}:DB nx ρ vs.length (.cells (Tk l) ty false st) (.cells vs.toArray ty (0,0)):=⟨vs,[],Yo hk,by simp,by simp,fun _=>rfl⟩
theorem GI {t p:Nat} {l:Rw} {m:CV} {bt:Nat} {op:Bool} {st:Nat} {news:List Value} (hm:Mem ρ w0 h nx w) (hfit:nx≤uW) (ht:h.get t=some (.cells l bt op st)) (hn:KL nx ρ m news) (hp:p+news.length≤l.n) :
 ∃ cur:Array Value,w.heap[(ρ t).1]?=some (.cells cur bt (0,0))∧p+news.length≤cur.size∧cur.size=(ρ t).2∧∀ w',D2 (·=(ρ t).1) w w'→w'.heap[(ρ t).1]?=some (.cells (cur.toList.take p++news++cur.toList.drop (p+news.length)).toArray bt (0,0))→
  Mem ρ w0 (h.set (some (.cells (Tj p m l) bt op nx)) uW t) (nx+1) w'∧Tp ρ h nx w ρ (h.set (some (.cells (Tj p m l) bt op nx)) uW t) w':=by
 obtain ⟨h1,hs1,h2,o,h3,vs,junk,k1,rfl,k3,k4⟩:=hm.own t _ ht;rw [Jy k1] at hp;refine ⟨_,h3,by simp;omega,by simpa using k3,fun w' hu ho=>hm.write hfit rfl ht hu ho ?_⟩;refine ⟨vs.take p++news++vs.drop (p+news.length),junk,?_,?_,?_,k4⟩
 · exact YF k1 hn hp
 · simp only [fA (show p≤vs.length by omega),fB hp,cU]
 simp only [aI,bI,cE];omega
theorem eu {m l:CV} {p k:Nat} (h:p+vP m≤vP l):vP (Df (Fl p l) (Df m (Fk (p+vP m) l)))=vP l:=by
 have t:∀ (k:Nat) (x:CV),vP (Fl k x)=min k (vP x):=by
  intro k;induction k with
  | zero=>intro x;show 0=_;omega
  | succ k ih=>intro x;cases x with
    | cons a b=>show Nat.succ (vP (Fl k b))=min (k+1) (Nat.succ (vP b));rw [ih];omega
    | _=>show 0=min (k+1) 0;omega
 have d:∀ (k:Nat) (x:CV),vP (Fk k x)=vP x - k:=by
  intro k;induction k with
  | zero=>intro x;rfl
  | succ k ih=>intro x;cases x with
    | cons a b=>show vP (Fk k b)=Nat.succ (vP b) - (k+1);rw [ih];omega
    | _=>show 0=0 - (k+1);omega
 have ap:∀ x y:CV,vP (Df x y)=vP x+vP y:=by
  intro x y;induction x with
  | cons a b _ ih=>show Nat.succ (vP (Df b y))=Nat.succ (vP b)+vP y;rw [ih];omega
  | _=>show vP y=0+vP y;omega
 rw [ap,ap,t,d];omega
theorem Wb {pl:List (Nat×Nat)} {N:Nat}:∀ {parts:List (Nat×Operand)} {l r:CV},Kb E pl N parts l=some r→N≤vP l→vP r=vP l:=by
 intro parts;induction parts with
 | nil=>intro l r h _;cases h;rfl
 | cons p parts ih =>
   intro l r h hN;have h':(match Ic pl p.1 with
    | some (off,size)=>(match wA E p.2 with
      | some c=>(match Cu c with
        | some m=>bif Nat.beq (vP m) size && Nat.ble (off+size) N then Kb E pl N parts (Df (Fl off l) (Df m (Fk (off+size) l))) else none
        | none=>none)
      | none=>none)
    | none=>none)=some r:=h
   split at h'
   · rename_i off size hp0;split at h'
     · split at h'
       · rename_i m hm0;rcases uN h' with ⟨h1,h2⟩ | ⟨_,h2⟩
         · simp only [aB] at h1;have e1:=aD h1.1;have e2:=bK h1.2;subst e1;have hp:=eu (k:=0) (m:=m) (l:=l) (p:=off) uJ;rw [ih h2 (by rw [hp];exact hN),hp]
         cases h2
       cases h'
     cases h'
   cases h'
theorem TJ {T:TypeId} {r:Ro} (hs:B4 ρ E nx n a) (hm:Mem ρ w0 h nx w) (hr:wv P E h nx (.alloc T)=r):Wd P (.alloc T) ρ w0 h nx a w r:=by
 subst hr;show Wd _ _ _ _ _ _ _ _ (match ZR P T with | some z=>bif Nat.ble (Nat.succ nx) uW then .val (.ptr nx 0) (h.set (some (.cells (Tk z) T false nx)) uW nx) (Nat.succ nx) else .bad | none=>.bad);split
 · rename_i z hz;cases hf:Nat.ble (Nat.succ nx) uW with
   | false=>trivial
   | true =>
     obtain ⟨i,v,hi,hv,kz⟩:=Rh hz nx ρ;refine qY (s:=v.cells.toList.length) (o:=.cells v.cells.toList.toArray T (0,0)) (w':=w.alloc (.cells v.cells.toList.toArray T (0,0))) (v:=.pointer (some ⟨w.heap.size,0,none⟩)) hm hf U (wQ _ _) (wV _ _) (vQ _ _) (yS kz T) (fun ρ' hρ=>?_) (dB nx) fun d ty pos after g=>?_
     · show _=Value.pointer (some ⟨(ρ' nx).1,0,none⟩);rw [hρ]
     simp [execOp,Instr.alloc,newVar,newRow,zeroValue,typeInfo,hi,hv]
 trivial
theorem ew {T:TypeId} {x:Operand} {r:Ro} (hs:B4 ρ E nx n a) (hm:Mem ρ w0 h nx w) (hr:wv P E h nx (.box T x)=r):Wd P (.box T x) ρ w0 h nx a w r:=by
 subst hr;show Wd _ _ _ _ _ _ _ _ (match wA E x with
  | some c=>match Cu c with
    | some l=>bif Nat.ble (Nat.succ nx) uW then .val (.ptr nx 0) (h.set (some (.cells (Tk l) T false nx)) uW nx) (Nat.succ nx) else .bad
    | none=>.bad
  | none=>.bad)
 split
 · rename_i c hc;split
   · rename_i l hl;cases hf:Nat.ble (Nat.succ nx) uW with
     | false=>trivial
     | true =>
       obtain ⟨v,e1,k1⟩:=uQ hs hc;have kz:=Dg k1 hl;refine qY (s:=v.cells.toList.length) (o:=.cells v.cells.toList.toArray T (0,0)) (w':=w.alloc (.cells v.cells.toList.toArray T (0,0))) (v:=.pointer (some ⟨w.heap.size,0,none⟩)) hm hf U (wQ _ _) (wV _ _) (vQ _ _) (yS kz T) (fun ρ' hρ=>?_) (dB nx) fun d ty pos after g=>?_
       · show _=Value.pointer (some ⟨(ρ' nx).1,0,none⟩);rw [hρ]
       simp [execOp,Instr.box,newVar,newRow,wU e1]
   trivial
 trivial
theorem TK {T:TypeId} {x y:Operand} {r:Ro} (hs:B4 ρ E nx n a) (hm:Mem ρ w0 h nx w) (hfit:nx≤uW) (hr:wv P E h nx (.store T x y)=r):Wd P (.store T x y) ρ w0 h nx a w r:=by
 subst hr;show Wd _ _ _ _ _ _ _ _ (match wA E x with
  | some (.ptr t o)=>match wA E y with
    | some c=>match Cu c with
      | some m=>match h.get t with
        | some (.cells l bt op _)=>match OD P T with
          | some k=>bif Nat.beq (vP m) k && (Jv m && (Nat.ble (Nat.add o k) l.n && Nat.ble (Nat.succ nx) uW)) then .unit (h.set (some (.cells (Tj o m l) bt op nx)) uW t) (Nat.succ nx) else .bad
          | none=>.bad
        | _=>.bad
      | none=>.bad
    | none=>.bad
  | _=>.bad)
 split
 · rename_i t o hx;split
   · rename_i c hc;split
     · rename_i m hmc;split
       · rename_i l bt op st ht;split
         · rename_i k hk;cases hb:Nat.beq (vP m) k && (Jv m && (Nat.ble (Nat.add o k) l.n && Nat.ble (Nat.succ nx) uW)) with
           | false=>trivial
           | true =>
             simp only [aB] at hb;obtain ⟨v,e1,k1⟩:=uQ hs hx;have e2:=nX.1 k1.2;subst e2;obtain ⟨u,e3,k3⟩:=uQ hs hc;have km:=Dg k3 hmc;have hlen:u.cells.toList.length=k:=by rw [←vS km];exact aD hb.1
             have hle:o+u.cells.toList.length≤l.n:=by rw [hlen];exact bK hb.2.2.1
             obtain ⟨cur,g1,g2,g3,g4⟩:=GI hm hfit ht km hle;have g1':w.heap[(ρ t).1]?=some (.cells cur.toList.toArray bt (0,0)):=by rw [g1]
             have hrun:=Cg (P:=P) (T:=T) (off:=o) (cs:=cur.toList) (vs:=u.cells.toList) (v:=u) (by rw [hlen];exact Hv hk) vL (Rd km hb.2.1) g1' (by simpa using g2);have g5:=g4 (w.setRow (ρ t).1 (cur.toList.take o++u.cells.toList++cur.toList.drop (o+u.cells.toList.length)).toArray) (wR w (ρ t).1 _) OF;refine ⟨dL _,w.setRow (ρ t).1 (cur.toList.take o++u.cells.toList++cur.toList.drop (o+u.cells.toList.length)).toArray,ρ,dT _ _,g5.1,bK hb.2.2.2,g5.2,fun ty pos after g=>?_⟩;simp [execOp,wU e1,wU e3,hrun]
         trivial
       trivial
     trivial
   trivial
 trivial
theorem Tq {T N:Nat} {parts:List (Nat×Operand)} {r:Ro} (hs:B4 ρ E nx n a) (hm:Mem ρ w0 h nx w) (hr:wv P E h nx (.buildSlice T N ⟨parts⟩)=r):Wd P (.buildSlice T N ⟨parts⟩) ρ w0 h nx a w r:=by
 subst hr;show Wd _ _ _ _ _ _ _ _ (match TI P T with
  | some (e,sz,_,z)=>bif Nat.ble 1 N && (Nat.ble (Nat.mul N sz) 16777216 && Nat.ble (Nat.succ nx) uW) then
   (match Kb E (xJ N sz) (Nat.mul N sz) parts (GA z N) with
   | some l=>.val (.sl nx 0 N sz (some N)) (h.set (some (.cells (Tk l) e false nx)) uW nx) (Nat.succ nx)
   | none=>.bad) else .bad
  | none=>.bad)
 split
 · rename_i e sz by' z hz;cases hb:Nat.ble 1 N && (Nat.ble (Nat.mul N sz) 16777216 && Nat.ble (Nat.succ nx) uW) with
   | false=>trivial
   | true =>
     simp only [iA];split
     · rename_i l hl;simp only [aB] at hb;obtain ⟨hu,i,zv,hi,hzv,hsz,hby,kz,hzl,h0⟩:=Lz hz nx ρ;have kr:=Np kz N;obtain ⟨vs,e1,o1,k1⟩:=Kc hs kr hl;have hN:=bK hb.1;have hNs:N*sz≤16777216:=bK hb.2.1;have hpos:0<N*sz:=pL hN h0;have hlen:(List.replicate N zv.cells.toList).flatten.length=N*sz:=by simp [←hzl]
       have hf:=Ik (fun i=>some (i*sz,sz)) (xJ N sz) (fun i x h=>by
        simp only [xJ,bJ,gG] at h;obtain ⟨j,hj,rfl⟩:=h;obtain ⟨hlt,hj⟩:=aR.1 hj;simp at hj;subst hj;rfl) vs (List.replicate N zv.cells.toList).flatten (N*sz) hlen o1
       have hmade:((Array.range (N*i.size)).map (zv.cells[· % zv.cells.size]!))=(List.replicate N zv.cells.toList).flatten.toArray:=by
        have:=Nw (zs:=zv.cells.toList) uJ N;rw [hzl] at this;simpa [madeCells,hsz] using this
       have hrun:=run_buildSlice (P:=P) w T e N vs.toArray (Au (xJ N sz) (List.replicate N zv.cells.toList).flatten vs).toArray i zv hu hi hzv Zg Zg (by rw [hmade,hsz];exact hf);have hmm:(parts.toArray.map fun (i,x)=>(i,a.eval x))=vs.toArray:=by rw [←(lookN a w).parts e1];simp
       have hlenF:(Au (xJ N sz) (List.replicate N zv.cells.toList).flatten vs).length=N*sz:=by
        rw [←vS k1,Wb hl (by rw [vS kr,hlen];exact aG _),vS kr,hlen]
       refine qY (s:=(Au (xJ N sz) (List.replicate N zv.cells.toList).flatten vs).length) (o:=.cells (Au (xJ N sz) (List.replicate N zv.cells.toList).flatten vs).toArray e (0,0)) (v:=.slice (some ⟨w.heap.size,0,none⟩) N N) hm hb.2.2 U (wQ _ _) (wV _ _) (vQ _ _) (yS k1 e) (fun ρ' hρ=>?_) (dB nx) fun d ty pos after g=>?_
       · refine lI.2 ⟨by rw [hρ],by rw [hρ,hlenF];omega,aG _,?_⟩;have:=jX N h0;simp only [maxLen];omega
       simp only [execOp,hmm,bL,hrun,aO,bR]
     trivial
 trivial
end
end Go.Sl.Ev
end
