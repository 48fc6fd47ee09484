/- sN of the proof (part 6): what the rows' text needs of the texts that lead to it. -/
import Derived.Test.YtngphgeghfdjbaaGreatDoorMBe
set_option linter.unusedVariables false
set_option linter.unusedSimpArgs false
set_option linter.unusedSectionVars false
set_option maxHeartbeats 4000000
noncomputable section
set_option maxRecDepth 100000
namespace Go.Proofs.YtngphgeghfdjbaaGreatDoor
open Go Go.Sl
def wE (n1 n2:Int):Prop:=((0≤n1∧0≤n2)∧n1≤2048)∧n2≤2048
instance (n1 n2:Int):Decidable (wE n1 n2):=inferInstanceAs (Decidable (_∧_))
def LD (x:Nat×Nat):List Value:=[.int .i64 (x.1:Int),.int .i64 (x.2:Int)]
theorem Qw {k1 k2 n st n1 n2 k:Nat} {th:Int} {x:Nat×Nat} {s:FS} (a1:1≤k1) (b1:k1≤8) (a2:1≤k2) (b2:k2≤8) (hn:k1+k2=n+1) (hm:max n1 n2≤2048) (hst:st≤49152) (hx:(wD k1 k2 n th n1 n2 1)[k]?=some x) (hs:s=((wD k1 k2 n th n1 n2 1).take k).foldl (sO n st) ⟨1,n1*n2,0,0,0⟩) :
 s.lv+x.2≤31381059609∧s.ca+x.2*n≤62762119218∧s.st+x.2*st≤1542441841852416∧x.1≤2048∧x.1*x.1≤4194304:=by
 obtain ⟨f1,f2,f3,f4⟩:=Ce (st:=st) (th:=th) a1 b1 a2 b2 hn hm hst
 obtain ⟨g1,g2,g3,g4⟩:=Cc k1 k2 n st th _ n1 n2 1 ⟨1,n1*n2,0,0,0⟩ (aE _) rfl rfl
 obtain ⟨p1,p2,p3⟩:=Vq (n:=n) (st:=st) (wD k1 k2 n th n1 n2 1) (k+1) ⟨1,n1*n2,0,0,0⟩
 rw [Js _ hx,←hs] at p1 p2 p3
 have hx1:x.1≤2048:=Jt 2048 n1 n2 1 hm x (List.mem_of_getElem? hx)
 generalize (wD k1 k2 n th n1 n2 1).foldl (sO n st) ⟨1,n1*n2,0,0,0⟩=r at *
 dsimp only at g1 g2 g3
 have p1':s.lv+x.2≤r.lv:=p1
 have p2':s.ca+x.2*n≤r.ca:=p2
 have p3':s.st+x.2*st≤r.st:=p3
 exact ⟨by omega,by omega,by omega,hx1,aK (iI hx1 hx1) rI⟩
section
attribute [local irreducible] blkP tD rM wE
theorem NQ (G:Imm) (n1 n2:Int):Does Tryz.prog 84 [.int .i64 n1,.int .i64 n2] G [] (fun v G' Ho=>v=.bool (decide (wE n1 n2))∧G'=G∧Ho=[]):=by
 refine fG Tryz.func84 rfl Tryz.ntmps84 rfl fun w=>?_
 refine aM 10 [] ?_
 apply dT 3 7 10 rfl
 intro hg1
 refine aC 5 [] ?_
 exact eV 3 0 rfl rfl rfl rfl rfl
 intro hg1
 refine aC 3 [] ?_
 exact eV 3 0 rfl rfl rfl rfl rfl
 refine aC 1 [] ?_
 apply dT 3 11 14 rfl
 intro hg1
 refine aC 5 [] ?_
 exact eV 3 0 rfl rfl rfl rfl rfl
 intro hg1
 refine aC 3 [] ?_
 exact eV 3 0 rfl rfl rfl rfl rfl
 refine aC 1 [] ?_
 apply dT 3 15 18 rfl
 intro hg1
 refine aC 5 [] ?_
 exact eV 3 0 rfl rfl rfl rfl rfl
 intro hg1
 refine aC 3 [] ?_
 exact eV 3 0 rfl rfl rfl rfl rfl
 refine bA 4 [] ?_
 refine cI ?_
 exact ⟨congrArg Value.bool (fH.2 (by unfold wE;omega)),rfl,rfl⟩
theorem QX (G:Imm) (p:Option Addr) (n1 n2 th:Int):Does Tryz.prog 33 [.pointer p,.int .i64 n1,.int .i64 n2,.int .i64 th] G [] (fun v G' Ho=>∃ bm ba bb bt,v=.func (.func 85) #[] #[.pointer (some ⟨bm,0,none⟩),.pointer (some ⟨ba,0,none⟩),.pointer (some ⟨bb,0,none⟩),.pointer (some ⟨bt,0,none⟩)]∧CellsAt G' bm [.pointer p]∧CellsAt G' ba [.int .i64 n1]∧CellsAt G' bb [.int .i64 n2]∧CellsAt G' bt [.int .i64 th]∧Ho=[]):=by
 refine fG Tryz.func33 rfl Tryz.ntmps33 rfl fun w=>?_
 refine aM 2 [] ?_
 refine lK 0 rfl rfl rfl fun b1=>?_
 refine lK 1 rfl rfl rfl fun b2=>?_
 refine lK 2 rfl rfl rfl fun b3=>?_
 refine lK 3 rfl rfl rfl fun b4=>?_
 refine aL 5 [] ?_
 refine dS rfl (kU rfl rfl) ?_
 refine bA 4 [] ?_
 refine pT 0 rfl fun Ga ha hba=>?_
 refine pT 1 rfl fun Gb hb hbb=>?_
 refine pT 2 rfl fun Gc hc hbc=>?_
 refine pT 3 rfl fun Gd hd hbd=>?_
 refine cI ?_
 exact ⟨_,_,_,_,rfl,(oM hba).up (bI hb (bI hc hd)),(oM hbb).up (bI hc hd),(oM hbc).up hd,oM hbd,rfl⟩
theorem AH {u:UV} {k1 k2:Nat} (hc:Cnt u k1 k2):1≤u.pl.length∧u.pl.length≤15:=by
 have:=hc.n;have:=hc.a1;have:=hc.a2;have:=hc.b1;have:=hc.b2
 omega
theorem LG (G:Imm) (p:Option Addr) (n1 n2:Int) (bm ba bb bt:Nat) (hm:CellsAt G bm [.pointer p]) (ha:CellsAt G ba [.int .i64 n1]) (hb:CellsAt G bb [.int .i64 n2]) (hno:¬wE n1 n2) :
 Ey Tryz.prog 85 [.pointer (some ⟨bm,0,none⟩),.pointer (some ⟨ba,0,none⟩),.pointer (some ⟨bb,0,none⟩),.pointer (some ⟨bt,0,none⟩)] G LD []:=by
 intro ι J inv stop ly i0 hi0 hY
 refine pJ Tryz.func85 rfl Tryz.ntmps85 rfl fun w=>?_
 refine Si 1000 ?_
 refine aM 3 [] ?_
 refine dS rfl (fN T.one32 rfl qY tL) ?_
 refine dS rfl (Qy.eqlPtrNil rD rfl rfl) ?_
 refine aC 1 [] ?_
 apply dA 5 13 18 rfl
 intro hg1
 refine aC 1 [] ?_
 refine dS rfl (fN T.one3 rfl qY tL) ?_
 refine aC 1 [] ?_
 refine dS rfl (fN T.one3 rfl qY tL) ?_
 refine aC 1 [] ?_
 refine bS rfl (NQ _ _ _) ?_
 refine aC 1 [] ?_
 refine dS rfl (eK rfl) ?_
 refine aC 1 [] ?_
 exact eV 5 0 rfl rfl rfl rfl rfl
 intro hg1
 refine aC 5 [] ?_
 exact eV 5 0 rfl rfl rfl rfl rfl
 refine bP 2 [] ?_
 refine lZ rfl (fun hc1=>?_) fun hc1=>?_
 refine bQ 2 [] ?_
 refine jR (.inr rfl) ?_
 rotate_left
 refine cZ 3 [] ?_
 refine mN [] [] T.mixed rfl ?_
 refine gQ 0 [] rfl (fN T.one3 rfl qY tL) ?_
 refine gQ 1 [] rfl (fN T.one3 rfl qY tL) ?_
 refine eF 2 [] [] ?_
 refine eF 3 [] [] ?_
 refine eF 4 [] [] ?_
 refine pH rD trivial Tv ?_
 refine oS 2 [] ?_
 rotate_left
 · refine Lg (k:=1000) (.inr rfl) rfl Tw ⟨rfl,i0,rfl,.inl hi0⟩
 exact absurd (Or.inr hno) qY
theorem QY (G:Imm) (u:UV) (h:UH) (b:Nat) (k1 k2 n1 n2:Nat) (th:Int) (hb:CellsAt G b (uC u h)) (hc:Cnt u k1 k2) (h1:n1≤4096) (h2:n2≤4096) (he:tD n1 n2 k1 k2 th) :
 Does Tryz.prog 80 [.pointer (some ⟨b,0,none⟩),.int .i64 (n1:Int),.int .i64 (n2:Int),.int .i64 th] G [] (fun v G' Ho=>v=.tuple #[.int .i64 (blkP n1 n2 k1 k2:Int),.bool true]∧G'=G∧Ho=[]):=
 (c80 G u h b k1 k2 n1 n2 th hb hc.e1 hc.e2 h1 h2 ⟨hc.a1,hc.b1⟩ ⟨hc.a2,hc.b2⟩).mono fun v G' Ho _ hp=>⟨hp.1.trans (by rw [cR he]),hp.2⟩
theorem QZ (G:Imm) (u:UV) (h:UH) (b:Nat) (k1 k2 n1 n2:Nat) (th:Int) (hb:CellsAt G b (uC u h)) (hc:Cnt u k1 k2) (h1:n1≤4096) (h2:n2≤4096) (he:¬tD n1 n2 k1 k2 th) :
 Does Tryz.prog 80 [.pointer (some ⟨b,0,none⟩),.int .i64 (n1:Int),.int .i64 (n2:Int),.int .i64 th] G [] (fun v G' Ho=>v=.tuple #[.int .i64 (blkP n1 n2 k1 k2:Int),.bool false]∧G'=G∧Ho=[]):=
 (c80 G u h b k1 k2 n1 n2 th hb hc.e1 hc.e2 h1 h2 ⟨hc.a1,hc.b1⟩ ⟨hc.a2,hc.b2⟩).mono fun v G' Ho _ hp=>⟨hp.1.trans (by rw [bR he]),hp.2⟩
theorem LH (G:Imm) (u:UV) (h:UH) (k1 k2:Nat) (hc:Cnt u k1 k2) (b bm ba bb bt n1 n2:Nat) (th:Int) (hu:CellsAt G b (uC u h)) (hm:CellsAt G bm [.pointer (some ⟨b,0,none⟩)]) (ha:CellsAt G ba [.int .i64 (n1:Int)]) (hb:CellsAt G bb [.int .i64 (n2:Int)]) (ht:CellsAt G bt [.int .i64 th]) (h1:n1≤2048) (h2:n2≤2048) :
 Ey Tryz.prog 85 [.pointer (some ⟨bm,0,none⟩),.pointer (some ⟨ba,0,none⟩),.pointer (some ⟨bb,0,none⟩),.pointer (some ⟨bt,0,none⟩)] G LD (wD k1 k2 u.pl.length th n1 n2 1):=by
 intro ι J inv stop ly i0 hi0 hY
 have hok:wE (n1:Int) (n2:Int):=by unfold wE;omega
 obtain ⟨c1,c2⟩:=AH hc
 refine pJ Tryz.func85 rfl Tryz.ntmps85 rfl fun w=>?_
 refine Si 1000 ?_
 refine aM 3 [] ?_
 refine dS rfl (fN T.one32 rfl qY tL) ?_
 refine dS rfl (Qy.eqlPtrNil rD rfl rfl) ?_
 refine aC 1 [] ?_
 apply dA 5 13 18 rfl
 intro hg1
 refine aC 1 [] ?_
 refine dS rfl (fN T.one3 rfl qY tL) ?_
 refine aC 1 [] ?_
 refine dS rfl (fN T.one3 rfl qY tL) ?_
 refine aC 1 [] ?_
 refine bS rfl (NQ _ _ _) ?_
 refine aC 1 [] ?_
 refine dS rfl (eK rfl) ?_
 refine aC 1 [] ?_
 exact eV 5 0 rfl rfl rfl rfl rfl
 intro hg1
 refine aC 5 [] ?_
 exact eV 5 0 rfl rfl rfl rfl rfl
 refine bP 2 [] ?_
 refine lZ rfl (fun hc1=>?_) fun hc1=>?_
 refine bQ 2 [] ?_
 refine jR (.inr rfl) ?_
 rotate_left
 refine cZ 3 [] ?_
 refine mN [] [] T.mixed rfl ?_
 refine gQ 0 [] rfl (fN T.one3 rfl qY tL) ?_
 refine gQ 1 [] rfl (fN T.one3 rfl qY tL) ?_
 refine eF 2 [] [] ?_
 refine eF 3 [] [] ?_
 refine eF 4 [] [] ?_
 refine pH rD trivial Tv ?_
 refine oS 2 [] ?_
 rotate_left
 · exact absurd qY (show ¬((some (Addr.mk b 0 none)=none)∨¬wE (n1:Int) (n2:Int)) by simp [hok])
 refine Xt (ι:=Nat×Nat×Nat×Nat×ι) 1000 (fun (k,a,a',lv,s)=>([(7,.int .i64 (a:Int)),(8,.int .i64 (a':Int)),(6,.int .i64 (lv:Int)),(0,Go.Value.func (Go.Fn.yield ly) #[] #[]),(1,Go.Value.pointer (Option.some (Go.Addr.mk bm 0 Option.none))),(4,Go.Value.pointer (Option.some (Go.Addr.mk bt 0 Option.none)))],[])) (fun (k,a,a',lv,s)=>J s) (fun (k,a,a',lv,s)=>LevAt k1 k2 u.pl.length th n1 n2 k a a' lv∧inv k s) (fun (k,a,a',lv,s)=>wK k1 k2 th a a') ((0,n1,n2,1,i0)) (⟨LevAt.start hc.a1 hc.b1 hc.a2 hc.b2 hc.n qX,hi0⟩) ⟨rfl,rfl,rfl,rfl,rfl,rfl,trivial⟩ trivial Tw fun ⟨k,a,a',lv,s⟩=>fun hk=>?_
 obtain ⟨hL,hinv⟩:=hk
 have hm2:=hL.2.2.1
 by_cases he:tD a a' k1 k2 th
 · have hN:=hL.next he
   have hlv':=hN.lv c1
   have hlv:=hL.lv c1
   have hbk:=hN.2.2.1
   refine aM 3 [] ?_
   refine dS rfl (fN T.one32 rfl qY tL) ?_
   refine aC 2 [] ?_
   refine dS rfl (fN T.one3 rfl qY tL) ?_
   refine bS rfl (QY _ u h b k1 k2 _ _ _ hu hc qX qX he) ?_
   refine aL 20 [] ?_
   refine Uk (A:=[]) 1000 rfl rfl rfl trivial Tw rfl (hY k _ s (hL.here he) hinv) fun vy Gy Hy hly hp=>?_
   obtain ⟨rfl,s',rfl,hp⟩:=hp
   rcases hp with ⟨rfl,hinv'⟩ | ⟨rfl,hst⟩
   · refine aL 18 [0] ?_
     refine dS rfl (fN T.one32 rfl qY tL) ?_
     refine aC 3 [] ?_
     refine dS rfl (fN T.one22 rfl qY tL) ?_
     refine aC 1 [] ?_
     refine dS rfl (mJ rfl rfl qX) ?_
     refine bA 3 [] ?_
     refine cS 6 rfl (show _=Value.int .i64 ((lv*u.pl.length:Nat):Int) from congrArg _ (cF _ _).symm) ?_
     refine Qu ((k+1,blkP a a' k1 k2,blkP a a' k1 k2,lv*u.pl.length,s')) ?_ ?_ rfl ⟨rfl,rfl,rfl,rfl,rfl,rfl,trivial⟩ trivial Tw
     · exact ⟨hN,hinv'⟩
     exact Ju he
   refine bA 11 [1] ?_
   refine jR (.inr rfl) ?_
   refine Lg (k:=1000) (.inr rfl) rfl Tw ⟨rfl,s',rfl,.inr hst⟩
 skip
 refine aM 3 [] ?_
 refine dS rfl (fN T.one32 rfl qY tL) ?_
 refine aC 2 [] ?_
 refine dS rfl (fN T.one3 rfl qY tL) ?_
 refine bS rfl (QZ _ u h b k1 k2 _ _ _ hu hc qX qX he) ?_
 refine bA 27 [1] ?_
 refine jR (.inr rfl) ?_
 refine Lg (k:=1000) (.inr rfl) rfl Tw ⟨rfl,s,rfl,.inl ?_⟩
 rw [←hL.done he];exact hinv
theorem RA (G:Imm) (b:Nat) (n1 n2 th:Int) (hno:¬wE n1 n2):Does Tryz.prog 32 [.pointer (some ⟨b,0,none⟩),.int .i64 n1,.int .i64 n2,.int .i64 th] G [] (fun v G' Ho=>v=.tuple #[.agg #[.int .i64 0,.int .i64 0,.int .i64 0,.int .i64 0],.int .i64 2]∧G'=G∧Ho=[]):=by
 refine fG Tryz.func32 rfl Tryz.ntmps32 rfl fun w=>?_
 refine aM 2 [] ?_
 refine lK 0 rfl rfl rfl fun b1=>?_
 refine aW 1 rfl T.zero37 fun b2=>?_
 refine aL 8 [0] ?_
 refine dS rfl (Qy.eqlPtrNil rD rfl rfl) ?_
 refine bP 3 [] ?_
 refine lZ rfl (fun hc1=>?_) fun hc1=>?_
 refine aM 2 [] ?_
 refine dS rfl (fI (cs:=[_,_,_,_]) T.st37 rfl rfl rfl) ?_
 refine bA 7 [1] ?_
 rotate_left
 refine aM 4 [] ?_
 refine bS rfl (NQ _ _ _) ?_
 refine dS rfl (eK rfl) ?_
 refine aL 6 [1] ?_
 refine dS rfl (fI (cs:=[_,_,_,_]) T.st37 rfl rfl rfl) ?_
 refine bA 7 [1] ?_
 rotate_left
 · exact absurd qY (show ¬(some (Addr.mk b 0 none)=none) by simp)
 refine Ar.pick [1] rI (oO (.inr rfl) (Ho:=Hp.only _ []) rfl (.agg 0 rfl rfl T.agg37) (.tmp rfl) (bN _ _) ?_)
 exact ⟨rfl,rfl,rfl⟩
theorem RB (G:Imm) (u:UV) (h:UH) (k1 k2:Nat) (hc:Cnt u k1 k2) (b n1 n2:Nat) (th:Int) (hu:CellsAt G b (uC u h)) (h1:n1≤2048) (h2:n2≤2048) (hs:stepsU u≤49152) :
 Does Tryz.prog 32 [.pointer (some ⟨b,0,none⟩),.int .i64 (n1:Int),.int .i64 (n2:Int),.int .i64 th] G [] (fun v G' Ho=>v=.tuple #[.agg (TLv (foreP k1 k2 u.pl.length (stepsU u) th n1 n2)).toArray,.int .i64 0]∧Ho=[]):=by
 have hok:wE (n1:Int) (n2:Int):=by unfold wE;omega
 obtain ⟨c1,c2⟩:=AH hc
 refine pJ Tryz.func32 rfl Tryz.ntmps32 rfl fun w=>?_
 have hp0:0≤(n1:Int)*(n2:Int)∧(n1:Int)*(n2:Int)≤4194304:=by
  rw [←cF]
  have:=iI h1 h2
  omega
 have hs':u.x.code.length+u.y.code.length+u.z.code.length≤49152:=hs
 refine aM 2 [] ?_
 refine lK 0 rfl rfl rfl fun b1=>?_
 refine aW 1 rfl T.zero37 fun b2=>?_
 refine aL 8 [0] ?_
 refine dS rfl (Qy.eqlPtrNil rD rfl rfl) ?_
 refine bP 3 [] ?_
 refine lZ rfl (fun hc1=>?_) fun hc1=>?_
 refine aM 2 [] ?_
 refine dS rfl (fI (cs:=[_,_,_,_]) T.st37 rfl rfl rfl) ?_
 refine bA 7 [1] ?_
 refine jR (.inr rfl) ?_
 rotate_left
 refine aM 4 [] ?_
 refine bS rfl (NQ _ _ _) ?_
 refine dS rfl (eK rfl) ?_
 refine bP 3 [] ?_
 refine lZ rfl (fun hc2=>?_) fun hc2=>?_
 refine aM 2 [] ?_
 refine dS rfl (fI (cs:=[_,_,_,_]) T.st37 rfl rfl rfl) ?_
 refine bA 7 [1] ?_
 refine jR (.inr rfl) ?_
 rotate_left
 refine aM 5 [] ?_
 refine aW 2 rfl T.zero37 fun b3=>?_
 refine bP 3 [] ?_
 refine mN [0,1,2] [] T.mixed rfl ?_
 refine eF 0 [0] [0] ?_
 refine eF 1 [] [] ?_
 refine eF 2 [] [] ?_
 refine eF 3 [] [] ?_
 refine eF 4 [] [] ?_
 refine gQ 5 [] rfl (fN T.one23 rfl qY tL) ?_
 refine eF 6 [] [] ?_
 refine eF 7 [0] [0] ?_
 refine eF 8 [] [] ?_
 refine eF 9 [] [] ?_
 refine eF 10 [] [] ?_
 refine eF 11 [] [] ?_
 refine gQ 12 [] rfl (fN T.one23 rfl qY tL) ?_
 refine eF 13 [] [] ?_
 refine eF 14 [] [] ?_
 refine eF 15 [0] [0] ?_
 refine eF 16 [] [] ?_
 refine eF 17 [] [] ?_
 refine eF 18 [] [] ?_
 refine eF 19 [] [] ?_
 refine gQ 20 [] rfl (fN T.one23 rfl qY tL) ?_
 refine eF 21 [] [] ?_
 refine eF 22 [] [] ?_
 refine gC 23 ?_
 refine aW 3 rfl T.zero3 fun b4=>?_
 refine eU ?_
 refine gC 24 ?_
 refine aC 1 [3] ?_
 refine eU ?_
 refine eI ?_
 refine pX 5 [] ?_
 refine dS rfl (mJ rfl rfl qX) ?_
 refine aW 4 rfl T.zero3 fun b5=>?_
 refine aL 5 [4] ?_
 refine aW 5 rfl T.zero3 fun b6=>?_
 refine aL 10 [5,0] ?_
 refine cX 6 rfl (QX _ _ _ _ _) fun v1 G1 Ho1 hle1 hp=>?_
 obtain ⟨fm1,fa1,fb1,ft1,rfl,hfm1,hfa1,hfb1,hft1,rfl⟩:=hp
 replace hu:=hu.up hle1
 refine bP 3 [] ?_
 rotate_left
 · exact absurd qY (show ¬(some (Addr.mk b 0 none)=none) by simp)
 · exact absurd hok qY
 refine qQ 5 (.cells #[.int .i64 ((1:Nat):Int)] 3) rfl rfl ?_
 refine qQ 4 (.cells #[.int .i64 ((n1*n2:Nat):Int)] 3) rfl (by rw [cF];rfl) ?_
 refine qQ 3 (.cells #[.int .i64 ((stepsU u:Nat):Int)] 3) rfl (by unfold stepsU;rw [iX,iX];rfl) ?_
 refine qQ 2 (.cells #[.int .i64 ((0:Nat):Int),.int .i64 ((0:Nat):Int),.int .i64 0,.int .i64 ((0:Nat):Int)] 37) rfl rfl ?_
 refine mM (ι:=FS) 900 901 (fun s=>[(5,some b6,.cells #[.int .i64 (s.c:Int)] 3),(4,some b5,.cells #[.int .i64 (s.la:Int)] 3),(2,some b3,.cells #[.int .i64 (s.lv:Int),.int .i64 (s.ca:Int),.int .i64 0,.int .i64 (s.st:Int)] 37),(3,Option.some b4,Go.Obj.cells #[Go.Value.int Go.IntKind.i64 (↑(Go.Proofs.YtngphgeghfdjbaaGreatDoor.stepsU u):Int)] 3),(1,Option.some b2,Go.Obj.cells #[Go.Value.int Go.IntKind.i64 0,Go.Value.int Go.IntKind.i64 0,Go.Value.int Go.IntKind.i64 0,Go.Value.int Go.IntKind.i64 0] 37),(0,Option.some b1,Go.Obj.cells #[Go.Value.pointer (Option.some (Go.Addr.mk b 0 Option.none))] 32)]) (fun k s=>s=((wD k1 k2 u.pl.length th n1 n2 1).take k).foldl (sO u.pl.length (stepsU u)) ⟨1,n1*n2,0,0,0⟩) (fun c s=>False) (⟨1,n1*n2,0,0,0⟩) rfl T.fn85 (fun _=>rfl) rfl (LH _ u h k1 k2 hc b fm1 fa1 fb1 ft1 n1 n2 th hu hfm1 hfa1 hfb1 hft1 h1 h2) (by rw [bY];rfl) (pF ⟨rfl,rfl,rfl,rfl,rfl,rfl,trivial⟩) ⟨rfl,fun _=>rfl⟩ (fun k x s l dd q w0 hx hi=>?_) (fun s dd hi=>?_) fun s dd c hi=>?_
 · obtain ⟨q1,q2,q3,q4,q5⟩:=Qw hc.a1 hc.b1 hc.a2 hc.b2 hc.n qX hs hx hi
   refine bQ 8 [] ?_
   refine Fa 900 rfl ?_
   refine aM 8 [0] ?_
   refine dS rfl (fN T.one22 rfl qY tL) ?_
   refine aC 1 [] ?_
   refine dS rfl (mJ rfl rfl qX) ?_
   refine aL 29 [5,2,2,2,5,2,2,3] ?_
   refine dS rfl (mJ rfl rfl qX) ?_
   refine aL 8 [2] ?_
   refine dS rfl (mJ rfl rfl qX) ?_
   refine bA 3 [4] ?_
   refine gT 5 (.cells #[.int .i64 ((sO u.pl.length (stepsU u) s x).c:Int)] 3) rfl (by rw [show (((sO u.pl.length (stepsU u) s x).c:Nat):Int)=(x.2:Int)*(u.pl.length:Int) from cF _ _];rfl) ?_
   refine gT 4 (.cells #[.int .i64 ((sO u.pl.length (stepsU u) s x).la:Int)] 3) rfl (by rw [show (((sO u.pl.length (stepsU u) s x).la:Nat):Int)=(x.1:Int)*(x.1:Int) from cF _ _];rfl) ?_
   refine gT 2 (.cells #[.int .i64 ((sO u.pl.length (stepsU u) s x).lv:Int),.int .i64 ((sO u.pl.length (stepsU u) s x).ca:Int),.int .i64 0,.int .i64 ((sO u.pl.length (stepsU u) s x).st:Int)] 37) rfl (by rw [show (((sO u.pl.length (stepsU u) s x).lv:Nat):Int)=(s.lv:Int)+(x.2:Int) from iX _ _,show (((sO u.pl.length (stepsU u) s x).ca:Nat):Int)=(s.ca:Int)+(x.2:Int)*(u.pl.length:Int) from by rw [←cF];exact iX _ _,show (((sO u.pl.length (stepsU u) s x).st:Nat):Int)=(s.st:Int)+(x.2:Int)*(stepsU u:Int) from by rw [←cF];exact iX _ _];rfl) ?_
   refine pK none (.inl ⟨rfl,rfl⟩) 900 rfl ⟨rfl,(sO u.pl.length (stepsU u) s x,none),rfl,.inl ⟨rfl,rfl,?_⟩⟩ (pF ⟨rfl,rfl,rfl,rfl,rfl,rfl,rfl,rfl,trivial⟩)
   rw [Js _ hx,←hi]
 · obtain ⟨f1,f2,f3,f4⟩:=Ce (st:=stepsU u) (th:=th) hc.a1 hc.b1 hc.a2 hc.b2 hc.n (show max n1 n2≤2048 by omega) hs
   obtain ⟨g1,g2,g3,g4⟩:=Cc k1 k2 u.pl.length (stepsU u) th _ n1 n2 1 ⟨1,n1*n2,0,0,0⟩ (aE _) rfl rfl
   rw [fK] at hi
   rw [←hi] at g1 g2 g3 g4
   dsimp only at g1 g2 g3
   have hcl:(s.c:Int)*(s.la:Int)=((foreP k1 k2 u.pl.length (stepsU u) th n1 n2).pr:Int):=by rw [←cF,g4,mG]
   generalize foreP k1 k2 u.pl.length (stepsU u) th n1 n2=t at *
   have hb0:0≤(s.c:Int)*(s.la:Int)∧(s.c:Int)*(s.la:Int)≤131621703842267136:=by rw [hcl];omega
   refine pX 6 [5,4] ?_
   refine dS rfl (mJ rfl rfl qX) ?_
   refine bA 12 [2,2,1] ?_
   refine lY (.inr rfl) 901 rfl ?_
   refine jR (.inr rfl) ?_
   refine Ar.base (Ar.pick [1] rI (oO (.inr rfl) (Ho:=Hp.only _ []) rfl (.agg 0 rfl rfl T.agg37) (.tmp rfl) (bN _ _) ?_))
   refine ⟨?_,rfl⟩
   show Value.tuple #[.agg #[.int .i64 (s.lv:Int),.int .i64 (s.ca:Int),.int .i64 ((s.c:Int)*(s.la:Int)),.int .i64 (s.st:Int)],.int .i64 0]=_
   rw [hcl,g1,g2,g3]
   unfold TLv
   simp only [bO,mG]
 exact hi.elim
end
theorem LI (G:Imm) (a:Option Addr) (c:Nat) (xs:List Int) (hx:Arr G a xs) (hl:xs.length≤1099511627776) :
 Does Tryz.prog 175 [.slice a xs.length c] G [] (fun v G' Ho=>∃ b d j,v=.slice b xs.length d∧OwnA b d xs j∧Ho=[(0,b.map (·.block),rP 3 xs j)]∧G'=G):=by
 refine D0 Tryz.func175 Tryz.ntmps175 fun w=>?_
 refine aM 9 [] ?_
 refine aP (fA T.sl24 rfl rfl) ?_
 refine bP 2 [] ?_
 refine eX (fun hc1=>?_) fun hc1=>?_
 refine bQ 7 [] ?_
 rotate_left
 refine aM 4 [] ?_
 refine pM 0 rfl T.sl24 fun b1=>?_
 refine aC 1 [] ?_
 rotate_left
 · subst hc1
   have hn:xs=[]:=by
    rcases hx.2 with h | ⟨b,o,h,_⟩
    · exact cA h
    cases h
   subst hn
   refine Bu 0 (rP 3 ([]:List Int) []) ?_
   refine pW [0] ?_
   exact ⟨none,0,[],rfl,gF,rfl,rfl⟩
 refine mZ 0 (rP 3 ([]:List Int) []) rfl rfl ?_
 refine lL (α:=Int) 0 rfl T.sl24 T.el3 rfl rfl rfl (iG rV) (oG qY) (by simp only [cE];omega) (by simp only [cE,maxLen];omega) fun a1 c1 junk1 ho1=>?_
 refine bA 4 [] ?_
 refine pW [0] ?_
 exact ⟨_,_,_,rfl,ho1,rfl,rfl⟩
theorem LJ (G:Imm) (a:Option Addr) (c:Nat) (xs:List Sl.Instr) (hx:Arr G a xs) (hl:xs.length≤1099511627776) :
 Does Tryz.prog 174 [.slice a xs.length c] G [] (fun v G' Ho=>∃ b d j,v=.slice b xs.length d∧OwnA b d xs j∧Ho=[(0,b.map (·.block),rP 211 xs j)]∧G'=G):=by
 refine D0 Tryz.func174 Tryz.ntmps174 fun w=>?_
 refine aM 9 [] ?_
 refine aP (fA T.sl23 rfl rfl) ?_
 refine bP 2 [] ?_
 refine eX (fun hc1=>?_) fun hc1=>?_
 refine bQ 7 [] ?_
 rotate_left
 refine aM 4 [] ?_
 refine pM 0 rfl T.sl23 fun b1=>?_
 refine aC 1 [] ?_
 rotate_left
 · subst hc1
   have hn:xs=[]:=by
    rcases hx.2 with h | ⟨b,o,h,_⟩
    · exact cA h
    cases h
   subst hn
   refine Bu 0 (rP 211 ([]:List Sl.Instr) []) ?_
   refine pW [0] ?_
   exact ⟨none,0,[],rfl,gF,rfl,rfl⟩
 refine mZ 0 (rP 211 ([]:List Sl.Instr) []) rfl rfl ?_
 refine lL (α:=Sl.Instr) 0 rfl T.sl23 T.el211 rfl rfl rfl (iG rV) (oG qY) (by simp only [cE];omega) (by simp only [cE,maxLen];omega) fun a1 c1 junk1 ho1=>?_
 refine bA 4 [] ?_
 refine pW [0] ?_
 exact ⟨_,_,_,rfl,ho1,rfl,rfl⟩
theorem AI (G:Imm) (p:PV) (ac ao:Option Addr) (cc co:Nat) (hc:Arr G ac p.code) (ho:Arr G ao p.outs) (h1:p.code.length≤1099511627776) (h2:p.outs.length≤1099511627776) :
 Does Tryz.prog 125 [.agg #[.int .i64 p.ins,.int .i64 p.regs,.slice ac p.code.length cc,.slice ao p.outs.length co]] G [] (fun v G' Ho=>∃ bc bo dc do_ j1 j2,v=.agg #[.int .i64 p.ins,.int .i64 p.regs,.slice bc p.code.length dc,.slice bo p.outs.length do_]∧
  OwnA bc dc p.code j1∧OwnA bo do_ p.outs j2∧Ho=[(0,bc.map (·.block),rP 211 p.code j1),(1,bo.map (·.block),rP 3 p.outs j2)]∧G'=G):=by
 refine D0 Tryz.func125 Tryz.ntmps125 fun w=>?_
 refine aM 2 [] ?_
 refine dY 0 fun b1=>?_
 refine aW 1 rfl T.zero26 fun b2=>?_
 refine bP 3 [] ?_
 refine eZ [0,1] [(0,9),(0,7)] T.mixed [[0],[1,0],[3],[4,0]] ?_
 refine gC 2 ?_
 refine cX 2 rfl (LJ _ _ _ _ qY qX) fun v1 G1 Ho1 hle1 hp=>?_
 obtain ⟨lb1,ld1,lj1,rfl,hlb1,rfl,rfl⟩:=hp
 refine eU ?_
 refine fE [[6]] ?_
 refine gC 5 ?_
 refine cX 3 rfl (LI _ _ _ _ qY qX) fun v2 G2 Ho2 hle2 hp=>?_
 obtain ⟨lb2,ld2,lj2,rfl,hlb2,rfl,rfl⟩:=hp
 refine cT 7 ?_
 refine aC 1 [0] ?_
 refine eU ?_
 refine fE [[8]] ?_
 refine gC 9 ?_
 refine aC 1 [0] ?_
 refine jC ?_
 refine iN 8 [0,1] ?_
 refine Ar.pick [2,3,1] rI (eH (.inr rfl) (Ho:=Hp.only _ [0,1]) rfl (.agg 2 rfl rfl T.agg26) (bN _ _) ?_)
 exact ⟨_,_,_,_,_,_,rfl,hlb1,hlb2,rfl,rfl⟩
theorem Vv {k1 k2:Int} {l:List R2} {x y z:PV} (h:(sJ k1 k2 l x y z).2=0):sJ k1 k2 l x y z=(0,0):=by
 unfold sJ at h ⊢
 split
 · rename_i hW;rw [aT hW] at h;exact absurd h hW
 rename_i hW
 rw [aF hW] at h
 repeat' split at h
 all_goals first | (exact absurd h rI) | skip
 rw [aF qY,aF qY,aF qY,aF qY,aF qY,aF qY]
section
attribute [local irreducible] sJ
theorem c70 (G:Imm) (u:UV) (h:UH) (i:UIn G u h) (m:MidU u) :
 Does Tryz.prog 70 [.agg (uC u h).toArray] G [] (fun v G' Ho=>∃ (h':UH) (j:UJ),v=.agg (uC u h').toArray∧UOwn u h' j∧Ho=AE 0 u h' j∧G'=G):=by
 obtain ⟨k1,k2,pl,xp,yp,zp⟩:=u
 obtain ⟨pa,pc,xa,xc,xo,xd,ya,yc,yo,yd,za,zc,zo,zd⟩:=h
 obtain ⟨hcap,hpa,hxc,hxo,hyc,hyo,hzc,hzo⟩:=i
 obtain ⟨hpl,hx1,hx2,hy1,hy2,hz1,hz2⟩:=m
 dsimp only at *
 unfold uC
 dsimp only
 refine fG Tryz.func70 rfl Tryz.ntmps70 rfl fun w=>?_
 refine aM 2 [] ?_
 refine lK 0 rfl rfl rfl fun b1=>?_
 refine aW 1 rfl T.zero28 fun b2=>?_
 refine aL 6 [0] ?_
 refine cX 2 rfl (c25 _ _ _ _ qY qX) fun v1 G1 Ho1 hle1 hp=>?_
 obtain ⟨s1,d1,j1,rfl,hs1,rfl,rfl⟩:=hp
 refine aL 10 [0] ?_
 refine dS rfl (qS (cs:=[_,_,_]) T.ar205 rfl rfl rfl) ?_
 refine bP 4 [] ?_
 refine Fc (lA ?_)
 refine aM 13 [1] ?_
 refine dS rfl (Ez.Qy.indexV (n:=3) (E:=150) rD rD rD rfl rfl rI rfl) ?_
 refine aL 7 [] ?_
 refine dS rfl (fM 0 T.agg26 rfl rfl rfl rfl) ?_
 refine cX 3 rfl (AI _ xp _ _ _ _ qY qY qX qX) fun v2 G2 Ho2 hle2 hp=>?_
 obtain ⟨a2,o2,c2,d2,j2,m2,rfl,hc2,ho2,rfl,rfl⟩:=hp
 refine aC 1 [] ?_
 refine qP 0 T.size26 rfl rfl rfl rfl rfl rfl ?_
 refine bA 7 [] ?_
 refine cS 13 rfl (show _=Value.int .i64 (1:Int) from rfl) ?_
 refine pR (lA ?_)
 refine aM 13 [1] ?_
 refine dS rfl (Ez.Qy.indexV (n:=3) (E:=150) rD rD rD rfl rfl rI rfl) ?_
 refine aL 7 [] ?_
 refine dS rfl (fM 0 T.agg26 rfl rfl rfl rfl) ?_
 refine cX 5 rfl (AI _ yp _ _ _ _ qY qY qX qX) fun v3 G3 Ho3 hle3 hp=>?_
 obtain ⟨a3,o3,c3,d3,j3,m3,rfl,hc3,ho3,rfl,rfl⟩:=hp
 refine aC 1 [] ?_
 refine qP 0 T.size26 rfl rfl rfl rfl rfl rfl ?_
 refine bA 7 [] ?_
 refine cS 13 rfl (show _=Value.int .i64 (2:Int) from rfl) ?_
 refine pR (lA ?_)
 refine aM 13 [1] ?_
 refine dS rfl (Ez.Qy.indexV (n:=3) (E:=150) rD rD rD rfl rfl rI rfl) ?_
 refine aL 7 [] ?_
 refine dS rfl (fM 0 T.agg26 rfl rfl rfl rfl) ?_
 refine cX 7 rfl (AI _ zp _ _ _ _ qY qY qX qX) fun v4 G4 Ho4 hle4 hp=>?_
 obtain ⟨a4,o4,c4,d4,j4,m4,rfl,hc4,ho4,rfl,rfl⟩:=hp
 refine aC 1 [] ?_
 refine qP 0 T.size26 rfl rfl rfl rfl rfl rfl ?_
 refine bA 7 [] ?_
 refine cS 13 rfl (show _=Value.int .i64 (3:Int) from rfl) ?_
 refine pR (lA ?_)
 refine bQ 19 [0,0,1] ?_
 refine Ar.pick [2,3,4,5,6,7,8,1] rI (eH (.inr rfl) (Ho:=Hp.only _ [0,1,2,3,4,5,6]) rfl (.agg 7 rfl rfl T.agg28) (bN _ _) ?_)
 exact ⟨⟨s1,d1,a2,c2,o2,d2,a3,c3,o3,d3,a4,c4,o4,d4⟩,⟨j1,j2,m2,j3,m3,j4,m4⟩,rfl,⟨hs1,hc2,ho2,hc3,ho3,hc4,ho4⟩,rfl,rfl⟩
theorem c18 (G:Imm) (u:UV) (h:UH) (i:UIn G u h) (m:MidU u) :
 Does Tryz.prog 18 [.agg (uC u h).toArray] G [] (fun v G' Ho =>
  ((sJ u.k1 u.k2 u.pl u.x u.y u.z).2≠0∧v=.tuple #[.pointer none,.int .i64 (sJ u.k1 u.k2 u.pl u.x u.y u.z).2]∧Ho=[])∨
  ((sJ u.k1 u.k2 u.pl u.x u.y u.z).2=0∧∃ (b:Nat) (h':UH) (j:UJ),v=.tuple #[.pointer (some ⟨b,0,none⟩),.int .i64 0]∧UOwn u h' j∧Ho=(0,some b,.cells (uC u h').toArray 127) :: AE 1 u h' j)):=by
 refine fG Tryz.func18 rfl Tryz.ntmps18 rfl fun w=>?_
 refine aM 2 [] ?_
 refine lK 0 rfl rfl rfl fun b1=>?_
 refine aL 7 [0] ?_
 refine cX 1 rfl (QR _ u h i m) fun v1 G1 Ho1 hle1 hp=>?_
 obtain ⟨rfl,rfl⟩:=hp
 replace i:=i.up hle1
 refine bP 14 [] ?_
 refine lZ rfl (fun hc1=>?_) fun hc1=>?_
 refine bQ 9 [] ?_
 rotate_left
 refine aM 5 [0] ?_
 refine cX 1 rfl (c70 _ u h i m) fun v2 G2 Ho2 hle2 hp=>?_
 obtain ⟨h2,j2,rfl,ho2,rfl,rfl⟩:=hp
 refine dS rfl (fI (cs:=[_,_,_,_,_,_,_,_,_,_,_,_,_,_,_]) T.st127 rfl rfl rfl) ?_
 refine lK 8 rfl rfl rfl fun b2=>?_
 refine bA 5 [] ?_
 rotate_left
 · refine eJ ?_
   exact .inl ⟨hc1,rfl,rfl⟩
 refine Ar.pick [8,1,2,3,4,5,6,7] rI (oO (.inr rfl) (Ho:=Hp.only _ [0,1,2,3,4,5,6,7]) rfl (.tmp rfl) (.tmp rfl) (bN _ _) ?_)
 exact .inr ⟨gD.1 hc1,b2,h2,j2,rfl,ho2,rfl⟩
end
theorem RC (G:Imm) (u:UV) (h:UH) (i:UIn G u h) (m:MidU u) (hU:(sJ u.k1 u.k2 u.pl u.x u.y u.z).2=0) :
 Does Tryz.prog 18 [.agg (uC u h).toArray] G [] (fun v G' Ho=>∃ (b:Nat) (h':UH) (j:UJ),v=.tuple #[.pointer (some ⟨b,0,none⟩),.int .i64 0]∧UOwn u h' j∧Ho=(0,some b,.cells (uC u h').toArray 127) :: AE 1 u h' j):=
 (c18 G u h i m).mono fun v G' Ho _ hp=>hp.elim (fun k=>absurd hU k.1) fun k=>k.2
theorem RD (G:Imm) (u:UV) (h:UH) (i:UIn G u h) (m:MidU u) (hU:¬(sJ u.k1 u.k2 u.pl u.x u.y u.z).2=0) :
 Does Tryz.prog 18 [.agg (uC u h).toArray] G [] (fun v G' Ho=>v=.tuple #[.pointer none,.int .i64 (sJ u.k1 u.k2 u.pl u.x u.y u.z).2]∧Ho=[]):=
 (c18 G u h i m).mono fun v G' Ho _ hp=>hp.elim (fun k=>k.2) fun k=>absurd k.1 hU
structure BigU (u:UV):Prop where
 pl:u.pl.length≤1048576
 x1:u.x.code.length≤1048576
 x2:u.x.outs.length≤1048576
 y1:u.y.code.length≤1048576
 y2:u.y.outs.length≤1048576
 z1:u.z.code.length≤1048576
 z2:u.z.outs.length≤1048576
def hX (p:PV) (a:Option Addr) (c:Nat) (o:Option Addr) (d:Nat):PH:=⟨p.ins,p.regs,a,p.code.length,c,o,p.outs.length,d⟩
def Sz (u:UV) (h:UH):Bool:=Dd u.pl.length [hX u.x h.xa h.xc h.xo h.xd,hX u.y h.ya h.yc h.yo h.yd,hX u.z h.za h.zc h.zo h.zd]
theorem AJ {u:UV} {h:UH} (b:BigU u) (hl:Sz u h=false):MidU u∧u.x.code.length+u.y.code.length+u.z.code.length≤600∧u.pl.length≤15:=by
 unfold Sz Dd at hl
 simp only [Bool.or_eq_false_iff,dE,bK,iQ,List.sum_cons,List.sum_nil,hX] at hl
 exact ⟨⟨b.pl,by omega,b.x2,by omega,b.y2,by omega,b.z2⟩,by omega,by omega⟩
theorem RE (G:Imm) (u:UV) (h:UH) (b:BigU u):Does Tryz.prog 17 [.agg (uC u h).toArray] G [] (fun v G' Ho=>v=.bool (Sz u h)∧G'=G∧Ho=[]):=
 c17 G u.k1 u.k2 h.pa u.pl.length h.pc (hX u.x h.xa h.xc h.xo h.xd) (hX u.y h.ya h.yc h.yo h.yd) (hX u.z h.za h.zc h.zo h.zd) (aK b.x1 rI) (aK b.y1 rI) (aK b.z1 rI)
def Om (i:Sl.Instr):Prop:=i.op=1∧i.to=i.a
instance (i:Sl.Instr):Decidable (Om i):=inferInstanceAs (Decidable (_∧_))
theorem c35 (G:Imm) (xs ys:List Int) (a b:Option Addr) (c d:Nat) (hx:Arr G a xs) (hy:Arr G b ys) (h1:xs.length≤1099511627776) (h2:ys.length≤1099511627776) :
 Does Tryz.prog 35 [.slice a xs.length c,.slice b ys.length d] G [] (fun v G' Ho=>v=.bool (decide (xs=ys))∧G'=G∧Ho=[]):=by
 refine D0 Tryz.func35 Tryz.ntmps35 fun w=>?_
 refine cZ 15 [] ?_
 refine eX (fun hc1=>?_) fun hc1=>?_
 refine bQ 7 [] ?_
 refine cI ?_
 rotate_left
 refine cZ 11 [] ?_
 rotate_left
 · have:xs≠ys:=by rintro rfl;exact hc1 rfl
   exact ⟨by simp [this],rfl,rfl⟩
 have hl:xs.length=ys.length:=qX
 clear hc1
 refine iE (ι:=Nat) (fun k=>([(13,.int .i64 (k:Int)),(12,Go.Value.int Go.IntKind.i64 (↑(List.length xs):Int)),(0,Go.Value.slice a (List.length xs) c),(1,Go.Value.slice b (List.length ys) d)],[])) (fun k=>k≤xs.length∧xs.take k=ys.take k) (fun k=>xs.length - k) (0) (⟨aZ _,rfl⟩) fun k=>fun hk=>?_
 obtain ⟨hk1,hk2⟩:=hk
 refine cZ 6 [] ?_
 refine eX (fun hc1=>?_) fun hc1=>?_
 refine cZ 11 [] ?_
 refine mN [] [] T.mixed rfl ?_
 refine Gm.q 0 [] rD rfl rfl (mO rfl) ?_
 refine Gm.q 1 [] rD rfl rfl (mO rfl) ?_
 refine Gm.q 2 [] rD rfl rfl (Qy.at (α:=Int) T.sl24 rfl rfl qY qX) ?_
 refine Gm.q 3 [] rD rfl rfl (dH T.one3 rfl (oE qY qX 0 rfl rfl)) ?_
 refine Gm.q 4 [] rD rfl rfl (mO rfl) ?_
 refine Gm.q 5 [] rD rfl rfl (mO rfl) ?_
 refine Gm.q 6 [] rD rfl rfl (Qy.at (α:=Int) T.sl24 rfl rfl qY qX) ?_
 refine Gm.q 7 [] rD rfl rfl (dH T.one3 rfl (oE qY qX 0 rfl rfl)) ?_
 refine Gm.q 8 [] rD rfl rfl (Qy.neq rfl rfl) ?_
 refine pH rD trivial (by first | exact cC _ | assumption | (refine bI ?_ qY;first | assumption | (refine bI ?_ qY;assumption))) ?_
 refine bW ?_
 refine eX (fun hc2=>?_) fun hc2=>?_
 refine bQ 11 [] ?_
 refine cI ?_
 rotate_left
 refine bQ 7 [] ?_
 rotate_left
 refine bQ 11 [] ?_
 refine cI ?_
 rotate_left
 · have:xs≠ys:=by rintro rfl;exact hc2 rfl
   exact ⟨by simp [this],rfl,rfl⟩
 · refine dX (k+1) ?_ ?_
   · exact ⟨by omega,Lr qX qX hk2 (gD.1 hc2)⟩
   omega
 have hk:k=xs.length:=qX
 subst hk
 rw [fK,hl,fK] at hk2
 exact ⟨by simp [hk2],rfl,rfl⟩
theorem GO (G:Imm) (u:UV) (h:UH) (i:UIn G u h) (m:MidU u) (hU:(sJ u.k1 u.k2 u.pl u.x u.y u.z).2=0) :
 Does Tryz.prog 18 [.agg (uC u h).toArray] G [] (fun v G' Ho=>∃ (b:Nat) (h':UH),v=.tuple #[.pointer (some ⟨b,0,none⟩),.int .i64 0]∧CellsAt G' b (uC u h')∧UIn G' u h'∧Ho=[]):=
 (RC G u h i m hU).frzAll.mono fun v G' Ho _ ⟨G0,Ho0,⟨b,h',j,e,hm,e2⟩,hle,hB,e3⟩=>by
  subst e2
  exact ⟨b,h',e,oM (hB 0 b _ rfl),hm.lent hB (t:=1) rfl rfl rfl rfl rfl rfl rfl,e3⟩
theorem LK (G:Imm) (n1 n2 k1 k2:Nat) (q1 q2 th:Int) (e1:q1=(k1:Int)) (e2:q2=(k2:Int)) (h1:n1≤4096) (h2:n2≤4096) (h3:1≤k1∧k1≤8) (h4:1≤k2∧k2≤8) :
 Does Tryz.prog 30 [.int .i64 (n1:Int),.int .i64 (n2:Int),.int .i64 q1,.int .i64 q2,.int .i64 th] G [] (fun v G' Ho=>v=.bool (decide (tD n1 n2 k1 k2 th))∧G'=G∧Ho=[]):=by
 subst e1 e2
 exact QW G n1 n2 k1 k2 th h1 h2 h3 h4
theorem RF (G:Imm) (n1 n2 k1 k2:Nat) (q1 q2:Int) (e1:q1=(k1:Int)) (e2:q2=(k2:Int)) (h1:n1≤4096) (h2:n2≤4096) (h3:1≤k1∧k1≤8) (h4:1≤k2∧k2≤8) :
 Does Tryz.prog 34 [.int .i64 (n1:Int),.int .i64 (n2:Int),.int .i64 q1,.int .i64 q2] G [] (fun v G' Ho=>v=.int .i64 (blkP n1 n2 k1 k2:Int)∧G'=G∧Ho=[]):=by
 subst e1 e2
 exact QV G n1 n2 k1 k2 h1 h2 h3 h4
section
attribute [local irreducible] sJ Sz rM wE blkP tD
theorem AK {P:Program} {B:Bs} {e:Env} {D:List Deferred} {H:Hp} {G:Imm} {ι:Type} {r:Option Nat} {x y:Code} {Q:Exit→Act→World→Prop} (I:ι→Env×Hp) (K:ι→List Deferred) (J:ι→Imm) (φ:ι→Prop)
 (h1:Wc r P x B ⟨e,D,H,G⟩ (Exit.then (DK B (fun i=>⟨(I i).1,K i,(I i).2,J i⟩) φ) Q)) (h2:∀ i,φ i→Wc r P y B ⟨(I i).1,K i,(I i).2,J i⟩ Q):Wc r P (.seq x y) B ⟨e,D,H,G⟩ Q:=by
 refine cO fun a w hh b k cs hro hb hr=>?_
 obtain ⟨ex,a',w',hq,ha⟩:=h1 a w hh b k cs hro hb hr
 refine ⟨ex,a',w',?_,ha⟩
 cases ex with
 | normal=>obtain ⟨j,hj,hI⟩:=hq;exact h2 j hj a' w' hI
 | _=>exact hq
theorem c6 (hWorks:∀ G,TabOk G→Does Tryz.prog 16 [] G [] (fun v G' Ho=>v=.bool (decide (1=1))∧G'=G∧Ho=[])) (G:Imm) (hT:TabOk G) (u:UV) (h:UH) (i:UIn G u h) (hB:BigU u) (n1 n2 th early:Int) :
 Does Tryz.prog 6 [.agg (uC u h).toArray,.int .i64 n1,.int .i64 n2,.int .i64 th,.int .i64 early] G [] (fun v G' Ho=>v=.bool true∧Ho=[]):=by
 refine pJ Tryz.func6 rfl Tryz.ntmps6 rfl fun w=>?_
 refine aM 2 [] ?_
 refine lK 0 rfl rfl rfl fun b1=>?_
 refine lK 1 rfl rfl rfl fun b2=>?_
 refine aL 6 [] ?_
 refine bS rfl (hWorks _ hT) ?_
 refine dS rfl (eK rfl) ?_
 refine aL 9 [0,0] ?_
 refine bS rfl (RE _ u h hB) ?_
 refine bP 2 [] ?_
 refine Bo rfl (fun hc1=>?_) fun hc1=>?_
 refine bQ 7 [] ?_
 refine jR (.inr rfl) ?_
 rotate_left
 refine aM 5 [0] ?_
 rotate_left
 · refine cI ?_
   exact ⟨rfl,rfl⟩
 obtain ⟨m,hlen,hpl15⟩:=AJ (u:=u) (h:=h) hB qY
 by_cases hU:(sJ u.k1 u.k2 u.pl u.x u.y u.z).2=0
 case neg =>
  refine cX 2 rfl (RD _ u h i m hU) fun v1 G1 Ho1 hle1 hp=>?_
  obtain ⟨rfl,rfl⟩:=hp
  replace i:=i.up hle1
  refine aL 18 [1] ?_
  refine dS rfl (Qy.eqlPtrNil rD rfl rfl) ?_
  refine bA 5 [] ?_
  refine jR (.inr rfl) ?_
  refine cI ?_
  exact ⟨by simp,rfl⟩
 case pos =>
  obtain ⟨k1,k2,hc⟩:=AG (Vv hU)
  by_cases hok:wE n1 n2
  case neg =>
   refine cX 2 rfl (GO _ u h i m hU) fun v1 G1 Ho1 hle1 hp=>?_
   obtain ⟨bm1,hm1,rfl,hM1,hI1,rfl⟩:=hp
   replace i:=i.up hle1
   refine aL 23 [0] ?_
   refine bS rfl (RA _ _ _ _ _ hok) ?_
   refine aC 3 [] ?_
   refine aW 2 rfl T.zero37 fun b3=>?_
   refine aL 6 [2] ?_
   refine aW 3 rfl T.zero3 fun b4=>?_
   refine aL 9 [3] ?_
   refine cX 4 rfl (QX _ _ _ _ _) fun v2 G2 Ho2 hle2 hp=>?_
   obtain ⟨fm2,fa2,fb2,ft2,rfl,hfm2,hfa2,hfb2,hft2,rfl⟩:=hp
   replace hM1:=hM1.up hle2
   replace hI1:=hI1.up hle2
   replace i:=i.up hle2
   refine bP 3 [] ?_
   refine qQ 3 (.cells #[.int .i64 ((0:Nat):Int)] 3) rfl rfl ?_
   refine cZ 7 [] ?_
   refine mM (ι:=Nat) 900 901 (fun n=>[(3,some b4,.cells #[.int .i64 (n:Int)] 3),(2,Option.some b3,Go.Obj.cells #[Go.Value.int Go.IntKind.i64 0,Go.Value.int Go.IntKind.i64 0,Go.Value.int Go.IntKind.i64 0,Go.Value.int Go.IntKind.i64 0] 37),(1,Option.some b2,Go.Obj.cells #[Go.Value.int Go.IntKind.i64 early] 3),(0,Option.some b1,Go.Obj.cells (List.toArray (Go.Proofs.YtngphgeghfdjbaaGreatDoor.uC u h)) 28)]) (fun k n=>True) (fun c n=>False) (0) rfl T.fn85 (fun _=>rfl) rfl (LG _ _ n1 n2 fm2 fa2 fb2 ft2 hfm2 hfa2 hfb2 hok) (trivial) (pF ⟨rfl,rfl,rfl,rfl,trivial⟩) ⟨rfl,fun _=>rfl⟩ (fun k x n l dd q w0 hx hi=>?_) (fun n dd hi=>?_) fun n dd c hi=>?_
   · exact absurd hx rV
   · refine pX 4 [] ?_
     refine aW 902 rfl T.zero24 fun b5=>?_
     refine bP 10 [] ?_
     refine mM (ι:=Unit) 920 921 (fun s=>[(902,Option.some b5,Go.Obj.cells #[Go.Value.slice Option.none 0 0] 24),(901,Option.some dd,Go.Obj.deferred (Option.some [])),(3,Option.some b4,Go.Obj.cells #[Go.Value.int Go.IntKind.i64 (↑n:Int)] 3),(2,Option.some b3,Go.Obj.cells #[Go.Value.int Go.IntKind.i64 0,Go.Value.int Go.IntKind.i64 0,Go.Value.int Go.IntKind.i64 0,Go.Value.int Go.IntKind.i64 0] 37),(1,Option.some b2,Go.Obj.cells #[Go.Value.int Go.IntKind.i64 early] 3),(0,Option.some b1,Go.Obj.cells (List.toArray (Go.Proofs.YtngphgeghfdjbaaGreatDoor.uC u h)) 28)]) (fun k s=>True) (fun c s=>False) (()) rfl T.fn85 (fun _=>rfl) rfl (LG _ _ n1 n2 fm2 fa2 fb2 ft2 hfm2 hfa2 hfb2 hok) (trivial) (pF ⟨rfl,rfl,rfl,rfl,rfl,rfl,trivial⟩) ⟨rfl,fun _=>rfl⟩ (fun k x s l dd q w0 hx hi=>?_) (fun s dd hi=>?_) fun s dd c hi=>?_
     · exact absurd hx rV
     · have hno:((n1<0∨n2<0)∨2048<n1)∨2048<n2:=by unfold wE at hok;omega
       refine pX 8 [] ?_
       apply dA 3 68 71 rfl
       intro hg1
       refine aC 5 [] ?_
       exact eV 3 0 rfl rfl rfl rfl rfl
       intro hg1
       refine aC 3 [] ?_
       exact eV 3 0 rfl rfl rfl rfl rfl
       refine aC 1 [] ?_
       apply dA 3 72 75 rfl
       intro hg1
       refine aC 5 [] ?_
       exact eV 3 0 rfl rfl rfl rfl rfl
       intro hg1
       refine aC 3 [] ?_
       exact eV 3 0 rfl rfl rfl rfl rfl
       refine aC 1 [] ?_
       apply dA 3 76 79 rfl
       intro hg1
       refine aC 5 [] ?_
       exact eV 3 0 rfl rfl rfl rfl rfl
       intro hg1
       refine aC 3 [] ?_
       exact eV 3 0 rfl rfl rfl rfl rfl
       refine aL 6 [1,2] ?_
       refine dS rfl (fI (cs:=[_,_,_,_]) T.st37 rfl rfl rfl) ?_
       refine dS rfl (zZ [_,_,_,_] [_,_,_,_] T.ai37 rfl rfl rfl rfl) ?_
       refine aC 1 [] ?_
       apply dT 3 83 86 rfl
       intro hg1
       refine aC 5 [] ?_
       exact eV 3 0 rfl rfl rfl rfl rfl
       intro hg1
       refine aC 3 [] ?_
       exact eV 3 0 rfl rfl rfl rfl rfl
       refine aC 1 [] ?_
       apply dT 3 87 90 rfl
       intro hg1
       refine aC 3 [902] ?_
       refine dS rfl (fA T.sl24 rfl rfl) ?_
       refine aC 1 [] ?_
       exact eV 3 0 rfl rfl rfl rfl rfl
       intro hg1
       refine aC 3 [] ?_
       exact eV 3 0 rfl rfl rfl rfl rfl
       refine bA 5 [] ?_
       refine lY (.inr rfl) 921 rfl ?_
       refine lY (.inr rfl) 901 rfl ?_
       refine jR (.inr rfl) ?_
       refine Ar.base ?_
       refine cI ?_
       exact ⟨by simp,rfl⟩
     exact hi.elim
   exact hi.elim
  case pos =>
   have hok':=hok
   unfold wE at hok'
   obtain ⟨m1,rfl⟩:∃ m1:Nat,n1=(m1:Int):=⟨n1.toNat,by omega⟩
   obtain ⟨m2,rfl⟩:∃ m2:Nat,n2=(m2:Int):=⟨n2.toNat,by omega⟩
   have hq1:m1≤2048:=qX
   have hq2:m2≤2048:=qX
   have hst:stepsU u≤49152:=by unfold stepsU;omega
   refine cX 2 rfl (GO _ u h i m hU) fun v1 G1 Ho1 hle1 hp=>?_
   obtain ⟨bm1,hm1,rfl,hM1,hI1,rfl⟩:=hp
   replace i:=i.up hle1
   refine aL 23 [0] ?_
   refine cX 2 rfl (RB _ u hm1 k1 k2 hc bm1 m1 m2 th hM1 hq1 hq2 hst) fun v2 G2 Ho2 hle2 hp=>?_
   obtain ⟨rfl,rfl⟩:=hp
   replace hM1:=hM1.up hle2
   replace hI1:=hI1.up hle2
   replace i:=i.up hle2
   refine aC 3 [] ?_
   refine aW 2 rfl T.zero37 fun b3=>?_
   refine aL 6 [2] ?_
   refine aW 3 rfl T.zero3 fun b4=>?_
   refine aL 9 [3] ?_
   refine cX 4 rfl (QX _ _ _ _ _) fun v3 G3 Ho3 hle3 hp=>?_
   obtain ⟨fm3,fa3,fb3,ft3,rfl,hfm3,hfa3,hfb3,hft3,rfl⟩:=hp
   replace hM1:=hM1.up hle3
   replace hI1:=hI1.up hle3
   replace i:=i.up hle3
   refine bP 3 [] ?_
   refine qQ 3 (.cells #[.int .i64 ((0:Nat):Int)] 3) rfl rfl ?_
   have hit:=LH G3 u hm1 k1 k2 hc bm1 fm3 fa3 fb3 ft3 m1 m2 th hM1 hfm3 hfa3 hfb3 hft3 hq1 hq2
   have hLl:=Sw (k1:=k1) (k2:=k2) (n:=u.pl.length) (th:=th) 2048 m1 m2 1 qX
   refine AK (ι:=Nat) (fun dd=>([(5,.pointer (some ⟨b1,0,none⟩)),(13,.pointer (some ⟨b3,0,none⟩)),(12,.int .i64 0),(15,.func (.func 85) #[] #[.pointer (some ⟨fm3,0,none⟩),.pointer (some ⟨fa3,0,none⟩),.pointer (some ⟨fb3,0,none⟩),.pointer (some ⟨ft3,0,none⟩)]),(1,.int .i64 (m1:Int)),(2,.int .i64 (m2:Int)),(3,.int .i64 th)],[(901,some dd,.deferred (some [])),(2,some b3,.cells (TLv (foreP k1 k2 u.pl.length (stepsU u) th m1 m2)).toArray 37),(0,some b1,.cells (uC u h).toArray 28)])) (fun dd=>[Sl.mark dd]) (fun _=>G3) (fun _=>True) ?_ fun de=>fun _=>?_
   · skip
     refine cZ 6 [] ?_
     refine mM (ι:=Nat) 900 901 (fun n=>[(3,some b4,.cells #[.int .i64 (n:Int)] 3),(2,Option.some b3,Go.Obj.cells (List.toArray (Go.Proofs.YtngphgeghfdjbaaGreatDoor.TLv (Go.Proofs.YtngphgeghfdjbaaGreatDoor.foreP k1 k2 (List.length (Go.Proofs.YtngphgeghfdjbaaGreatDoor.UV.pl u)) (Go.Proofs.YtngphgeghfdjbaaGreatDoor.stepsU u) th m1 m2))) 37),(1,Option.some b2,Go.Obj.cells #[Go.Value.int Go.IntKind.i64 early] 3),(0,Option.some b1,Go.Obj.cells (List.toArray (Go.Proofs.YtngphgeghfdjbaaGreatDoor.uC u h)) 28)]) (fun k n=>n=k) (fun c n=>c=.exit 0) (0) rfl T.fn85 (fun _=>rfl) rfl (hit) (rfl) (pF ⟨rfl,rfl,rfl,rfl,trivial⟩) ⟨rfl,fun _=>rfl⟩ (fun k x n l dd q w0 hx hi=>?_) (fun n dd hi=>?_) fun n dd c hi=>?_
     · subst hi
       have hkl:=(aJ.1 hx).1
       refine kF ?_
       refine Fa 900 rfl ?_
       refine cZ 9 [3,1] ?_
       refine lZ rfl (fun hc2=>?_) fun hc2=>?_
       refine bQ 3 [] ?_
       rotate_left
       refine bQ 8 [3,3] ?_
       rotate_left
       · refine pK (some ((.exit 0))) (.inr (.inr ⟨_,rfl,rfl⟩)) 900 rfl ⟨rfl,(n,some ((.exit 0))),rfl,.inr ⟨rfl,_,rfl,?_⟩⟩ (pF ⟨rfl,rfl,rfl,rfl,rfl,rfl,trivial⟩)
         rfl
       refine pK none (.inl ⟨rfl,rfl⟩) 900 rfl ⟨rfl,(n+1,none),rfl,.inl ⟨rfl,rfl,?_⟩⟩ (pF ⟨rfl,rfl,rfl,rfl,rfl,rfl,trivial⟩)
       rfl
     · refine iN 1 [] ?_
       refine Ab (dd) ?_ rfl ⟨rfl,rfl,rfl,rfl,rfl,rfl,rfl,trivial⟩ ⟨rfl,rfl,rfl,trivial⟩
       trivial
     subst hi
     refine bQ 2 [] ?_
     refine Ab (dd) ?_ rfl ⟨rfl,rfl,rfl,rfl,rfl,rfl,rfl,trivial⟩ ⟨rfl,rfl,rfl,trivial⟩
     trivial
   refine aM 2 [] ?_
   refine aW 902 rfl T.zero24 fun b5=>?_
   refine bP 10 [] ?_
   refine jU 30 (rP 3 ([]:List Int) []) ?_
   refine mM (ι:=List Int×Option Addr×Nat×List Value) 920 921 (fun (xs,o,c,j)=>[(902,some b5,.cells #[.slice o xs.length c] 24),(30,o.map (·.block),rP 3 xs j),(901,Option.some de,Go.Obj.deferred (Option.some [])),(2,Option.some b3,Go.Obj.cells (List.toArray (Go.Proofs.YtngphgeghfdjbaaGreatDoor.TLv (Go.Proofs.YtngphgeghfdjbaaGreatDoor.foreP k1 k2 (List.length (Go.Proofs.YtngphgeghfdjbaaGreatDoor.UV.pl u)) (Go.Proofs.YtngphgeghfdjbaaGreatDoor.stepsU u) th m1 m2))) 37),(0,Option.some b1,Go.Obj.cells (List.toArray (Go.Proofs.YtngphgeghfdjbaaGreatDoor.uC u h)) 28)]) (fun k (xs,o,c,j)=>xs=Gf ((wD k1 k2 u.pl.length th m1 m2 1).take k)∧OwnA o c xs j) (fun c (xs,o,c,j)=>False) (([],none,0,[])) rfl T.fn85 (fun _=>rfl) rfl (hit) (⟨by rw [bY];rfl,gF⟩) (pF ⟨rfl,rfl,rfl,rfl,rfl,trivial⟩) ⟨rfl,fun _=>rfl⟩ (fun k x ⟨xs,o,c,j⟩ l dd q w0 hx hi=>?_) (fun ⟨xs,o,c,j⟩ dd hi=>?_) fun ⟨xs,o,c,j⟩ dd c hi=>?_
   · obtain ⟨hxs,hoA⟩:=hi
     have hkl:=(aJ.1 hx).1
     have hxl:xs.length≤4096:=by rw [hxs,Cg,bJ];omega
     refine bQ 8 [] ?_
     refine Fa 920 rfl ?_
     refine aM 5 [902] ?_
     refine iC (α:=Int) 922 [((↑(Prod.fst x):Int)),((↑(Prod.snd x):Int))] rfl T.sl24 T.el3 rfl rfl rfl rfl rfl fun b6=>?_
     refine lL (α:=Int) 30 rfl T.sl24 T.el3 rfl rfl rfl (by first | assumption | exact gF | exact iG rV) (nN 922 rfl) CQ CQ fun a1 c1 junk1 ho1=>?_
     refine bA 3 [902] ?_
     refine pK none (.inl ⟨rfl,rfl⟩) 920 rfl ⟨rfl,((xs++[(x.1:Int),(x.2:Int)],a1,c1,junk1),none),rfl,.inl ⟨rfl,rfl,?_⟩⟩ (pF ⟨rfl,rfl,rfl,rfl,rfl,rfl,rfl,trivial⟩)
     exact ⟨by rw [Gg hx,hxs],ho1⟩
   · obtain ⟨hxs,hoA⟩:=hi
     rw [fK] at hxs
     obtain ⟨gc1,gc2⟩:=AH hc
     have hxl:xs.length≤4096:=by rw [hxs,Cg];omega
     refine pX 8 [] ?_
     refine qE 68 rfl sW ?_
     refine aC 6 [] ?_
     refine qE 72 rfl sW ?_
     refine aC 6 [] ?_
     refine qE 76 rfl sW ?_
     refine bP 21 [0] ?_
     refine Wc.freezeRow 30 rfl hoA fun G4 hl4 hgot=>?_
     refine jU 31 (rP 3 ([]:List Int) []) ?_
     refine Wc.loop (ι:=Nat×Nat×Nat×Nat×(List Int×Option Addr×Nat×List Value)) (fun (k,a,a',lv,(ws,wo,wc,wj))=>([(20,.int .i64 (a:Int)),(21,.int .i64 (a':Int)),(22,.int .i64 (lv:Int)),(17,.slice wo ws.length wc),(16,Go.Value.pointer (Option.some (Go.Addr.mk b5 0 Option.none))),(5,Go.Value.pointer (Option.some (Go.Addr.mk b1 0 Option.none))),(13,Go.Value.pointer (Option.some (Go.Addr.mk b3 0 Option.none))),(12,Go.Value.int Go.IntKind.i64 0),(1,Go.Value.int Go.IntKind.i64 (↑m1:Int)),(2,Go.Value.int Go.IntKind.i64 (↑m2:Int)),(3,Go.Value.int Go.IntKind.i64 th)],[(31,wo.map (·.block),rP 3 ws wj),(921,Option.some dd,Go.Obj.deferred (Option.some [])),(902,Option.some b5,Go.Obj.cells #[Go.Value.slice o (List.length xs) c] 24),(901,Option.some de,Go.Obj.deferred (Option.some [])),(2,Option.some b3,Go.Obj.cells (List.toArray (Go.Proofs.YtngphgeghfdjbaaGreatDoor.TLv (Go.Proofs.YtngphgeghfdjbaaGreatDoor.foreP k1 k2 (List.length (Go.Proofs.YtngphgeghfdjbaaGreatDoor.UV.pl u)) (Go.Proofs.YtngphgeghfdjbaaGreatDoor.stepsU u) th m1 m2))) 37),(0,Option.some b1,Go.Obj.cells (List.toArray (Go.Proofs.YtngphgeghfdjbaaGreatDoor.uC u h)) 28)])) (fun (k,a,a',lv,(ws,wo,wc,wj))=>LevAt k1 k2 u.pl.length th m1 m2 k a a' lv∧ws=Gf ((wD k1 k2 u.pl.length th m1 m2 1).take k)∧OwnA wo wc ws wj) (fun (k,a,a',lv,(ws,wo,wc,wj))=>wK k1 k2 th a a') ((0,m1,m2,1,([],none,0,[]))) (⟨LevAt.start hc.a1 hc.b1 hc.a2 hc.b2 hc.n qX,by rw [bY];rfl,gF⟩) ⟨rfl,rfl,rfl,rfl,rfl,rfl,rfl,rfl,rfl,rfl,rfl,trivial⟩ ⟨rfl,rfl,rfl,rfl,rfl,rfl,trivial⟩ fun ⟨k,a,a',lv,(ws,wo,wc,wj)⟩=>fun hk=>?_
     obtain ⟨hL,hws,hoW⟩:=hk
     have hm2:=hL.2.2.1
     have hwl:ws.length≤4096:=by rw [hws,Cg,bJ];omega
     by_cases he:tD a a' k1 k2 th
     · have hN:=hL.next he
       have hlv':=hN.lv gc1
       have hlv:=hL.lv gc1
       have hbk:=hN.2.2.1
       refine aM 10 [0,0] ?_
       refine bS rfl (LK _ _ _ k1 k2 _ _ _ hc.e1 hc.e2 qX qX ⟨hc.a1,hc.b1⟩ ⟨hc.a2,hc.b2⟩) ?_
       refine aL 14 [1,0,0] ?_
       refine bS rfl (RF _ _ _ k1 k2 _ _ hc.e1 hc.e2 qX qX ⟨hc.a1,hc.b1⟩ ⟨hc.a2,hc.b2⟩) ?_
       refine aL 8 [] ?_
       refine iC (α:=Int) 922 [((↑(Go.Proofs.YtngphgeghfdjbaaGreatDoor.blkP a a' k1 k2):Int)),((↑lv:Int))] rfl T.sl24 T.el3 rfl rfl rfl rfl rfl fun b6=>?_
       refine lL (α:=Int) 31 rfl T.sl24 T.el3 rfl rfl rfl (by first | assumption | exact gF | exact iG rV) (nN 922 rfl) CQ CQ fun a1 c1 junk1 ho1=>?_
       refine bP 3 [] ?_
       refine mN [0,2,901,902,921,922,31] [] T.mixed rfl ?_
       refine eF 0 [] [] ?_
       refine eF 1 [] [] ?_
       refine eF 2 [] [] ?_
       refine eF 3 [] [] ?_
       refine eF 4 [0] [0] ?_
       refine eF 5 [] [] ?_
       refine gQ 6 [] rfl (mJ rfl rfl qX) ?_
       refine eF 7 [] [] ?_
       refine eF 8 [] [] ?_
       refine eF 9 [] [] ?_
       refine eI ?_
       refine iN 1 [] ?_
       refine cS 22 rfl (show _=Value.int .i64 ((lv*u.pl.length:Nat):Int) from congrArg _ (cF _ _).symm) ?_
       refine Ar.again ((k+1,blkP a a' k1 k2,blkP a a' k1 k2,lv*u.pl.length,(ws++[(blkP a a' k1 k2:Int),(lv:Int)],a1,c1,junk1))) ?_ ?_ rfl ⟨rfl,rfl,rfl,rfl,rfl,rfl,rfl,rfl,rfl,rfl,rfl,trivial⟩ ⟨rfl,rfl,rfl,rfl,rfl,rfl,trivial⟩
       · exact ⟨hN,by rw [Gg (hL.here he),hws],ho1⟩
       exact Ju he
     have hkL:=hL.done he
     rw [hkL,fK] at hws
     refine Wc.freezeRow 31 rfl hoW fun G5 hl5 hwant=>?_
     refine aM 10 [0,0] ?_
     refine bS rfl (LK _ _ _ k1 k2 _ _ _ hc.e1 hc.e2 qX qX ⟨hc.a1,hc.b1⟩ ⟨hc.a2,hc.b2⟩) ?_
     refine bP 9 [0] ?_
     refine mN [0,2,901,902,921] [] T.mixed rfl ?_
     refine eF 0 [] [] ?_
     refine eF 1 [] [] ?_
     refine eF 2 [] [] ?_
     refine Pv 122 rfl sW ?_
     refine mY 3 [2] rD rfl rfl rfl rfl (zE 2 T.agg37 rfl rfl rfl) ?_
     refine mY 4 [0] rD rfl rfl rfl rfl (zE 0 T.agg28 rfl rfl rfl) ?_
     refine mY 5 [] rD rfl rfl rfl rfl (mO rfl) ?_
     refine mY 6 [] rD rfl rfl rfl rfl (mO rfl) ?_
     refine mY 7 [] rD rfl rfl rfl rfl (mO rfl) ?_
     refine gC 8 ?_
     refine aC 1 [] ?_
     refine bS rfl (c19 _ u h k1 k2 hc hst th _ m1 m2 rfl qX) ?_
     refine eU ?_
     refine mY 9 [] rD rfl rfl rfl rfl (zZ [_,_,_,_] [_,_,_,_] T.ai37 rfl rfl rfl rfl) ?_
     refine eF 10 [] [] ?_
     refine eF 11 [] [] ?_
     refine Gm.cases 131 rfl (fun hg1=>?_) fun hg1=>?_
     refine mY 12 [902] rD rfl rfl rfl rfl (Qy.load 902 T.one24 rfl rfl rfl) ?_
     refine mY 13 [] rD rfl rfl rfl rfl (mO rfl) ?_
     refine gC 14 ?_
     refine aC 1 [] ?_
     refine bS rfl (c35 _ xs ws _ _ _ _ (hgot.up hl5) hwant qX qX) ?_
     refine eU ?_
     refine eF 15 [] [] ?_
     refine eF 16 [] [] ?_
     refine eI ?_
     refine iN 2 [] ?_
     refine lY (.inr rfl) 921 rfl ?_
     refine lY (.inr rfl) 901 rfl ?_
     refine jR (.inr rfl) ?_
     rotate_left
     refine Lc 12 rD rfl rfl rfl rfl ?_
     refine Lc 13 rD rfl rfl rfl rfl ?_
     refine Lc 14 rD rfl rfl rfl rfl ?_
     refine eF 15 [] [] ?_
     refine eF 16 [] [] ?_
     refine eI ?_
     refine iN 2 [] ?_
     refine lY (.inr rfl) 921 rfl ?_
     refine lY (.inr rfl) 901 rfl ?_
     refine jR (.inr rfl) ?_
     rotate_left
     · refine Ar.base ?_
       refine cI ?_
       exact ⟨by rw [hxs,hws,cR rfl],rfl⟩
     exact absurd rfl qY
   exact hi.elim
end
end Go.Proofs.YtngphgeghfdjbaaGreatDoor
namespace Go.Sl.Ev
open Go Go.Sl
def s4 {β:Sort _} (a b c d:β) (n:Nat):β:=Nat.rec (motive:=fun _=>β) a (fun n _=>Nat.rec (motive:=fun _=>β) b (fun n _=>Nat.rec (motive:=fun _=>β) c (fun _ _=>d) n) n) n
theorem HU {β:Sort _} (a b c d:β):s4 a b c d 0=a:=rfl
theorem HV {β:Sort _} (a b c d:β):s4 a b c d 1=b:=rfl
theorem HW {β:Sort _} (a b c d:β):s4 a b c d 2=c:=rfl
theorem HX {β:Sort _} (a b c d:β):s4 a b c d 3=d:=rfl
inductive Tr (α:Type) where
 | e
 | n (x:Option α) (a b c d:Tr α)
def Tr.get {α:Type} (t:Tr α):Nat→Option α:=
 Tr.rec (motive:=fun _=>Nat→Option α) (fun _=>none) (fun x _ _ _ _ ga gb gc gd k=>Nat.rec (motive:=fun _=>Option α) x (fun m _=>s4 ga gb gc gd (Nat.mod m 4) (Nat.div m 4)) k) t
def Tr.put {α:Type} (v:Option α) (ih:Tr α→Nat→Tr α) (k:Nat) (x:Option α) (a b c d:Tr α):Tr α:=
 Nat.rec (motive:=fun _=>Tr α) (.n v a b c d) (fun m _=>s4 (.n x (ih a (Nat.div m 4)) b c d) (.n x a (ih b (Nat.div m 4)) c d) (.n x a b (ih c (Nat.div m 4)) d) (.n x a b c (ih d (Nat.div m 4))) (Nat.mod m 4)) k
def Tr.set {α:Type} (v:Option α) (f:Nat):Tr α→Nat→Tr α:=
 Nat.rec (motive:=fun _=>Tr α→Nat→Tr α) (fun t _=>t) (fun _ ih t k=>Tr.rec (motive:=fun _=>Tr α) (Tr.put v ih k none .e .e .e .e) (fun x a b c d _ _ _ _=>Tr.put v ih k x a b c d) t) f
theorem Gl {α:Type} (a b c d:Tr α) (x:Option α) (m:Nat):Tr.get (.n x a b c d) (m+1)=s4 a.get b.get c.get d.get (Nat.mod m 4) (Nat.div m 4):=rfl
theorem On {α:Type} (v:Option α) (f k:Nat):Tr.set v (f+1) (.e:Tr α) k=Tr.set v (f+1) (.n none .e .e .e .e) k:=rfl
theorem AL {α:Type} (v:Option α) (f:Nat) (a b c d:Tr α) (x:Option α):Tr.set v (f+1) (.n x a b c d) 0=.n v a b c d:=rfl
theorem Gn {α:Type} (v:Option α) (f m:Nat) (a b c d:Tr α) (x:Option α):Tr.set v (f+1) (.n x a b c d) (m+1) =
 s4 (.n x (Tr.set v f a (Nat.div m 4)) b c d) (.n x a (Tr.set v f b (Nat.div m 4)) c d) (.n x a b (Tr.set v f c (Nat.div m 4)) d) (.n x a b c (Tr.set v f d (Nat.div m 4))) (Nat.mod m 4):=rfl
theorem Qx (m:Nat):Nat.mod m 4=0∨Nat.mod m 4=1∨Nat.mod m 4=2∨Nat.mod m 4=3:=by
 have h:∀ k,k<4→k=0∨k=1∨k=2∨k=3:=qX
 exact h _ (lN m rI)
theorem LL {i m r:Nat} (h1:Nat.mod i 4=r) (h2:Nat.mod m 4=r):(Nat.div i 4=Nat.div m 4)=(i+1=m+1):=by
 have e1:i % 4=r:=h1
 have e2:m % 4=r:=h2
 apply propext
 show (i / 4=m / 4)↔_
 constructor <;> intro h <;> omega
theorem LN {i m r s:Nat} (h1:Nat.mod i 4=r) (h2:Nat.mod m 4=s) (h:r≠s):¬(i+1=m+1):=fun e=>by
 have:i=m:=qX
 subst this
 exact h (h1.symm.trans h2)
theorem Qz {α:Type} (v:Option α):∀ (f:Nat) (t:Tr α) (k j:Nat),k<f→(Tr.set v f t k).get j=if j=k then v else t.get j:=by
 intro f
 induction f with
 | zero=>intro t k j h;omega
 | succ f ih =>
   have key:∀ (a b c d:Tr α) (x:Option α) (k j:Nat),k<f+1→(Tr.set v (f+1) (.n x a b c d) k).get j=if j=k then v else (Tr.n x a b c d).get j:=by
    intro a b c d x k j h
    cases k with
    | zero =>
      rw [AL]
      cases j with
      | zero=>rfl
      | succ i=>rw [aF (by omega)];rfl
    | succ m =>
      rw [Gn]
      have hm:Nat.div m 4<f:=by show m / 4<f;omega
      cases j with
      | zero =>
        rw [aF (by omega)]
        rcases Qx m with h1 | h1 | h1 | h1 <;> rw [h1] <;> rfl
      | succ i =>
        rcases Qx m with h1 | h1 | h1 | h1 <;> rcases Qx i with h2 | h2 | h2 | h2 <;> simp only [h1,HU,HV,HW,HX,Gl,h2] <;>
         first
         | (rw [aF (LN h2 h1 rI)])
         | (simp only [ih _ _ _ hm,LL h2 h1])
   intro t k j h
   cases t with
   | e =>
     rw [On,key _ _ _ _ _ _ _ h]
     congr 1
     cases j with
     | zero=>rfl
     | succ i=>rw [Gl];rcases Qx i with h2 | h2 | h2 | h2 <;> rw [h2] <;> rfl
   | n x a b c d=>exact key a b c d x k j h
abbrev dG:=@Qz
inductive CV where
 | int (k:IntKind) (n:Int)
 | bool (b:Bool)
 | str (s:CV)
 | ptr (t o:Nat)
 | nilp
 | sl (t o n sz:Nat) (c:Option Nat)
 | nils
 | sle
 | mp (t:Nat)
 | nilm
 | fn (f:Nat) (fst cap:CV)
 | nilf
 | yl (t:Nat)
 | agg (l:CV)
 | tup (l:CV)
 | nil
 | cons (a b:CV)
abbrev Pl:=Nat→Nat×Nat
def D (ρ:Pl) (x:CV):(Value→Prop)×(List Value→Prop):=
 CV.rec (motive:=fun _=>(Value→Prop)×(List Value→Prop))
  (fun k n=>(fun v=>v=.int k n,fun _=>False))
  (fun b=>(fun v=>v=.bool b,fun _=>False))
  (fun _ ih=>(fun v=>∃ (vs:List Value) (bs:List UInt8),ih.2 vs∧vs=bs.map (fun b=>Value.int .u8 b.toNat)∧v=.string ⟨bs.toArray⟩,fun _=>False))
  (fun t o=>(fun v=>v=.pointer (some ⟨(ρ t).1,o,none⟩),fun _=>False))
  (fun v=>v=.pointer none,fun _=>False)
  (fun t o n sz c=>(fun v=>match c with
   | some c=>v=.slice (some ⟨(ρ t).1,o,none⟩) n c∧o+c*sz≤(ρ t).2∧n≤c∧c≤maxLen
   | none=>∃ c,v=.slice (some ⟨(ρ t).1,o,none⟩) n c∧o+c*sz=(ρ t).2∧n≤c∧c≤maxLen,fun _=>False))
  (fun v=>v=.slice none 0 0,fun _=>False)
  (fun v=>∃ a c,v=.slice a 0 c,fun _=>False)
  (fun t=>(fun v=>v=.map (some (ρ t).1),fun _=>False))
  (fun v=>v=.map none,fun _=>False)
  (fun f _ _ i1 i2=>(fun v=>∃ xs ys,i1.2 xs∧i2.2 ys∧v=.func (.func f) xs.toArray ys.toArray,fun _=>False))
  (fun v=>v=.nilFunc,fun _=>False)
  (fun t=>(fun v=>v=.func (.yield (ρ t).1) #[] #[],fun _=>False))
  (fun _ ih=>(fun v=>∃ vs,ih.2 vs∧v=.agg vs.toArray,fun _=>False))
  (fun _ ih=>(fun v=>∃ vs,ih.2 vs∧v=.tuple vs.toArray,fun _=>False))
  (fun v=>v=.nilIface,fun l=>l=[])
  (fun _ _ i1 i2=>(fun _=>False,fun l=>∃ v vs,l=v :: vs∧i1.1 v∧i2.2 vs)) x
def DV (ρ:Pl) (x:CV) (v:Value):Prop:=(D ρ x).1 v
def DL (ρ:Pl) (x:CV) (l:List Value):Prop:=(D ρ x).2 l
section
variable {ρ:Pl} {v:Value} {l:List Value}
theorem DV.int {k:IntKind} {n:Int}:DV ρ (.int k n) v↔v=.int k n:=lC
abbrev fC:=@DV.int
theorem DV.bool {b:Bool}:DV ρ (.bool b) v↔v=.bool b:=lC
abbrev pO:=@DV.bool
theorem DV.ptr {t o:Nat}:DV ρ (.ptr t o) v↔v=.pointer (some ⟨(ρ t).1,o,none⟩):=lC
abbrev kO:=@DV.ptr
theorem DV.nilp:DV ρ .nilp v↔v=.pointer none:=lC
theorem DV.nils:DV ρ .nils v↔v=.slice none 0 0:=lC
abbrev lF:=@DV.nils
theorem DV.mp {t:Nat}:DV ρ (.mp t) v↔v=.map (some (ρ t).1):=lC
theorem HY {t o n sz c:Nat}:DV ρ (.sl t o n sz (some c)) v↔v=.slice (some ⟨(ρ t).1,o,none⟩) n c∧o+c*sz≤(ρ t).2∧n≤c∧c≤maxLen:=lC
abbrev iK:=@HY
theorem HZ {t o n sz:Nat}:DV ρ (.sl t o n sz none) v↔∃ c,v=.slice (some ⟨(ρ t).1,o,none⟩) n c∧o+c*sz=(ρ t).2∧n≤c∧c≤maxLen:=lC
abbrev lE:=@HZ
theorem DV.fn {f:Nat} {x y:CV}:DV ρ (.fn f x y) v↔∃ xs ys,DL ρ x xs∧DL ρ y ys∧v=.func (.func f) xs.toArray ys.toArray:=lC
theorem DV.agg {x:CV}:DV ρ (.agg x) v↔∃ vs,DL ρ x vs∧v=.agg vs.toArray:=lC
abbrev qW:=@DV.agg
theorem DV.tup {x:CV}:DV ρ (.tup x) v↔∃ vs,DL ρ x vs∧v=.tuple vs.toArray:=lC
abbrev oL:=@DV.tup
theorem DL.nil:DL ρ .nil l↔l=[]:=lC
theorem DL.cons {a b:CV}:DL ρ (.cons a b) l↔∃ v vs,l=v :: vs∧DV ρ a v∧DL ρ b vs:=lC
abbrev jD:=@DL.cons
end
def Bd (nx:Nat) (x:CV):Prop:=
 CV.rec (motive:=fun _=>Prop) (fun _ _=>True) (fun _=>True) (fun _ ih=>ih) (fun t _=>t<nx) True (fun t _ _ _ _=>t<nx) True True (fun t=>t<nx) True (fun _ _ _ i1 i2=>i1∧i2) True (fun t=>t<nx)
  (fun _ ih=>ih) (fun _ ih=>ih) True (fun _ _ i1 i2=>i1∧i2) x
def Ext (nx:Nat) (ρ ρ':Pl):Prop:=∀ t,t<nx→ρ' t=ρ t
theorem Ext.refl (nx:Nat) (ρ:Pl):Ext nx ρ ρ:=fun _ _=>rfl
abbrev cK:=@Ext.refl
theorem Ext.trans {nx nx':Nat} {a b c:Pl} (h:Ext nx a b) (k:Ext nx' b c) (hn:nx≤nx'):Ext nx a c:=fun t ht=>(k t (bG ht hn)).trans (h t ht)
theorem GP {nx:Nat} {ρ ρ':Pl} (h:Ext nx ρ ρ') (x:CV) (hb:Bd nx x):D ρ' x=D ρ x:=by
 induction x with
 | int k n=>rfl
 | bool b=>rfl
 | str s ih=>have:=ih hb;show (_,_)=(_,_);simp only [D] at this ⊢;rw [this]
 | ptr t o=>have e:=h t hb;show (_,_)=(_,_);simp only [e]
 | nilp=>rfl
 | sl t o n sz c=>have e:=h t hb;show (_,_)=(_,_);simp only [e]
 | nils=>rfl
 | sle=>rfl
 | mp t=>have e:=h t hb;show (_,_)=(_,_);simp only [e]
 | nilm=>rfl
 | fn f x y i1 i2=>have e1:=i1 hb.1;have e2:=i2 hb.2;show (_,_)=(_,_);simp only [D] at e1 e2 ⊢;rw [e1,e2]
 | nilf=>rfl
 | yl t=>have e:=h t hb;show (_,_)=(_,_);simp only [e]
 | agg l ih=>have:=ih hb;show (_,_)=(_,_);simp only [D] at this ⊢;rw [this]
 | tup l ih=>have:=ih hb;show (_,_)=(_,_);simp only [D] at this ⊢;rw [this]
 | nil=>rfl
 | cons a b i1 i2=>have e1:=i1 hb.1;have e2:=i2 hb.2;show (_,_)=(_,_);simp only [D] at e1 e2 ⊢;rw [e1,e2]
theorem Bd.mono {nx nx':Nat} (h:nx≤nx') (x:CV) (hb:Bd nx x):Bd nx' x:=by
 induction x with
 | str s ih=>exact ih hb
 | ptr t o=>exact bG (show t<nx from hb) h
 | sl t o n sz c=>exact bG (show t<nx from hb) h
 | mp t=>exact bG (show t<nx from hb) h
 | fn f x y i1 i2=>exact ⟨i1 hb.1,i2 hb.2⟩
 | yl t=>exact bG (show t<nx from hb) h
 | agg l ih=>exact ih hb
 | tup l ih=>exact ih hb
 | cons a b i1 i2=>exact ⟨i1 hb.1,i2 hb.2⟩
 | _=>trivial
def Kn (nx:Nat) (ρ:Pl) (x:CV) (v:Value):Prop:=Bd nx x∧DV ρ x v
def KL (nx:Nat) (ρ:Pl) (x:CV) (l:List Value):Prop:=Bd nx x∧DL ρ x l
theorem Kn.up {nx nx':Nat} {ρ ρ':Pl} {x:CV} {v:Value} (h:Kn nx ρ x v) (hn:nx≤nx') (he:Ext nx ρ ρ'):Kn nx' ρ' x v:=
 ⟨h.1.mono hn,by unfold DV;rw [GP he x h.1];exact h.2⟩
theorem KL.up {nx nx':Nat} {ρ ρ':Pl} {x:CV} {v:List Value} (h:KL nx ρ x v) (hn:nx≤nx') (he:Ext nx ρ ρ'):KL nx' ρ' x v:=
 ⟨h.1.mono hn,by unfold DL;rw [GP he x h.1];exact h.2⟩
theorem KL.nil {nx:Nat} {ρ:Pl}:KL nx ρ .nil []:=⟨trivial,rfl⟩
abbrev lT:=@KL.nil
theorem KL.cons {nx:Nat} {ρ:Pl} {a b:CV} {v:Value} {vs:List Value} (h1:Kn nx ρ a v) (h2:KL nx ρ b vs):KL nx ρ (.cons a b) (v :: vs):=⟨⟨h1.1,h2.1⟩,⟨v,vs,rfl,h1.2,h2.2⟩⟩
abbrev nR:=@KL.cons
structure Rw where
 n:Nat
 t:Tr CV
def RT (nx:Nat) (ρ:Pl) (t:Tr CV) (vs:List Value):Prop:=∀ i x,t.get i=some x→∃ v,vs[i]?=some v∧Kn nx ρ x v
def RL (nx:Nat) (ρ:Pl) (r:Rw) (vs:List Value):Prop:=r.n=vs.length∧RT nx ρ r.t vs
theorem RL.up {nx nx':Nat} {ρ ρ':Pl} {r:Rw} {vs:List Value} (h:RL nx ρ r vs) (hn:nx≤nx') (he:Ext nx ρ ρ'):RL nx' ρ' r vs:=
 ⟨h.1,fun i x hx=>by obtain ⟨v,h1,h2⟩:=h.2 i x hx;exact ⟨v,h1,h2.up hn he⟩⟩
inductive CB where
 | cells (l:Rw) (ty:Nat) (op:Bool) (st:Nat)
 | ro (l:Rw) (ty:Nat) (st:Nat)
 | mapI (l:List (Int×Int)) (st:Nat)
 | mapK (l:List (K4×Int)) (st:Nat)
 | it (l:CV) (pos:Nat) (st:Nat)
 | lp (E:Tr CV) (n:Nat) (ps:List Nat) (asg body:Code) (q:LoopState) (p:Option Code) (st:Nat)
def Ly:CB→Nat
 | .cells _ _ _ s=>s
 | .ro _ _ s=>s
 | .mapI _ s=>s
 | .mapK _ s=>s
 | .it _ _ s=>s
 | .lp _ _ _ _ _ _ _ s=>s
def DB (nx:Nat) (ρ:Pl) (size:Nat):CB→Obj→Prop
 | .cells l ty op _,o=>∃ vs junk,RL nx ρ l vs∧o=.cells (vs++junk).toArray ty (0,0)∧vs.length+junk.length=size∧(op=false→junk=[])
 | .ro l ty _,o=>∃ vs fz,RL nx ρ l vs∧o=.cells vs.toArray ty fz
 | .mapI l _,o=>o=sC l
 | .mapK l _,o=>o=sC l
 | .it l pos _,o=>∃ bs:List UInt8,KL nx ρ l (bs.map fun b=>Value.int .u8 b.toNat)∧o=.stringIter ⟨bs.toArray⟩ pos
 | .lp E n ps asg body st p _,o=>∃ q:Loop,o=.loop q∧q.state=st∧q.pending=p∧q.params=ps.toArray∧q.assign=asg∧q.body=body∧q.tmps.size=n∧∀ i x,E.get i=some x→∃ v,q.tmps[i]?=some v∧Kn nx ρ x v
theorem DB.up {nx nx':Nat} {ρ ρ':Pl} {s:Nat} {b:CB} {o:Obj} (h:DB nx ρ s b o) (hn:nx≤nx') (he:Ext nx ρ ρ'):DB nx' ρ' s b o:=by
 cases b with
 | cells l ty op st=>obtain ⟨vs,junk,h1,h2⟩:=h;exact ⟨vs,junk,h1.up hn he,h2⟩
 | ro l ty st=>obtain ⟨vs,fz,h1,h2⟩:=h;exact ⟨vs,fz,h1.up hn he,h2⟩
 | mapI l st=>exact h
 | mapK l st=>exact h
 | it l pos st=>obtain ⟨bs,h1,h2⟩:=h;exact ⟨bs,h1.up hn he,h2⟩
 | lp E n ps asg body q p st =>
   obtain ⟨q,h1,h2,h3,h4,h5,h6,h7,h8⟩:=h
   exact ⟨q,h1,h2,h3,h4,h5,h6,h7,fun i x hx=>by obtain ⟨v,g1,g2⟩:=h8 i x hx;exact ⟨v,g1,g2.up hn he⟩⟩
structure Bas (Φ:Imm→Prop) where
 w:World
 ks:List Nat
 G:Imm
 ok:Φ G
 s:Nat
structure Mem {Φ:Imm→Prop} (ρ:Pl) (w0:Bas Φ) (h:Tr CB) (nx:Nat) (w:World):Prop where
 upd:Upd (fun _=>False) w0.w w
 own:∀ t b,h.get t=some b→t<nx∧Ly b<nx∧w0.w.heap.size≤(ρ t).1∧∃ o,w.heap[(ρ t).1]?=some o∧DB nx ρ (ρ t).2 b o
 one:∀ t t' b b',h.get t=some b→h.get t'=some b'→(ρ t).1=(ρ t').1→t=t'
 imm:∀ b o,w0.G b=some o→w0.w.heap[b]?=some o
 nod:w0.ks.Nodup
 kept:∀ b,b∈w0.ks→w0.w.heap.size≤b∧w.heap[b]?=some (.deferred (some []))∧∀ t c,h.get t=some c→(ρ t).1≠b
def Slots (ρ:Pl) (E:Tr CV) (nx:Nat) (n:Nat) (a:Act):Prop:=a.tmps.size=n∧∀ i x,E.get i=some x→∃ v,a.tmps[i]?=some v∧Kn nx ρ x v
def Bas.plus {Φ:Imm→Prop} (w0:Bas Φ) (os:List Nat):Bas Φ:=⟨w0.w,os++w0.ks,w0.G,w0.ok,w0.s⟩
structure Rel0 {Φ:Imm→Prop} (ρ:Pl) (w0:Bas Φ) (os:List Nat) (n:Nat) (E:Tr CV) (h:Tr CB) (nx:Nat) (a:Act) (w:World):Prop where
 slots:Slots ρ E nx n a
 defers:a.defers=os.map mark
 mem:Mem ρ (w0.plus os) h nx w
 mks:∀ b,b∈os→w0.s≤b
 ss:w0.s≤w.heap.size
def Rel {Φ:Imm→Prop} (ρ:Pl) (w0:Bas Φ) (n:Nat) (E:Tr CV) (h:Tr CB) (nx:Nat) (a:Act) (w:World):Prop:=∃ os,Rel0 ρ w0 os n E h nx a w
def lrec {β:Sort _} (n:β) (c:CV→CV→β→β) (x:CV):β:=
 CV.rec (motive:=fun _=>β) (fun _ _=>n) (fun _=>n) (fun _ _=>n) (fun _ _=>n) n (fun _ _ _ _ _=>n) n n (fun _=>n) n (fun _ _ _ _ _=>n) n (fun _=>n) (fun _ _=>n) (fun _ _=>n) n (fun a b _ ih=>c a b ih) x
section
variable {β:Type} {n:β} {c:CV→CV→β→β}
end
def Ci (l:CV):Nat→Option CV:=lrec (fun _=>none) (fun a _ ih k=>bif Nat.beq k 0 then some a else ih (Nat.pred k)) l
def rU (l:CV):Nat:=lrec 0 (fun _ _ ih=>Nat.succ ih) l
def xA (l m:CV):CV:=lrec m (fun a _ ih=>.cons a ih) l
def yH (k:Nat):CV→CV:=Nat.rec (fun l=>l) (fun _ ih l=>lrec .nil (fun _ b _=>ih b) l) k
def yI (k:Nat):CV→CV:=Nat.rec (fun _=>.nil) (fun _ ih l=>lrec .nil (fun a b _=>.cons a (ih b)) l) k
def Lz (x:CV):Bool:=
 CV.rec (motive:=fun _=>Bool) (fun _ _=>true) (fun _=>true) (fun _ _=>true) (fun _ _=>true) true (fun _ _ _ _ _=>true) true true (fun _=>true) true (fun _ _ _ _ _=>true) true (fun _=>true) (fun _ _=>false) (fun _ _=>false) false (fun _ _ _ _=>false) x
def Au (l:CV):Bool:=lrec true (fun a _ ih=>Lz a && ih) l
def Ra (l:CV) (k:Nat):CV:=Nat.rec .nil (fun _ ih=>xA l ih) k
section
variable {nx:Nat} {ρ:Pl}
theorem KL.inv_nil {l:List Value} (h:KL nx ρ .nil l):l=[]:=h.2
theorem KL.inv_cons {a b:CV} {l:List Value} (h:KL nx ρ (.cons a b) l):∃ v vs,l=v :: vs∧Kn nx ρ a v∧KL nx ρ b vs:=by
 obtain ⟨h1,v,vs,h2,h3,h4⟩:=h
 exact ⟨v,vs,h2,⟨h1.1,h3⟩,⟨h1.2,h4⟩⟩
theorem Vw {motive:CV→List Value→Prop} (h0:motive .nil []) (h1:∀ a b v vs,Kn nx ρ a v→KL nx ρ b vs→motive b vs→motive (.cons a b) (v :: vs)):∀ {x:CV} {l:List Value},KL nx ρ x l→motive x l:=by
 intro x
 induction x with
 | nil=>intro l h;rw [h.inv_nil];exact h0
 | cons a b _ ih =>
   intro l h
   obtain ⟨v,vs,rfl,h2,h3⟩:=h.inv_cons
   exact h1 a b v vs h2 h3 (ih h3)
 | _=>intro l h;exact absurd h.2 id
abbrev jZ:=@Vw
theorem yP {x:CV} {l:List Value} (h:KL nx ρ x l):∀ {k:Nat} {c:CV},Ci x k=some c→∃ v,l[k]?=some v∧Kn nx ρ c v:=by
 refine jZ (motive:=fun x l=>∀ {k:Nat} {c:CV},Ci x k=some c→∃ v,l[k]?=some v∧Kn nx ρ c v) ?_ ?_ h
 · intro k c hc;cases hc
 intro a b v vs hv hvs ih k c hc
 have hc':(bif Nat.beq k 0 then some a else Ci b (Nat.pred k))=some c:=hc
 cases hb:Nat.beq k 0 with
 | true =>
   rw [hb] at hc'
   have:=aB hb
   subst this
   cases hc'
   exact ⟨v,rfl,hv⟩
 | false =>
   rw [hb] at hc'
   obtain ⟨u,h1,h2⟩:=ih hc'
   refine ⟨u,?_,h2⟩
   cases k with
   | zero=>cases hb
   | succ k=>exact h1
theorem rX {x:CV} {l:List Value} (h:KL nx ρ x l):rU x=l.length:=by
 refine jZ (motive:=fun x l=>rU x=l.length) rfl ?_ h
 intro a b v vs _ _ ih
 show Nat.succ (rU b)=_
 rw [ih];rfl
theorem yQ {x y:CV} {l m:List Value} (h:KL nx ρ x l) (k:KL nx ρ y m):KL nx ρ (xA x y) (l++m):=by
 refine jZ (motive:=fun x l=>KL nx ρ (xA x y) (l++m)) k ?_ h
 intro a b v vs h1 _ ih
 exact nR h1 ih
theorem Av:∀ (k:Nat) {x:CV} {l:List Value},KL nx ρ x l→KL nx ρ (yH k x) (l.drop k):=by
 intro k
 induction k with
 | zero=>intro x l h;exact h
 | succ k ih =>
   intro x l h
   refine jZ (motive:=fun x l=>KL nx ρ (yH (k+1) x) (l.drop (k+1))) lT ?_ h
   intro a b v vs _ h2 _
   exact ih h2
theorem Aw:∀ (k:Nat) {x:CV} {l:List Value},KL nx ρ x l→KL nx ρ (yI k x) (l.take k):=by
 intro k
 induction k with
 | zero=>intro x l h;exact lT
 | succ k ih =>
   intro x l h
   refine jZ (motive:=fun x l=>KL nx ρ (yI (k+1) x) (l.take (k+1))) lT ?_ h
   intro a b v vs h1 h2 _
   exact nR h1 (ih h2)
theorem Dx {x:CV} {l:List Value} (h:KL nx ρ x l):∀ k:Nat,KL nx ρ (Ra x k) (List.replicate k l).flatten:=by
 intro k
 induction k with
 | zero=>exact lT
 | succ k ih =>
   rw [pU,List.flatten_cons]
   exact yQ h ih
theorem Jx {x:CV} {v:Value} (h:Kn nx ρ x v) (hs:Lz x=true):v.oneCell'=true:=by
 cases x with
 | int k n=>rw [show v=_ from h.2];rfl
 | bool b=>rw [show v=_ from h.2];rfl
 | str s=>obtain ⟨_,_,_,_,h3⟩:=h.2;rw [h3];rfl
 | ptr t o=>rw [show v=_ from h.2];rfl
 | nilp=>rw [show v=_ from h.2];rfl
 | sl t o n sz c =>
   cases c with
   | some c=>rw [(iK.1 h.2).1];rfl
   | none=>obtain ⟨c,h1,_⟩:=lE.1 h.2;rw [h1];rfl
 | nils=>rw [show v=_ from h.2];rfl
 | sle=>obtain ⟨_,_,h1⟩:=h.2;rw [h1];rfl
 | mp t=>rw [show v=_ from h.2];rfl
 | nilm=>rw [show v=_ from h.2];rfl
 | fn f x y=>obtain ⟨_,_,_,_,h1⟩:=DV.fn.1 h.2;rw [h1];rfl
 | nilf=>rw [show v=_ from h.2];rfl
 | yl t=>rw [show v=_ from h.2];rfl
 | agg l=>cases hs
 | tup l=>cases hs
 | nil=>cases hs
 | cons a b=>cases hs
theorem Gp {x:CV} {l:List Value} (h:KL nx ρ x l):Au x=true→l.all (·.oneCell')=true:=by
 refine jZ (motive:=fun x l=>Au x=true→l.all (·.oneCell')=true) (fun _=>rfl) ?_ h
 intro a b v vs h1 _ ih hs
 have hs':(Lz a && Au b)=true:=hs
 simp only [aA] at hs'
 rw [jA,aA]
 exact ⟨Jx h1 hs'.1,ih hs'.2⟩
end
def Vx (r:Rw) (o:Nat):Option CV:=r.t.get o
def sB (r:Rw) (o k:Nat):CV:=Nat.rec (motive:=fun _=>Nat→CV) (fun _=>.nil) (fun _ ih o=>match r.t.get o with | some a=>.cons a (ih (Nat.succ o)) | none=>.nil) k o
def Vy (m:CV) (t:Tr CV) (p:Nat):Tr CV:=lrec (β:=Tr CV→Nat→Tr CV) (fun t _=>t) (fun a _ ih t p=>ih (t.set (some a) (Nat.succ p) p) (Nat.succ p)) m t p
def Is (p:Nat) (m:CV) (r:Rw):Rw:=⟨r.n,Vy m r.t p⟩
def IA (r:Rw) (m:CV):Rw:=⟨Nat.add r.n (rU m),Vy m r.t r.n⟩
def It (m:CV):Rw:=⟨rU m,Vy m .e 0⟩
theorem AM:∀ (m:CV) (t:Tr CV) (p i:Nat),(Vy m t p).get i=if p≤i∧i<p+rU m then Ci m (i - p) else t.get i:=by
 intro m
 induction m with
 | cons a b _ ih =>
   intro t p i
   show (Vy b (t.set (some a) (Nat.succ p) p) (Nat.succ p)).get i=if p≤i∧i<p+Nat.succ (rU b) then (bif Nat.beq (i - p) 0 then some a else Ci b (Nat.pred (i - p))) else t.get i
   rw [ih,dG _ _ _ _ _ (bU p)]
   by_cases h1:i=p
   · subst h1
     rw [aF (by omega),aT rfl,aT (by omega),mT]
     rfl
   · by_cases h2:p+1≤i∧i<p+1+rU b
     · rw [aT (show Nat.succ p≤i∧i<Nat.succ p+rU b from h2),aT (by omega)]
       have h3:Nat.beq (i - p) 0=false:=by
        cases hb:Nat.beq (i - p) 0 with
        | false=>rfl
        | true=>have:=aB hb;omega
       rw [h3]
       show Ci b (i - (p+1))=Ci b (i - p - 1)
       rw [Nat.sub_add_eq]
     · rw [aF (show ¬(Nat.succ p≤i∧i<Nat.succ p+rU b) from h2),aF h1,aF (by omega)]
 | _=>intro t p i;exact (aF (show ¬(p≤i∧i<p+0) by omega)).symm
section
variable {nx:Nat} {ρ:Pl}
theorem Ta {α:Type} {l n:List α} {p:Nat} (h:p+n.length≤l.length) (i:Nat):(l.take p++n++l.drop (p+n.length))[i]?=if p≤i∧i<p+n.length then n[i - p]? else l[i]?:=by
 have hl:(l.take p).length=p:=by rw [bJ];omega
 by_cases h1:i<p
 · rw [aF (by omega),cV,bE qX,List.getElem?_take_of_lt h1]
 by_cases h2:i<p+n.length
 · rw [aT ⟨by omega,h2⟩,cV,cM qX,hl,bE qX]
 rw [aF (by omega),cM (by rw [aQ,hl];omega),aQ,hl,fF]
 congr 1;omega
theorem Ma {m:CV} {t:Tr CV} {p:Nat} {vs us news:List Value} (hm:KL nx ρ m news) (ht:RT nx ρ t vs) (h1:∀ i,p≤i→i<p+news.length→us[i]?=news[i - p]?) (h2:∀ i v,¬(p≤i∧i<p+news.length)→vs[i]?=some v→us[i]?=some v):RT nx ρ (Vy m t p) us:=fun i x hx=>by
 rw [AM,rX hm] at hx
 by_cases h:p≤i∧i<p+news.length
 · rw [aT h] at hx
   obtain ⟨v,e1,e2⟩:=yP hm hx
   exact ⟨v,by rw [h1 i h.1 h.2];exact e1,e2⟩
 rw [aF h] at hx
 obtain ⟨v,e1,e2⟩:=ht i x hx
 exact ⟨v,h2 i v h e1,e2⟩
theorem FD {m:CV} {r:Rw} {p:Nat} {vs news:List Value} (hr:RL nx ρ r vs) (hm:KL nx ρ m news) (hp:p+news.length≤vs.length):RL nx ρ (Is p m r) (vs.take p++news++vs.drop (p+news.length)):=
 ⟨by show r.n=_;rw [hr.1];simp only [aQ,bJ,cU];omega,
  Ma hm hr.2 (fun i h1 h2=>by rw [Ta hp,aT ⟨h1,h2⟩]) (fun i v h e=>by rw [Ta hp,aF h];exact e)⟩
theorem Tb {m:CV} {r:Rw} {vs news:List Value} (hr:RL nx ρ r vs) (hm:KL nx ρ m news):RL nx ρ (IA r m) (vs++news):=
 ⟨by show r.n+rU m=_;rw [hr.1,rX hm,aQ],
  Ma hm hr.2 (fun i h1 h2=>by rw [hr.1] at h1 ⊢;exact cM h1) (fun i v _ e=>by
   have:=(aJ.1 e).1
   rw [bE this];exact e)⟩
theorem Mb {m:CV} {vs:List Value} (hm:KL nx ρ m vs):RL nx ρ (It m) vs:=
 ⟨rX hm,Ma (vs:=[]) hm (fun i x hx=>by cases hx) (fun i _ h2=>by rw [mS]) (fun i v _ e=>by cases e)⟩
theorem Ax {r:Rw} {vs:List Value} (hr:RL nx ρ r vs):r.n=vs.length:=hr.1
theorem Tc {r:Rw} {vs:List Value} (hr:RL nx ρ r vs) {k:Nat} {c:CV} (h:Vx r k=some c):∃ v,vs[k]?=some v∧Kn nx ρ c v:=hr.2 k c h
theorem uZ {r:Rw} {vs:List Value} (hr:RL nx ρ r vs):∀ {k o:Nat},rU (sB r o k)=k→KL nx ρ (sB r o k) ((vs.drop o).take k):=by
 intro k
 induction k with
 | zero=>intro o h;exact lT
 | succ k ih =>
   intro o h
   have hs:sB r o (k+1)=(match r.t.get o with | some a=>.cons a (sB r (o+1) k) | none=>.nil):=rfl
   rw [hs] at h ⊢
   split at h
   · rename_i a ha
     obtain ⟨v,e1,e2⟩:=hr.2 o a ha
     have h':rU (sB r (o+1) k)=k:=Nat.succ.inj h
     obtain ⟨hl,hg⟩:=aJ.1 e1
     rw [gW hl,hg,List.take_succ_cons]
     exact nR e2 (ih h')
   cases h
end
def ofB (l:List UInt8):CV:=List.rec .nil (fun b _ ih=>.cons (.int .u8 b.toNat) ih) l
def AN:Value→Option CV
 | .int k n=>some (.int k n)
 | .bool b=>some (.bool b)
 | .pointer none=>some .nilp
 | .slice none n c=>bif Nat.beq n 0 && Nat.beq c 0 then some .nils else none
 | .map none=>some .nilm
 | .nilFunc=>some .nilf
 | .nilIface=>some .nil
 | .string ⟨⟨l⟩⟩=>some (.str (ofB l))
 | _=>none
def NR (l:List Value):Option CV:=List.rec (some .nil) (fun v _ ih=>match AN v with | some a=>(match ih with | some b=>some (.cons a b) | none=>none) | none=>none) l
def GQ:Value→Option CV
 | .agg ⟨l⟩=>match NR l with | some x=>some (.agg x) | none=>none
 | .tuple ⟨l⟩=>match NR l with | some x=>some (.tup x) | none=>none
 | v=>AN v
section
variable {nx:Nat} {ρ:Pl}
theorem IB:∀ l:List UInt8,KL nx ρ (ofB l) (l.map fun b=>Value.int .u8 b.toNat):=by
 intro l
 induction l with
 | nil=>exact lT
 | cons b l ih=>exact nR ⟨trivial,rfl⟩ ih
theorem Td {v:Value} {x:CV} (h:AN v=some x):Kn nx ρ x v:=by
 unfold AN at h
 split at h
 · cases h;exact ⟨trivial,rfl⟩
 · cases h;exact ⟨trivial,rfl⟩
 · cases h;exact ⟨trivial,rfl⟩
 · rename_i n c
   cases hb:Nat.beq n 0 && Nat.beq c 0 with
   | true =>
     rw [hb] at h
     cases h
     simp only [aA] at hb
     have e1:=aB hb.1
     have e2:=aB hb.2
     subst e1 e2
     exact ⟨trivial,rfl⟩
   | false=>rw [hb] at h;cases h
 · cases h;exact ⟨trivial,rfl⟩
 · cases h;exact ⟨trivial,rfl⟩
 · cases h;exact ⟨trivial,rfl⟩
 · rename_i l
   cases h
   have:=IB (nx:=nx) (ρ:=ρ) l
   exact ⟨this.1,⟨_,l,this.2,rfl,rfl⟩⟩
 cases h
theorem AO:∀ {l:List Value} {x:CV},NR l=some x→KL nx ρ x l:=by
 intro l
 induction l with
 | nil=>intro x h;cases h;exact lT
 | cons v l ih =>
   intro x h
   have h':(match AN v with | some a=>(match NR l with | some b=>some (.cons a b) | none=>none) | none=>none)=some x:=h
   split at h'
   · rename_i a ha
     split at h'
     · rename_i b hb
       cases h'
       exact nR (Td ha) (ih hb)
     cases h'
   cases h'
theorem AP {v:Value} {x:CV} (h:GQ v=some x):Kn nx ρ x v:=by
 unfold GQ at h
 split at h
 · split at h
   · rename_i l y hy
     cases h
     have:=AO (nx:=nx) (ρ:=ρ) hy
     exact ⟨this.1,qW.2 ⟨_,this.2,rfl⟩⟩
   cases h
 · split at h
   · rename_i l y hy
     cases h
     have:=AO (nx:=nx) (ρ:=ρ) hy
     exact ⟨this.1,oL.2 ⟨_,this.2,rfl⟩⟩
   cases h
 exact Td h
end
def sH (E:Tr CV):Operand→Option CV
 | .tmp t=>E.get t
 | .const v=>GQ v
 | .func f=>some (.fn f .nil .nil)
 | .global _=>none
def Vz (E:Tr CV) (l:List Operand):Option CV:=List.rec (some .nil) (fun x _ ih=>match sH E x with | some a=>(match ih with | some b=>some (.cons a b) | none=>none) | none=>none) l
theorem yJ:∀ (vs:List Value) (i j:Nat),(sU i vs).get (i+j)=vs[j]?
 | [],i,j=>rfl
 | v :: vs,i,j=>by
   show Env.get ((i,v) :: sU (i+1) vs) (i+j)=_
   rw [fV]
   cases j with
   | zero=>simp
   | succ j =>
     rw [aF (by omega),show i+(j+1)=(i+1)+j by omega,yJ vs (i+1) j]
     rfl
def eA (a:Act):Env:=sU 0 a.tmps.toList
theorem Rb (a:Act) (i:Nat):(eA a).get i=a.tmps[i]?:=by
 have:=yJ a.tmps.toList 0 i
 rw [bO] at this
 unfold eA
 rw [this,lJ]
section
variable {nx n:Nat} {ρ:Pl} {E:Tr CV} {a:Act}
theorem rC (h:Slots ρ E nx n a) {x:Operand} {c:CV} (hc:sH E x=some c):∃ v,(eA a).ev x=some v∧Kn nx ρ c v:=by
 cases x with
 | tmp t =>
   obtain ⟨v,h1,h2⟩:=h.2 t c hc
   exact ⟨v,by show (eA a).get t=_;rw [Rb];exact h1,h2⟩
 | const v=>exact ⟨v,rfl,AP hc⟩
 | func f =>
   cases hc
   exact ⟨_,rfl,⟨⟨trivial,trivial⟩,DV.fn.2 ⟨[],[],rfl,rfl,rfl⟩⟩⟩
 | global g=>cases hc
theorem Dy (h:Slots ρ E nx n a):∀ {l:List Operand} {c:CV},Vz E l=some c→∃ vs,(eA a).evs l=some vs∧KL nx ρ c vs:=by
 intro l
 induction l with
 | nil=>intro c hc;cases hc;exact ⟨[],rfl,lT⟩
 | cons x l ih =>
   intro c hc
   have hc':(match sH E x with | some a=>(match Vz E l with | some b=>some (.cons a b) | none=>none) | none=>none)=some c:=hc
   split at hc'
   · rename_i c1 h1
     split at hc'
     · rename_i c2 h2
       cases hc'
       obtain ⟨v,e1,k1⟩:=rC h h1
       obtain ⟨vs,e2,k2⟩:=ih h2
       exact ⟨v :: vs,by unfold Env.evs;rw [e1,e2],nR k1 k2⟩
     cases hc'
   cases hc'
theorem lookN (a:Act) (w:World):Look (eA a) [] (fun _=>none) a w:=
 ⟨fun i v h=>by rw [Rb] at h;exact h,⟨fun t b o h=>vU,fun t t' b o o' h=>vU,fun b o h=>vU,fun t b o h=>vU⟩⟩
theorem LO (a:Act) {w:World} {b:Nat} {o:Obj} (hb:w.heap[b]?=some o):Look (eA a) [(0,some b,o)] (fun _=>none) a w:=
 ⟨fun i v h=>by rw [Rb] at h;exact h,⟨fun t b' o' h=>(by
  rw [bF] at h
  split at h
  · cases h;exact hb
  · cases h),fun t t' b1 o1 o2 h h'=>(by
  rw [bF] at h h'
  split at h <;> split at h'
  · omega
  · cases h'
  · cases h
  cases h),fun b o h=>vU,fun t b o h=>rfl⟩⟩
end
def Xc (P:Program) (T:Nat):Option Nat:=match P.info? T with | some i=>some i.size | none=>none
def JI (P:Program) (T:Nat):Option Nat:=match Xc P T with | some k=>bif tX P T k then some k else none | none=>none
def NS (P:Program) (s f:Nat):Option Nat:=match P.underlying s with
 | some (.struct ⟨fs⟩)=>match zT fs f with
   | some fd=>match Xc P fd.type with
     | some k=>bif Nat.beq k 0 then none else some fd.offset
     | none=>none
   | none=>none
 | _=>none
def Jy (P:Program) (T:Nat):Option (Nat×Nat):=match P.underlying T with
 | some (.slice E)=>match Xc P E with | some k=>some (E,k) | none=>none
 | _=>none
theorem zN {P:Program} {T k:Nat} (h:Xc P T=some k):(P.info? T).map (·.size)=some k:=by
 unfold Xc at h
 split at h
 · rename_i i hi;rw [hi];exact h
 cases h
theorem AQ {P:Program} {T k:Nat} (h:JI P T=some k):tX P T k=true:=by
 unfold JI at h
 split at h
 · rename_i m hm
   cases hb:tX P T m with
   | true=>rw [hb] at h;cases h;exact hb
   | false=>rw [hb] at h;cases h
 cases h
theorem tJ {P:Program} {T E k:Nat} (h:Jy P T=some (E,k)):rH P T E k:=by
 unfold Jy at h
 split at h
 · rename_i E' hu
   split at h
   · rename_i m hm
     cases h
     exact ⟨hu,zN hm⟩
   cases h
 cases h
theorem IC {P:Program} {s f k:Nat} (h:NS P s f=some k):Dq P s f k:=by
 unfold NS at h
 split at h
 · rename_i fs hu
   split at h
   · rename_i fd hf
     split at h
     · rename_i m hm
       cases hb:Nat.beq m 0 with
       | true=>rw [hb] at h;cases h
       | false =>
         rw [hb] at h
         cases h
         intro b o w
         rw [uJ] at hf
         have h1:fs.toArray[f]?=some fd:=by simpa using hf
         have h2:=run_sizeOf (P:=P) w (zN hm)
         have h3:m≠0:=fun e=>by subst e;simp at hb
         simp only [Instr.fieldAt,aY,aO hu,aG,h1,Instr.sureAddr,bB,fieldPlace,h2,h3,dO,add_lit]
     cases h
   cases h
 cases h
def Cj (m n:Int):Bool:=Int.rec (fun a=>Int.rec (fun b=>Nat.beq a b) (fun _=>false) n) (fun a=>Int.rec (fun _=>false) (fun b=>Nat.beq a b) n) m
def tS (m n:Int):Bool:=Int.rec (fun a=>Int.rec (fun b=>Nat.ble a b) (fun _=>false) n) (fun a=>Int.rec (fun _=>true) (fun b=>Nat.ble b a) n) m
theorem Gq (a b:Nat):Nat.beq a b=decide (a=b):=by
 cases h:Nat.beq a b with
 | true=>rw [aB h];simp
 | false => have:a≠b:=fun e=>by subst e;simp at h
            simp [this]
theorem Gr (a b:Nat):Nat.ble a b=decide (a≤b):=by
 cases h:Nat.ble a b with
 | true=>simp [aU h]
 | false => have:¬a≤b:=fun e=>by rw [Nat.ble_eq_true_of_le e] at h;cases h
            simp [this]
theorem tW (m n:Int):Cj m n=decide (m=n):=by
 cases m <;> cases n
 · rename_i a b;show Nat.beq a b=_;rw [Gq];exact fH.2 ⟨fun h=>by rw [h],fun h=>Int.ofNat.inj h⟩
 · rename_i a b;show false=_;symm;rw [dE];intro h;cases h
 · rename_i a b;show false=_;symm;rw [dE];intro h;cases h
 rename_i a b;show Nat.beq a b=_;rw [Gq];exact fH.2 ⟨fun h=>by rw [h],fun h=>Int.negSucc.inj h⟩
theorem sM (m n:Int):tS m n=decide (m≤n):=by
 cases m <;> cases n
 · rename_i a b;show Nat.ble a b=_;rw [Gr];exact fH.2 ⟨fun h=>mW.2 h,fun h=>mW.1 h⟩
 · rename_i a b;show false=_;symm;rw [dE];intro h;have:=Int.negSucc_lt_zero b;have:=kM a;simp only [hZ] at h;omega
 · rename_i a b;show true=_;symm;rw [aS];have:=Int.negSucc_lt_zero a;have:=kM b;simp only [hZ];omega
 rename_i a b;show Nat.ble b a=_;rw [Gr];exact fH.2 ⟨fun h=>by omega,fun h=>by omega⟩
def LP (lim a:Nat) (z w:Int):Int:=bif Nat.ble a lim then z else w
theorem Rd {lim a:Nat} {z w:Int} (h:a≤lim→w=z):LP lim a z w=w:=by
 unfold LP
 cases hb:Nat.ble a lim with
 | true=>exact (h (aU hb)).symm
 | false=>rfl
def LQ (z:Int):Int:=Int.rec (fun a=>LP 9223372036854775807 a (.ofNat a) (IntKind.wrap .i64 (.ofNat a))) (fun a=>LP 9223372036854775807 a (.negSucc a) (IntKind.wrap .i64 (.negSucc a))) z
def NT (lim:Nat) (k:IntKind) (z:Int):Int:=Int.rec (fun a=>LP lim a (.ofNat a) (k.wrap (.ofNat a))) (fun a=>k.wrap (.negSucc a)) z
def wr (k:IntKind) (z:Int):Int:=match k with
 | .i64=>LQ z
 | .u64=>NT 18446744073709551615 .u64 z
 | .u32=>NT 4294967295 .u32 z
 | .u8=>NT 255 .u8 z
 | k=>k.wrap z
theorem FE (z:Int):LQ z=IntKind.wrap .i64 z:=by
 cases z with
 | ofNat a=>exact Rd fun h=>jO _ (by simp only [hZ];omega)
 | negSucc a=>exact Rd fun h=>jO _ qX
theorem Re {lim:Nat} {k:IntKind} (h:∀ a:Nat,a≤lim→k.wrap (.ofNat a)=.ofNat a) (z:Int):NT lim k z=k.wrap z:=by
 cases z with
 | ofNat a=>exact Rd (h a)
 | negSucc a=>exact Eq.refl (k.wrap (.negSucc a))
theorem Gs (k:IntKind) (z:Int):wr k z=k.wrap z:=by
 cases k
 case i64=>exact FE z
 case u64=>exact Re (fun a h=>gS _ (by simp only [hZ];omega)) z
 case u32=>exact Re (fun a h=>by rw [qV];simp only [hZ];omega) z
 case u8=>exact Re (fun a h=>by rw [IntKind.wrap_u8];simp only [hZ];omega) z
 all_goals exact Eq.refl _
def bo (o:BinOp) (k:IntKind) (m n:Int):Option CV:=match o with
 | .eql=>some (.bool (Cj m n))
 | .neq=>some (.bool (not (Cj m n)))
 | .lss=>some (.bool (not (tS n m)))
 | .leq=>some (.bool (tS m n))
 | .gtr=>some (.bool (not (tS m n)))
 | .geq=>some (.bool (tS n m))
 | .add=>some (.int k (wr k (Int.add m n)))
 | .sub=>some (.int k (wr k (Int.sub m n)))
 | .mul=>some (.int k (wr k (Int.mul m n)))
 | .quo=>bif Cj n 0 then none else some (.int k (wr k (Int.tdiv m n)))
 | .rem=>bif Cj n 0 then none else some (.int k (Int.tmod m n))
 | .and=>some (.int k (bits .and k m n))
 | .or=>some (.int k (bits .or k m n))
 | _=>none
def sh (o:BinOp) (k:IntKind) (m n:Int):Option CV:=match o with
 | .shl=>bif tS 0 n then some (.int k (wr k (Int.mul m (2 ^ (min n.toNat k.bits))))) else none
 | .shr=>bif tS 0 n then some (.int k (Int.fdiv m (2 ^ (min n.toNat k.bits)))) else none
 | _=>none
section
variable {P:Program} {e:Env} {H:Hp} {G:Imm} {ty t t':TypeId} {x y:Operand} {k k':IntKind} {m n:Int} {nx:Nat} {ρ:Pl} {c:CV}
theorem Ay (p:Prop) [Decidable p]:(not (decide p))=decide (¬p):=by by_cases h:p <;> simp [h]
theorem LS {o:BinOp} (hx:e.ev x=some (.int k m)) (hy:e.ev y=some (.int k n)) (h:bo o k m n=some c):∃ v,Kn nx ρ c v∧∀ ty,Qy P (.binOp o t x y t') ty e H G v:=by
 cases o <;> first | (cases h;done) | skip
 case eql=>cases h;exact ⟨_,⟨trivial,rfl⟩,fun ty=>by rw [tW];exact Qy.eql hx hy⟩
 case neq=>cases h;exact ⟨_,⟨trivial,rfl⟩,fun ty=>by rw [tW,Ay];exact Qy.neq hx hy⟩
 case lss=>cases h;exact ⟨_,⟨trivial,rfl⟩,fun ty=>by rw [sM,Ay,show decide (¬n≤m)=decide (m<n) from fH.2 Int.not_le];exact Qy.lss hx hy⟩
 case leq=>cases h;exact ⟨_,⟨trivial,rfl⟩,fun ty=>by rw [sM];exact Qy.leq hx hy⟩
 case gtr=>cases h;exact ⟨_,⟨trivial,rfl⟩,fun ty=>by rw [sM,Ay,show decide (¬m≤n)=decide (n<m) from fH.2 Int.not_le];exact Qy.gtr hx hy⟩
 case geq=>cases h;exact ⟨_,⟨trivial,rfl⟩,fun ty=>by rw [sM];exact Qy.geq hx hy⟩
 case add=>cases h;exact ⟨_,⟨trivial,rfl⟩,fun ty=>by rw [Gs];exact Ks hx hy⟩
 case sub=>cases h;exact ⟨_,⟨trivial,rfl⟩,fun ty=>by rw [Gs];exact Do hx hy⟩
 case mul=>cases h;exact ⟨_,⟨trivial,rfl⟩,fun ty=>by rw [Gs];exact kG hx hy⟩
 case quo =>
  have h':(bif Cj n 0 then none else some (CV.int k (wr k (Int.tdiv m n))))=some c:=h
  have e:=tW n 0
  by_cases h0:n=0
  · rw [e,cR h0] at h';cases h'
  rw [e,bR h0] at h'
  cases h'
  exact ⟨_,⟨trivial,rfl⟩,fun ty=>by rw [Gs];exact Ku hx hy h0⟩
 case rem =>
  have h':(bif Cj n 0 then none else some (CV.int k (Int.tmod m n)))=some c:=h
  have e:=tW n 0
  by_cases h0:n=0
  · rw [e,cR h0] at h';cases h'
  rw [e,bR h0] at h'
  cases h'
  exact ⟨_,⟨trivial,rfl⟩,fun ty=>Qy.rem hx hy h0⟩
 case and=>cases h;exact ⟨_,⟨trivial,rfl⟩,fun ty=>kW hx hy⟩
 case or=>cases h;exact ⟨_,⟨trivial,rfl⟩,fun ty=>En hx hy⟩
theorem LU {o:BinOp} (hx:e.ev x=some (.int k m)) (hy:e.ev y=some (.int k' n)) (h:sh o k m n=some c):∃ v,Kn nx ρ c v∧∀ ty,Qy P (.binOp o t x y t') ty e H G v:=by
 cases o <;> first | (cases h;done) | skip
 case shl =>
  have h':(bif tS 0 n then some (CV.int k (wr k (Int.mul m (2 ^ (min n.toNat k.bits))))) else none)=some c:=h
  have e:=sM 0 n
  by_cases h0:0≤n
  · rw [e,cR h0] at h'
    cases h'
    exact ⟨_,⟨trivial,rfl⟩,fun ty=>by rw [Gs];exact Qy.shl hx hy h0⟩
  rw [e,bR h0] at h';cases h'
 case shr =>
  have h':(bif tS 0 n then some (CV.int k (Int.fdiv m (2 ^ (min n.toNat k.bits)))) else none)=some c:=h
  have e:=sM 0 n
  by_cases h0:0≤n
  · rw [e,cR h0] at h'
    cases h'
    exact ⟨_,⟨trivial,rfl⟩,fun ty=>nC hx hy h0⟩
  rw [e,bR h0] at h';cases h'
end
def ID (e:Env) (d:Nat):Option Operand→Nat→Prop
 | none,l=>l=d
 | some y,l=>∃ k,e.ev y=some (.int k (l:Int))
section
variable {P:Program} {e:Env} {H:Hp} {G:Imm} {ty T:TypeId}
theorem Wa {x:Operand} {fs:Array Field} {fd:Field} {i:Nat} {vs:List Value} {v:Value} (hu:P.underlying T=some (.struct fs)) (hf:fs[i]?=some fd) (h1:sY P fd.type=true)
 (hx:e.ev x=some (.agg vs.toArray)) (hv:vs[fd.offset]?=some v):Qy P (.field T x i) ty e H G v:=fun a w _ _ _ _ hh=>by
 simp [execOp,hh.eval hx,Instr.field,aO hu,hf,asAgg,part,tG w h1,hv]
theorem Wb {x:Operand} {fs:Array Field} {fd:Field} {i k:Nat} {vs:List Value} (hu:P.underlying T=some (.struct fs)) (hf:fs[i]?=some fd) (h1:tX P fd.type k=true)
 (hx:e.ev x=some (.agg vs.toArray)):Qy P (.field T x i) ty e H G (.agg ((vs.drop fd.offset).take k).toArray):=fun a w _ _ _ _ hh=>by
 have h2:=run_sizeOf (P:=P) w (El h1)
 simp [execOp,hh.eval hx,Instr.field,aO hu,hf,asAgg,part,wR w h1,h2]
theorem Dg {x:Operand} {lo hi:Option Operand} {a:Option Addr} {n c l h E sz:Nat} (hT:rH P T E sz) (hx:e.ev x=some (.slice a n c))
 (hl:ID e 0 lo l) (hh:ID e n hi h) (hlh:l≤h) (hhc:h≤c) :
 Qy P (.slice T x lo hi none) ty e H G (.slice (if c=l then a else a.map (·.add (l*sz))) (h - l) (c - l)):=fun ac w _ _ _ _ hk=>by
 have hr:=run_sizeOf (P:=P) w hT.2
 have e1:(h:Int)≤c:=qX
 have e2:(l:Int)≤h:=qX
 cases lo with
 | none =>
   have hl:l=0:=hl
   subst hl
   cases hi with
   | none=>have hh:h=n:=hh;subst hh;simp [execOp,Instr.sliceAt,Instr.slice,hk.eval hx,aO hT.1,Instr.sliceBounds,Instr.sliceBound,asIntOf,hr]
   | some y =>
     obtain ⟨k,hy⟩:=hh
     simp [execOp,Instr.sliceAt,Instr.slice,hk.eval hx,hk.eval hy,aO hT.1,Instr.sliceBounds,Instr.sliceBound,asIntOf,hr,e1,hhc]
 | some z =>
   obtain ⟨kz,hz⟩:=hl
   cases hi with
   | none =>
     have hh:h=n:=hh
     subst hh
     simp [execOp,Instr.sliceAt,Instr.slice,hk.eval hx,hk.eval hz,aO hT.1,Instr.sliceBounds,Instr.sliceBound,asIntOf,hr,e2,hlh]
   | some y =>
     obtain ⟨k,hy⟩:=hh
     simp [execOp,Instr.sliceAt,Instr.slice,hk.eval hx,hk.eval hz,hk.eval hy,aO hT.1,Instr.sliceBounds,Instr.sliceBound,asIntOf,hr,e1,e2,hlh,hhc]
theorem Iu {x i:Operand} {b o n sz E:Nat} {k:IntKind} {m:Int} (hu:P.underlying T=some (.array n E)) (hs:(P.info? E).map (·.size)=some sz) (hx:e.ev x=some (.pointer (some ⟨b,o,none⟩))) (hi:e.ev i=some (.int k m))
 (hb:0≤m∧m<n):Qy P (.indexAddr T x i) ty e H G (.pointer (some ⟨b,o+m.toNat*sz,none⟩)):=fun a w _ _ _ _ hh=>by
 simp [execOp,Instr.indexAt,hh.eval hx,hh.eval hi,asIntOf,aO hu,Instr.sureAddr,hb,run_sizeOf w hs,add_lit]
theorem Qy.indexV {x i:Operand} {n E:Nat} {k:IntKind} {m:Int} {vs:List Value} {v:Value} (hu:P.underlying T=some (.array n E)) (h1:sY P E=true) (hs:(P.info? E).map (·.size)=some 1) (hx:e.ev x=some (.agg vs.toArray)) (hi:e.ev i=some (.int k m))
 (hb:0≤m∧m<n) (hv:vs[m.toNat]?=some v):Qy P (.index T x i) ty e H G v:=fun a w _ _ _ _ hh=>by
 simp [execOp,Instr.index,hh.eval hx,hh.eval hi,asIntOf,aO hu,hb,run_sizeOf w hs,part,tG w h1,hv]
theorem Rf {x i:Operand} {n E sz:Nat} {k:IntKind} {m:Int} {vs:List Value} (hu:P.underlying T=some (.array n E)) (h1:tX P E sz=true) (hx:e.ev x=some (.agg vs.toArray)) (hi:e.ev i=some (.int k m))
 (hb:0≤m∧m<n):Qy P (.index T x i) ty e H G (.agg ((vs.drop (m.toNat*sz)).take sz).toArray):=fun a w _ _ _ _ hh=>by
 have h2:=run_sizeOf (P:=P) w (El h1)
 simp [execOp,Instr.index,hh.eval hx,hh.eval hi,asIntOf,aO hu,hb,h2,part,wR w h1]
theorem FG {x:Operand} {s:ByteArray} (ht:P.underlying T=some .string) (hx:e.ev x=some (.string s)):Qy P (.call { callee:=.builtin .len,args:=#[x],argTypes:=#[T] }) ty e H G (.int .i64 s.size):=fun a w _ _ _ _ hh=>by
 simp [execOp,resolve,invoke,builtin,Builtin.len_,hh.eval hx,aO ht,goInt]
end
section
variable {P:Program} {e:Env} {H:Hp} {G:Imm} {ty T:TypeId}
theorem Qy.eqlPtrNil {t t':TypeId} {x y:Operand} {a:Option Addr} (ht:P.underlying t=some (.pointer (P.pointee t))) (hx:e.ev x=some (.pointer a)) (hy:e.ev y=some (.pointer none)):Qy P (.binOp .eql t x y t') ty e H G (.bool a.isNone):=fun w0 w _ _ _ _ hh=>by
 have:=run_equalIn_pointer_nil (P:=P) w 9999 t a ht
 simp [execOp,hh.eval hx,hh.eval hy,binOp,eqGuard,Op.equal,Op.maxDepth,this]
theorem Az {t t':TypeId} {x y:Operand} {a:Option Addr} (ht:P.underlying t=some (.pointer (P.pointee t))) (hx:e.ev x=some (.pointer a)) (hy:e.ev y=some (.pointer none)):Qy P (.binOp .neq t x y t') ty e H G (.bool (!a.isNone)):=fun w0 w _ _ _ _ hh=>by
 have:=run_equalIn_pointer_nil (P:=P) w 9999 t a ht
 simp [execOp,hh.eval hx,hh.eval hy,binOp,eqGuard,Op.equal,Op.maxDepth,this]
theorem Jz {x z:Operand} {lo hi:Option Operand} {a:Option Addr} {n c l h m E sz:Nat} {kz:IntKind} (hT:rH P T E sz) (hx:e.ev x=some (.slice a n c))
 (hl:ID e 0 lo l) (hh:∃ y,hi=some y∧∃ k,e.ev y=some (.int k (h:Int))) (hz:e.ev z=some (.int kz (m:Int))) (hlh:l≤h) (hhm:h≤m) (hmc:m≤c) :
 Qy P (.slice T x lo hi (some z)) ty e H G (.slice (if m=l then a else a.map (·.add (l*sz))) (h - l) (m - l)):=fun ac w _ _ _ _ hk=>by
 have hr:=run_sizeOf (P:=P) w hT.2
 have e1:(h:Int)≤m:=qX
 have e2:(l:Int)≤h:=qX
 have e3:(m:Int)≤c:=qX
 obtain ⟨y,rfl,k,hy⟩:=hh
 cases lo with
 | none =>
   have hl:l=0:=hl
   subst hl
   simp [execOp,Instr.sliceAt,Instr.slice,hk.eval hx,hk.eval hy,hk.eval hz,aO hT.1,Instr.sliceBounds,Instr.sliceBound,asIntOf,hr,e1,e3,hhm,hmc]
 | some u =>
   obtain ⟨ku,hu⟩:=hl
   simp [execOp,Instr.sliceAt,Instr.slice,hk.eval hx,hk.eval hy,hk.eval hz,hk.eval hu,aO hT.1,Instr.sliceBounds,Instr.sliceBound,asIntOf,hr,e1,e2,e3,hhm,hmc,hlh]
end
def LV (P:Program) (T:Nat):Option (Nat×Nat×Nat):=match P.underlying T with
 | some (.array n E)=>match Xc P E with | some k=>some (n,E,k) | none=>none
 | _=>none
theorem Ck {P:Program} {T n E k:Nat} (h:LV P T=some (n,E,k)):P.underlying T=some (.array n E)∧(P.info? E).map (·.size)=some k:=by
 unfold LV at h
 split at h
 · rename_i n' E' hu
   split at h
   · rename_i m hm;cases h;exact ⟨hu,zN hm⟩
   cases h
 cases h
def wV:CV→Option CV
 | .agg l=>some l
 | .tup _=>none
 | .nil=>none
 | .cons _ _=>none
 | x=>some (.cons x .nil)
section
variable {nx n:Nat} {ρ:Pl}
theorem xB {x:CV} {v:Value} (h:Kn nx ρ x v) {l:CV} (hl:wV x=some l):KL nx ρ l v.cells.toList:=by
 have scal:∀ y:CV,Lz y=true→∀ u,Kn nx ρ y u→KL nx ρ (.cons y .nil) u.cells.toList:=fun y hy u hu=>by
  rw [Jf (Jx hu hy)];exact nR hu lT
 cases x with
 | agg m=>cases hl;obtain ⟨vs,h1,h2⟩:=qW.1 h.2;rw [h2];exact ⟨h.1,h1⟩
 | tup m=>cases hl
 | nil=>cases hl
 | cons a b=>cases hl
 | _=>cases hl;exact scal _ rfl _ h
end
def RG (P:Program) (fs:List Field):Option (List (Nat×Nat)):=List.rec (some []) (fun f _ ih=>match Xc P f.type with | some k=>(match ih with | some l=>some ((f.offset,k) :: l) | none=>none) | none=>none) fs
theorem IE {P:Program}:∀ {fs:List Field} {pl:List (Nat×Nat)},RG P fs=some pl→fs.map (fun f=>(f.offset,(P.info? f.type).map (·.size)))=pl.map fun x=>(x.1,some x.2):=by
 intro fs
 induction fs with
 | nil=>intro pl h;cases h;rfl
 | cons f fs ih =>
   intro pl h
   have h':(match Xc P f.type with | some k=>(match RG P fs with | some l=>some ((f.offset,k) :: l) | none=>none) | none=>none)=some pl:=h
   split at h'
   · rename_i k hk
     split at h'
     · rename_i l hl
       cases h'
       rw [bK,bK,ih hl,zN hk]
     cases h'
   cases h'
def GR (P:Program) (T:Nat):Option CV:=match P.info? T with
 | some i=>match i.zero with
   | some v=>match GQ v with
     | some x=>wV x
     | none=>none
   | none=>none
 | none=>none
theorem Gu {P:Program} {T:Nat} {x:CV} (h:GR P T=some x) (nx:Nat) (ρ:Pl):∃ i z,P.info? T=some i∧i.zero=some z∧KL nx ρ x z.cells.toList:=by
 unfold GR at h
 split at h
 · rename_i i hi
   split at h
   · rename_i v hv
     split at h
     · rename_i y hy
       exact ⟨i,v,hi,hv,xB (AP hy) h⟩
     cases h
   cases h
 cases h
def Ba (E:Tr CV) (pl:List (Nat×Nat)) (n:Nat) (parts:List (Nat×Operand)):CV→Option CV:=
 List.rec (fun l=>some l) (fun p _ ih l=>match zT pl p.1 with
  | some (off,size)=>(match sH E p.2 with
    | some c=>(match wV c with
      | some m=>bif Nat.beq (rU m) size && Nat.ble (off+size) n then ih (xA (yI off l) (xA m (yH (off+size) l))) else none
      | none=>none)
    | none=>none)
  | none=>none) parts
section
variable {nx n:Nat} {ρ:Pl} {E:Tr CV} {a:Act}
theorem Bb (hs:Slots ρ E nx n a) {pl:List (Nat×Nat)} {N:Nat}:∀ {parts:List (Nat×Operand)} {l r:CV} {zs:List Value},KL nx ρ l zs→Ba E pl N parts l=some r→
 ∃ vs,vQ (eA a) parts=some vs∧zF pl N vs=true∧KL nx ρ r (vL pl zs vs):=by
 intro parts
 induction parts with
 | nil=>intro l r zs hl h;cases h;exact ⟨[],rfl,rfl,hl⟩
 | cons p parts ih =>
   intro l r zs hl h
   obtain ⟨i,x⟩:=p
   have h':(match zT pl i with
    | some (off,size)=>(match sH E x with
      | some c=>(match wV c with
        | some m=>bif Nat.beq (rU m) size && Nat.ble (off+size) N then Ba E pl N parts (xA (yI off l) (xA m (yH (off+size) l))) else none
        | none=>none)
      | none=>none)
    | none=>none)=some r:=h
   split at h'
   · rename_i off size hp
     split at h'
     · rename_i c hc
       split at h'
       · rename_i m hm
         cases hb:Nat.beq (rU m) size && Nat.ble (off+size) N with
         | true =>
           rw [hb] at h'
           simp only [aA] at hb
           obtain ⟨v,e1,k1⟩:=rC hs hc
           have kc:=xB k1 hm
           have hlen:v.cells.toList.length=size:=by rw [←rX kc];exact aB hb.1
           obtain ⟨vs,e2,o2,k2⟩:=ih (yQ (Aw off hl) (yQ kc (Av (off+size) hl))) h'
           rw [uJ] at hp
           refine ⟨(i,v) :: vs,by unfold vQ;rw [e1,e2],?_,?_⟩
           · unfold zF
             rw [hp,o2,Bool.and_true,hlen]
             simp only [aA]
             exact ⟨by simp,hb.2⟩
           · unfold vL
             rw [hp]
             simp only [hlen]
             exact k2
         | false=>rw [hb] at h';cases h'
       cases h'
     cases h'
   cases h'
end
def IF (P:Program) (fs:List Field):Nat→Bool:=List.rec (fun _=>true) (fun f _ ih j=>match vF P f with | (true,k)=>Nat.beq k j && ih (Nat.succ j) | _=>false) fs
theorem FH {P:Program}:∀ {fs:List Field} {j:Nat},IF P fs j=true→fs.map (vF P)=(List.range' j fs.length).map fun i=>(true,i):=by
 intro fs
 induction fs with
 | nil=>intro j _;rfl
 | cons f fs ih =>
   intro j h
   have h':(match vF P f with | (true,k)=>Nat.beq k j && IF P fs (Nat.succ j) | _=>false)=true:=h
   split at h'
   · rename_i k hk
     rw [aA] at h'
     have e:=aB h'.1
     subst e
     rw [bK,hk,bH,qU,bK,ih h'.2]
   cases h'
def NU (P:Program) (t:Nat):Option Nat:=match P.underlying t with
 | some (.struct ⟨fs⟩)=>bif not (P.stoodInHeld t) && (not (P.eqGuardType P.depth t) && IF P fs 0) then some fs.length else none
 | _=>none
theorem AR {P:Program} {t n:Nat} (h:NU P t=some n):xW P t n:=by
 unfold NU at h
 split at h
 · rename_i fs hu
   rcases rA h with ⟨h1,h2⟩ | ⟨_,h2⟩
   · cases h2
     simp only [aA,cW] at h1
     have hf:P.fieldsOf t=⟨fs⟩:=by unfold Program.fieldsOf;rw [hu]
     refine ⟨by rw [hf];exact hu,h1.1,h1.2.1,?_⟩
     rw [hf,FH h1.2.2,oX]
   cases h2
 cases h
def FI:CV→Option Int
 | .int .i64 n=>some n
 | _=>none
theorem FJ {nx:Nat} {ρ:Pl} {a:CV} {v:Value} {n:Int} (h:FI a=some n) (hk:Kn nx ρ a v):v=.int .i64 n:=by
 unfold FI at h
 split at h
 · cases h;exact hk.2
 cases h
def Oo (l:CV):Option (List Int):=lrec (some []) (fun a _ ih=>match FI a with | some n=>(match ih with | some l=>some (n :: l) | none=>none) | none=>none) l
theorem Oq {nx:Nat} {ρ:Pl} {x:CV} {vs:List Value} (h:KL nx ρ x vs):∀ {xs:List Int},Oo x=some xs→vs=xs.map (Value.int .i64):=by
 refine jZ (motive:=fun x vs=>∀ {xs:List Int},Oo x=some xs→vs=xs.map (Value.int .i64)) ?_ ?_ h
 · intro xs hx
   have hx':some []=some xs:=hx
   cases hx';rfl
 intro a b v vs hv _ ih xs hx
 have hx':(match FI a with | some n=>(match Oo b with | some l=>some (n :: l) | none=>none) | none=>none)=some xs:=hx
 split at hx'
 · rename_i n hn
   split at hx'
   · rename_i l hl
     cases hx'
     rw [bK,←ih hl,FJ hn hv]
   cases hx'
 cases hx'
def LW (xs ys:List Int):Bool:=List.rec (fun ys=>List.rec true (fun _ _ _=>false) ys) (fun x _ ih ys=>List.rec false (fun y l _=>Cj x y && ih l) ys) xs ys
theorem AS:∀ xs ys:List Int,LW xs ys=decide (xs=ys):=by
 intro xs
 induction xs with
 | nil=>intro ys;cases ys with
   | nil=>rfl
   | cons y ys=>show false=_;simp
 | cons x xs ih=>intro ys;cases ys with
   | nil=>show false=_;simp
   | cons y ys =>
     show (Cj x y && LW xs ys)=_
     rw [tW,ih]
     by_cases h1:x=y <;> by_cases h2:xs=ys <;> simp [h1,h2]
theorem FK (b:ByteArray):∀ (k i:Nat) (r:List UInt8),b.size=i+k→ByteArray.toList.loop b i r=r.reverse++b.data.toList.drop i:=by
 intro k
 induction k with
 | zero =>
   intro i r h
   rw [ByteArray.toList.loop]
   rw [aF (by omega),eC (by have:b.data.toList.length=b.size:=rfl;omega),eN]
 | succ k ih =>
   intro i r h
   rw [ByteArray.toList.loop,aT (by omega),ih (i+1) _ qX]
   have hl:i<b.data.toList.length:=by show i<b.size;omega
   rw [gW hl,List.reverse_cons,cV]
   have hs:i<b.size:=qX
   have:b.get! i=b.data.toList[i]:=by
    show b.data[i]! = _
    rw [qD b.data i hs]
    rfl
   rw [this];rfl
theorem Ka (l:List UInt8):(ByteArray.mk l.toArray).toList=l:=by
 show ByteArray.toList.loop _ 0 []=l
 rw [FK _ _ 0 [] (bO _).symm]
 simp
def RH:CV→Option Int
 | .int .u8 n=>some n
 | _=>none
def AT (l:CV):Option (List Int):=lrec (some []) (fun a _ ih=>match RH a with | some n=>(match ih with | some l=>some (n :: l) | none=>none) | none=>none) l
theorem Te {nx:Nat} {ρ:Pl} {x:CV} {vs:List Value} (h:KL nx ρ x vs):∀ {xs:List Int},AT x=some xs→vs=xs.map (Value.int .u8):=by
 refine jZ (motive:=fun x vs=>∀ {xs:List Int},AT x=some xs→vs=xs.map (Value.int .u8)) ?_ ?_ h
 · intro xs hx
   have hx':some []=some xs:=hx
   cases hx';rfl
 intro a b v vs hv _ ih xs hx
 have hx':(match RH a with | some n=>(match AT b with | some l=>some (n :: l) | none=>none) | none=>none)=some xs:=hx
 split at hx'
 · rename_i n hn
   split at hx'
   · rename_i l hl
     cases hx'
     rw [bK,←ih hl]
     unfold RH at hn
     split at hn
     · cases hn;rw [fC.1 hv.2]
     cases hn
   cases hx'
 cases hx'
theorem AU {bs:List UInt8} {xs:List Int} (h:(bs.map fun b=>Value.int .u8 (b.toNat:Int))=xs.map (Value.int .u8)):xs=bs.map fun b=>(b.toNat:Int):=by
 induction bs generalizing xs with
 | nil=>cases xs with
   | nil=>rfl
   | cons x xs=>cases h
 | cons b bs ih=>cases xs with
   | nil=>cases h
   | cons x xs =>
     rw [bK,bK] at h
     injection h with h1 h2
     injection h1 with _ h3
     rw [bK,ih h2,h3]
theorem IG {a b:List UInt8} (h:(a.map fun b=>(b.toNat:Int))=b.map fun b=>(b.toNat:Int)):a=b:=by
 induction a generalizing b with
 | nil=>cases b with
   | nil=>rfl
   | cons y b=>cases h
 | cons x a ih=>cases b with
   | nil=>cases h
   | cons y b =>
     rw [bK,bK] at h
     injection h with h1 h2
     rw [ih h2,UInt8.toNat_inj.1 (Int.ofNat.inj h1)]
section
variable {P:Program} {e:Env} {H:Hp} {G:Imm} {ty:TypeId}
theorem Rg {t t':TypeId} {x y:Operand} {m n:ByteArray} (hx:e.ev x=some (.string m)) (hy:e.ev y=some (.string n)):Qy P (.binOp .eql t x y t') ty e H G (.bool (m.toList == n.toList)):=fun a w _ _ _ _ hh=>by
 simp [execOp,hh.eval hx,hh.eval hy,binOp,eqGuard,Op.stringOp]
theorem Rh {t t':TypeId} {x y:Operand} {m n:ByteArray} (hx:e.ev x=some (.string m)) (hy:e.ev y=some (.string n)):Qy P (.binOp .neq t x y t') ty e H G (.bool (!(m.toList == n.toList))):=fun a w _ _ _ _ hh=>by
 simp [execOp,hh.eval hx,hh.eval hy,binOp,eqGuard,Op.stringOp]
end
def RK (P:Program) (t:Nat) (x y:CV):Option Bool:=match x,y with
 | .bool a,.bool b=>(match P.underlying t with | some .bool=>some (bif a then b else not b) | _=>none)
 | .agg a,.agg b=>(match NU P t with
   | some n=>(match Oo a with
     | some xs=>(match Oo b with
       | some ys=>bif Nat.beq xs.length n && Nat.beq ys.length n then some (LW xs ys) else none
       | none=>none)
     | none=>none)
   | none=>none)
 | .sl _ _ _ _ _,.nils=>(match Jy P t with | some _=>some false | none=>none)
 | .nils,.nils=>(match Jy P t with | some _=>some true | none=>none)
 | .ptr _ _,.nilp=>(match P.underlying t with | some (.pointer _)=>some false | _=>none)
 | .nilp,.nilp=>(match P.underlying t with | some (.pointer _)=>some true | _=>none)
 | .ptr p o,.ptr p' o'=>bif Nat.beq p p' && Nat.beq o o' then (match P.underlying t with | some (.pointer te)=>(match P.info? te with | some _=>some true | none=>none) | _=>none) else none
 | .fn _ _ _,.nilf=>bif Ae P t then some false else none
 | .str a,.str b=>(match AT a with
   | some xs=>(match AT b with | some ys=>some (LW xs ys) | none=>none)
   | none=>none)
 | _,_=>none
theorem Dz {P:Program} {t u:Nat} (h:P.underlying t=some (.pointer u)):P.underlying t=some (.pointer (P.pointee t)):=by
 have:P.pointee t=u:=by unfold Program.pointee;rw [h]
 rw [this];exact h
section
variable {P:Program} {nx n:Nat} {ρ:Pl} {E:Tr CV} {a:Act} {e:Env} {H:Hp} {G:Imm}
theorem Iv {P:Program} {e:Env} {H:Hp} {G:Imm} {ty t t' te:TypeId} {x y:Operand} {ad:Addr} {j:TypeInfo} (ht:P.underlying t=some (.pointer te)) (hj:P.info? te=some j) (hx:e.ev x=some (.pointer (some ad))) (hy:e.ev y=some (.pointer (some ad))):Qy P (.binOp .eql t x y t') ty e H G (.bool true):=fun w0 w _ _ _ _ hh=>by
 have h:∀ d:Nat,(Op.equalIn (d+1) t (.pointer (some ad)) (.pointer (some ad))).run P w=.ok true w:=fun d=>by
  simp [Op.equalIn,aO ht,sizeOf,typeInfo,hj,run_sameAddr_same]
 have h2:=h 9999
 simp [execOp,hh.eval hx,hh.eval hy,binOp,eqGuard,Op.equal,Op.maxDepth,h2]
theorem Iw {P:Program} {e:Env} {H:Hp} {G:Imm} {ty t t' te:TypeId} {x y:Operand} {ad:Addr} {j:TypeInfo} (ht:P.underlying t=some (.pointer te)) (hj:P.info? te=some j) (hx:e.ev x=some (.pointer (some ad))) (hy:e.ev y=some (.pointer (some ad))):Qy P (.binOp .neq t x y t') ty e H G (.bool false):=fun w0 w _ _ _ _ hh=>by
 have h:∀ d:Nat,(Op.equalIn (d+1) t (.pointer (some ad)) (.pointer (some ad))).run P w=.ok true w:=fun d=>by
  simp [Op.equalIn,aO ht,sizeOf,typeInfo,hj,run_sameAddr_same]
 have h2:=h 9999
 simp [execOp,hh.eval hx,hh.eval hy,binOp,eqGuard,Op.equal,Op.maxDepth,h2]
theorem IH {t t':Nat} {x y:Operand} {cx cy:CV} {vx vy:Value} {b:Bool} (h:RK P t cx cy=some b) (kx:Kn nx ρ cx vx) (ky:Kn nx ρ cy vy) (hx:e.ev x=some vx) (hy:e.ev y=some vy) :
 (∀ ty,Qy P (.binOp .eql t x y t') ty e H G (.bool b))∧(∀ ty,Qy P (.binOp .neq t x y t') ty e H G (.bool (not b))):=by
 unfold RK at h
 split at h
 · rename_i p q
   split at h
   · rename_i hu
     cases h
     rw [pO.1 kx.2] at hx
     rw [pO.1 ky.2] at hy
     have e1:(bif p then q else not q)=decide (p=q):=by cases p <;> cases q <;> rfl
     refine ⟨fun ty=>by rw [e1];exact Dp hu hx hy,fun ty=>?_⟩
     rw [e1,Ay]
     exact Kv hu hx hy
   cases h
 · rename_i l m
   split at h
   · rename_i N hN
     split at h
     · rename_i xs hxs
       split at h
       · rename_i ys hys
         rcases rA h with ⟨h1,h2⟩ | ⟨_,h2⟩
         · cases h2
           rw [aA] at h1
           obtain ⟨vs,k1,e1⟩:=qW.1 kx.2
           obtain ⟨us,k2,e2⟩:=qW.1 ky.2
           have kl1:KL nx ρ l vs:=⟨kx.1,k1⟩
           have kl2:KL nx ρ m us:=⟨ky.1,k2⟩
           have g1:=Oq kl1 hxs
           have g2:=Oq kl2 hys
           rw [e1,g1] at hx
           rw [e2,g2] at hy
           rw [AS]
           have hT:=AR hN
           refine ⟨fun ty=>zZ xs ys hT hx hy (aB h1.1) (aB h1.2),fun ty=>?_⟩
           rw [Ay]
           exact DI xs ys hT hx hy (aB h1.1) (aB h1.2)
         cases h2
       cases h
     cases h
   cases h
 · rename_i t1 o1 n1 s1 c1
   split at h
   · rename_i q hT
     obtain ⟨E',sz⟩:=q
     cases h
     have e2:=lF.1 ky.2
     subst e2
     have hs:∃ c',vx=.slice (some ⟨(ρ t1).1,o1,none⟩) n1 c':=by
      cases c1 with
      | some c=>exact ⟨c,(iK.1 kx.2).1⟩
      | none=>obtain ⟨c,h1,_⟩:=lE.1 kx.2;exact ⟨c,h1⟩
     obtain ⟨c',rfl⟩:=hs
     refine ⟨fun ty=>?_,fun ty=>?_⟩
     · have:=fA (t':=t') (ty:=ty) (H:=H) (G:=G) (tJ hT) hx hy;simpa using this
     have:=xZ (t':=t') (ty:=ty) (H:=H) (G:=G) (tJ hT) hx hy;simpa using this
   cases h
 · split at h
   · rename_i q hT
     obtain ⟨E',sz⟩:=q
     cases h
     have e1:=lF.1 kx.2
     have e2:=lF.1 ky.2
     subst e1 e2
     refine ⟨fun ty=>?_,fun ty=>?_⟩
     · have:=fA (t':=t') (ty:=ty) (H:=H) (G:=G) (tJ hT) hx hy;simpa using this
     have:=xZ (t':=t') (ty:=ty) (H:=H) (G:=G) (tJ hT) hx hy;simpa using this
   cases h
 · split at h
   · rename_i u hu
     cases h
     have e1:=kO.1 kx.2
     have e2:=DV.nilp.1 ky.2
     subst e1 e2
     exact ⟨fun ty=>Qy.eqlPtrNil (Dz hu) hx hy,fun ty=>Az (Dz hu) hx hy⟩
   cases h
 · split at h
   · rename_i u hu
     cases h
     have e1:=DV.nilp.1 kx.2
     have e2:=DV.nilp.1 ky.2
     subst e1 e2
     exact ⟨fun ty=>Qy.eqlPtrNil (Dz hu) hx hy,fun ty=>Az (Dz hu) hx hy⟩
   cases h
 · rcases rA h with ⟨h1,h2⟩ | ⟨_,h2⟩
   · rw [aA] at h1
     have q1:=aB h1.1
     have q2:=aB h1.2
     subst q1 q2
     split at h2
     · rename_i te hu
       split at h2
       · rename_i j hj
         cases h2
         have e1:=kO.1 kx.2
         have e2:=kO.1 ky.2
         subst e1 e2
         exact ⟨fun ty=>Iv hu hj hx hy,fun ty=>Iw hu hj hx hy⟩
       cases h2
     cases h2
   cases h2
 · rcases rA h with ⟨h1,h2⟩ | ⟨_,h2⟩
   · cases h2
     obtain ⟨xs,ys,_,_,e1⟩:=DV.fn.1 kx.2
     have e2:vy=.nilFunc:=ky.2
     subst e1 e2
     exact ⟨fun ty=>In h1 hx hy,fun ty=>Io h1 hx hy⟩
   cases h2
 · rename_i p q
   split at h
   · rename_i xs hxs
     split at h
     · rename_i ys hys
       cases h
       obtain ⟨vs,bs,k1,e1,e2⟩:=kx.2
       obtain ⟨us,cs,k2,e3,e4⟩:=ky.2
       subst e2 e4
       have g1:=Te (nx:=nx) (ρ:=ρ) (x:=p) (vs:=vs) ⟨kx.1,k1⟩ hxs
       have g2:=Te (nx:=nx) (ρ:=ρ) (x:=q) (vs:=us) ⟨ky.1,k2⟩ hys
       rw [e1] at g1
       rw [e3] at g2
       have q1:=AU g1
       have q2:=AU g2
       have e5:((ByteArray.mk bs.toArray).toList == (ByteArray.mk cs.toArray).toList)=LW xs ys:=by
        rw [Ka,Ka,AS,q1,q2]
        by_cases hbc:bs=cs
        · subst hbc;simp
        have:¬((bs.map fun b=>(b.toNat:Int))=cs.map fun b=>(b.toNat:Int)):=fun h=>hbc (IG h)
        rw [bR this]
        simp [hbc]
       refine ⟨fun ty=>?_,fun ty=>?_⟩
       · rw [←e5];exact Rg hx hy
       rw [←e5];exact Rh hx hy
     cases h
   cases h
 cases h
end
section Ko
variable {κ:Type} [DecidableEq κ] [OneVal κ]
def Ix (eq:κ→κ→Bool) (k:κ) (l:List (κ×Int)):Option Int:=List.rec none (fun x _ ih=>bif eq x.1 k then some x.2 else ih) l
def AV (eq:κ→κ→Bool) (k:κ) (v:Int) (l:List (κ×Int)):List (κ×Int):=List.rec [(k,v)] (fun x xs ih=>bif eq x.1 k then (x.1,v) :: xs else x :: ih) l
theorem Ea {eq:κ→κ→Bool} (he:∀ a b,eq a b=decide (a=b)) (k:κ) (l:List (κ×Int)):Ix eq k l=uF l k:=by
 induction l with
 | nil=>rfl
 | cons x l ih =>
   show (bif eq x.1 k then some x.2 else Ix eq k l)=_
   rw [he,ih]
   by_cases h:x.1=k
   · simp [uF,h]
   simp [uF,h]
theorem FL {eq:κ→κ→Bool} (he:∀ a b,eq a b=decide (a=b)) (k:κ) (v:Int) (l:List (κ×Int)):AV eq k v l=Ii l k v:=by
 induction l with
 | nil=>rfl
 | cons x l ih =>
   obtain ⟨k',u⟩:=x
   show (bif eq k' k then (k',v) :: l else (k',u) :: AV eq k v l)=_
   rw [he,ih]
   by_cases h:k'=k
   · simp [Ii,h]
   simp [Ii,h]
end Ko
def JJ (a b:K4):Bool:=Cj a.c b.c && (Cj a.b b.b && (Cj a.a b.a && Cj a.op b.op))
theorem Mc (a b:K4):JJ a b=decide (a=b):=by
 cases a;cases b
 simp only [JJ,tW]
 rw [Bool.eq_iff_iff]
 simp only [aA,aS,K4.mk.injEq]
 constructor
 · rintro ⟨h1,h2,h3,h4⟩;exact ⟨h4,h3,h2,h1⟩
 rintro ⟨h1,h2,h3,h4⟩;exact ⟨h4,h3,h2,h1⟩
def We (x:CV):Option Int:=match x with
 | .int .i64 n=>some n
 | _=>none
def Wf (x:CV):Option K4:=match x with
 | .agg (.cons (.int .i64 a) (.cons (.int .i64 b) (.cons (.int .i64 c) (.cons (.int .i64 d) .nil))))=>some ⟨a,b,c,d⟩
 | _=>none
def z0 (P:Program) (et:Nat):Bool:=match P.info? et with
 | some i=>match i.zero with | some (.int .i64 n)=>Cj n 0 | _=>false
 | none=>false
theorem GS {P:Program} {et:Nat} (h:z0 P et=true) (w:World):(zeroValue et).run P w=.ok (.int .i64 0) w:=by
 unfold z0 at h
 split at h
 · rename_i i hi
   split at h
   · rename_i n hz
     rw [tW,aS] at h
     subst h
     simp [zeroValue,typeInfo,hi,hz]
   cases h
 cases h
def II (P:Program) (T:Nat):Bool:=match P.underlying T with
 | some (.map kt et)=>match P.underlying kt with | some (.int .i64)=>z0 P et | _=>false
 | _=>false
def IJ (P:Program) (T:Nat):Bool:=match P.underlying T with
 | some (.map kt et)=>match NU P kt with | some n=>Nat.beq n 4 && z0 P et | none=>false
 | _=>false
theorem Md {P:Program} {T:Nat} (h:II P T=true):∃ kt,MapT P T kt Int:=by
 unfold II at h
 split at h
 · rename_i kt et hT
   split at h
   · rename_i hk
     exact ⟨kt,⟨et,hT,GS h⟩,KeyT.int hk⟩
   cases h
 cases h
theorem Me {P:Program} {T:Nat} (h:IJ P T=true):∃ kt,MapT P T kt K4:=by
 unfold IJ at h
 split at h
 · rename_i kt et hT
   split at h
   · rename_i n hk
     rw [aA] at h
     have:=aB h.1
     subst this
     exact ⟨kt,⟨et,hT,GS h.2⟩,KeyT.k4 (AR hk)⟩
   cases h
 cases h
def JK (c:Bool) (r:Option Int):CV:=bif c then .tup (.cons (.int .i64 (match r with | some v=>v | none=>0)) (.cons (.bool (match r with | some _=>true | none=>false)) .nil)) else .int .i64 (match r with | some v=>v | none=>0)
section
variable {P:Program} {nx n:Nat} {ρ:Pl} {w:World}
theorem Eb {x:CV} {n:Int} {v:Value} (h:We x=some n) (hk:Kn nx ρ x v):v=OneVal.val n:=by
 unfold We at h
 split at h
 · cases h;exact fC.1 hk.2
 cases h
theorem Ec {x:CV} {n:K4} {v:Value} (h:Wf x=some n) (hk:Kn nx ρ x v):v=OneVal.val n:=by
 unfold Wf at h
 split at h
 · cases h
   obtain ⟨vs,h1,rfl⟩:=qW.1 hk.2
   obtain ⟨v1,r1,rfl,g1,h1⟩:=jD.1 h1
   obtain ⟨v2,r2,rfl,g2,h1⟩:=jD.1 h1
   obtain ⟨v3,r3,rfl,g3,h1⟩:=jD.1 h1
   obtain ⟨v4,r4,rfl,g4,h1⟩:=jD.1 h1
   rw [DL.nil.1 h1,fC.1 g1,fC.1 g2,fC.1 g3,fC.1 g4]
   rfl
 cases h
theorem Gv {t:Nat} {v:Value} (hk:Kn nx ρ (.mp t) v):v=.map (some (ρ t).1):=DV.mp.1 hk.2
theorem AW {c:Bool} {r:Option Int}:Kn nx ρ (JK c r) (if c then .tuple #[.int .i64 (r.getD 0),.bool r.isSome] else .int .i64 (r.getD 0)):=by
 cases c with
 | false=>cases r <;> exact ⟨trivial,rfl⟩
 | true =>
   cases r with
   | none=>exact ⟨⟨trivial,trivial,trivial⟩,oL.2 ⟨_,jD.2 ⟨_,_,rfl,rfl,jD.2 ⟨_,_,rfl,rfl,rfl⟩⟩,rfl⟩⟩
   | some v=>exact ⟨⟨trivial,trivial,trivial⟩,oL.2 ⟨_,jD.2 ⟨_,_,rfl,rfl,jD.2 ⟨_,_,rfl,rfl,rfl⟩⟩,rfl⟩⟩
variable {κ:Type} [DecidableEq κ] [OneVal κ] {T kt:TypeId}
theorem zO {r:Nat} {xs:List (κ×Int)} {k:κ} (hT:MapT P T kt κ) (hb:w.heap[r]?=some (sC xs)) (c:Bool):(Instr.lookup T (.map (some r)) (OneVal.val k) c).run P w =
 .ok (if c then .tuple #[.int .i64 ((uF xs k).getD 0),.bool (uF xs k).isSome] else .int .i64 ((uF xs k).getD 0)) w:=by
 obtain ⟨⟨et,hu,hz⟩,hk⟩:=hT
 simp only [Instr.lookup,aY,aO hu,aG,kZ (P:=P) hb,bB,hk.check,hk.look]
 cases hm:uF xs k with
 | none=>rw [(Bt xs k).1 hm];cases c <;> simp [hz]
 | some v=>obtain ⟨i,h1,_⟩:=Jj xs k hm;rw [h1];cases c <;> simp
end
def IK (E:Tr CV):Option Operand→Option Int
 | none=>some 0
 | some y=>match sH E y with | some (.int _ m)=>some m | _=>none
def hiC (E:Tr CV) (n:Nat):Option Operand→Option Int
 | none=>some n
 | some y=>match sH E y with | some (.int _ m)=>some m | _=>none
def IL (t o n sz:Nat) (c:Option Nat) (l h:Int):Option CV:=
 bif tS 0 l && tS l h then
  (match c with
  | some c=>bif tS h c then
   (bif Nat.beq c l.toNat then some (.sl t o (Nat.sub h.toNat l.toNat) sz (some 0)) else some (.sl t (Nat.add o (Nat.mul l.toNat sz)) (Nat.sub h.toNat l.toNat) sz (some (Nat.sub c l.toNat)))) else none
  | none=>bif tS h n then
   (bif Nat.beq l.toNat 0 then some (.sl t o h.toNat sz none) else
    bif tS n l then some .sle else some (.sl t (Nat.add o (Nat.mul l.toNat sz)) (Nat.sub h.toNat l.toNat) sz none)) else none)
 else none
def GU (m:Int) (n:Nat):Option Nat→Bool
 | some c=>tS m c
 | none=>tS m n
def AX (E:Tr CV):Op→Option Nat
 | .load _ x=>match sH E x with | some (.ptr t _)=>some t | _=>none
 | .lookup _ x _ _=>match sH E x with | some (.mp t)=>some t | _=>none
 | _=>none
def NV (P:Program) (E:Tr CV) (h:Tr CB) (c:Operand) (x:Operand) (y:Operand):Option CV:=match sH E c with | some (.bool b)=>sH E (bif b then x else y) | _=>none
def qv3 (P:Program) (E:Tr CV) (h:Tr CB) (x:Operand):Option CV:=match sH E x with | some (.bool b)=>some (.bool (not b)) | _=>none
def qv4 (P:Program) (E:Tr CV) (h:Tr CB) (x:Operand):Option CV:=match sH E x with | some (.int k m)=>some (.int k (wr k (0 - m))) | _=>none
def NW (P:Program) (E:Tr CV) (h:Tr CB) (o:BinOp) (t:TypeId) (x:Operand) (y:Operand):Option CV:=match sH E x with
 | some (.int k m)=>match sH E y with
   | some (.int k' n)=>match sh o k m n with
     | some c=>some c
     | none=>bif Xb k k' then bo o k m n else none
   | _=>none
 | some a=>match sH E y with
   | some b=>match RK P t a b with
     | some r=>(match o with | .eql=>some (.bool r) | .neq=>some (.bool (not r)) | _=>none)
     | none=>none
   | none=>none
 | none=>none
def NX (P:Program) (E:Tr CV) (h:Tr CB) (s:TypeId) (t:TypeId) (x:Operand):Option CV:=match P.underlying t with
 | some (.int k')=>match P.underlying s with
   | some _=>match sH E x with | some (.int _ m)=>some (.int k' (wr k' m)) | _=>none
   | none=>none
 | _=>none
def qv7 (P:Program) (E:Tr CV) (h:Tr CB) (x:Operand) (i:Nat):Option CV:=match sH E x with | some (.tup l)=>Ci l i | _=>none
def NY (P:Program) (E:Tr CV) (h:Tr CB) (x:Operand):Option CV:=match sH E x with
 | some (.ptr t o)=>some (.ptr t o)
 | some (.mp t)=>some (.mp t)
 | some (.fn f a b)=>some (.fn f a b)
 | some (.yl t)=>some (.yl t)
 | _=>none
def NZ (P:Program) (E:Tr CV) (h:Tr CB) (s:TypeId) (x:Operand) (f:Nat):Option CV:=match sH E x with
 | some (.ptr t o)=>match NS P s f with | some k=>some (.ptr t (Nat.add o k)) | none=>none
 | _=>none
def LX (P:Program) (E:Tr CV) (h:Tr CB) (T:TypeId) (x:Operand) (i:Nat):Option CV:=match sH E x with
 | some (.agg l)=>match P.underlying T with
   | some (.struct ⟨fs⟩)=>match zT fs i with
     | some fd=>bif sY P fd.type then Ci l fd.offset else (match JI P fd.type with | some k=>some (.agg (yI k (yH fd.offset l))) | none=>none)
     | none=>none
   | _=>none
 | _=>none
def FM (P:Program) (E:Tr CV) (h:Tr CB) (T:TypeId) (x:Operand):Option CV:=match sH E x with
 | some (.ptr t o)=>match h.get t with
   | some (.cells l _ _ _)=>bif sY P T then Vx l o else
     (match JI P T with
     | some k=>bif Nat.beq (rU (sB l o k)) k then some (.agg (sB l o k)) else none
     | none=>none)
   | _=>none
 | _=>none
def LY (P:Program) (E:Tr CV) (h:Tr CB) (f:Nat) (xs:List Operand) (ys:List Operand):Option CV:=match Vz E xs with
 | some a=>match Vz E ys with | some b=>some (.fn f a b) | none=>none
 | none=>none
def FN (P:Program) (E:Tr CV) (h:Tr CB) (T:TypeId) (x:Operand) (i:Operand):Option CV:=match sH E i with
 | some (.int _ m)=>match sH E x with
   | some (.sl t o n sz _)=>match Jy P T with
     | some (_,sz')=>bif Nat.beq sz sz' && (tS 0 m && not (tS n m)) then some (.ptr t (Nat.add o (Nat.mul m.toNat sz'))) else none
     | none=>none
   | some (.ptr t o)=>match LV P T with
     | some (n,_,sz)=>bif tS 0 m && not (tS n m) then some (.ptr t (Nat.add o (Nat.mul m.toNat sz))) else none
     | none=>none
   | _=>none
 | _=>none
def LZ (P:Program) (E:Tr CV) (h:Tr CB) (T:TypeId) (x:Operand) (i:Operand):Option CV:=match sH E i with
 | some (.int _ m)=>match sH E x with
   | some (.agg l)=>match LV P T with
     | some (n,E',sz)=>bif Nat.beq sz 1 && (sY P E' && (tS 0 m && not (tS n m))) then Ci l m.toNat else
      bif tX P E' sz && (Nat.ble 1 sz && (tS 0 m && not (tS n m))) then some (.agg (yI sz (yH (Nat.mul m.toNat sz) l))) else none
     | none=>none
   | _=>none
 | _=>none
def MA (P:Program) (E:Tr CV) (h:Tr CB) (T:TypeId) (x:Operand) (lo:Option Operand) (hi:Option Operand):Option CV:=match sH E x with
 | some (.sl t o n sz c)=>match Jy P T with
   | some (_,sz')=>bif Nat.beq sz sz' then (match IK E lo with
     | some l=>(match hiC E n hi with | some h=>IL t o n sz c l h | none=>none)
     | none=>none) else none
   | none=>none
 | some .nils=>match Jy P T with
   | some _=>(match IK E lo with
     | some l=>(match hiC E 0 hi with | some h=>bif Cj l 0 && Cj h 0 then some .nils else none | none=>none)
     | none=>none)
   | none=>none
 | _=>none
def MB (P:Program) (E:Tr CV) (h:Tr CB) (T:TypeId) (x:Operand) (lo:Option Operand) (y:Operand) (z:Operand):Option CV:=match sH E x with
 | some (.sl t o n sz c)=>match Jy P T with
   | some (_,sz')=>bif Nat.beq sz sz' then (match IK E lo with
     | some l=>(match hiC E n (some y) with
       | some h=>(match sH E z with
         | some (.int _ m)=>bif tS 0 l && (tS l h && (tS h m && GU m n c)) then
          (bif Nat.beq m.toNat l.toNat then some (.sl t o (Nat.sub h.toNat l.toNat) sz (some 0)) else some (.sl t (Nat.add o (Nat.mul l.toNat sz)) (Nat.sub h.toNat l.toNat) sz (some (Nat.sub m.toNat l.toNat)))) else none
         | _=>none)
       | none=>none)
     | none=>none) else none
   | none=>none
 | some .nils=>match Jy P T with
   | some _=>(match IK E lo with
     | some l=>(match hiC E 0 (some y) with
       | some h=>(match sH E z with
         | some (.int _ m)=>bif Cj l 0 && (Cj h 0 && Cj m 0) then some .nils else none
         | _=>none)
       | none=>none)
     | none=>none)
   | none=>none
 | _=>none
def MC (P:Program) (E:Tr CV) (h:Tr CB) (t:TypeId) (parts:List (Nat×Operand)):Option CV:=match P.underlying t with
 | some (.struct ⟨fs⟩)=>match RG P fs with
   | some pl=>match GR P t with
     | some z=>match Ba E pl (rU z) parts z with | some l=>some (.agg l) | none=>none
     | none=>none
   | none=>none
 | some (.array n E')=>match Xc P E' with
   | some sz=>match GR P t with
     | some z=>match Ba E (sZ n sz) (rU z) parts z with | some l=>some (.agg l) | none=>none
     | none=>none
   | none=>none
 | _=>none
def Wg (P:Program) (E:Tr CV) (h:Tr CB) (x:Operand) (T:TypeId):Option CV:=match sH E x with
 | some (.sl _ _ n _ _)=>match Jy P T with | some _=>some (.int .i64 n) | none=>none
 | some .nils=>match Jy P T with | some _=>some (.int .i64 0) | none=>none
 | some .sle=>match Jy P T with | some _=>some (.int .i64 0) | none=>none
 | some (.str s)=>match P.underlying T with | some .string=>some (.int .i64 (rU s)) | _=>none
 | _=>none
def MD (P:Program) (E:Tr CV) (h:Tr CB) (x:Operand) (T:TypeId):Option CV:=match sH E x with
 | some (.sl _ _ _ _ (some c))=>match Jy P T with | some _=>some (.int .i64 c) | none=>none
 | some .nils=>match Jy P T with | some _=>some (.int .i64 0) | none=>none
 | _=>none
def ME (P:Program) (E:Tr CV) (h:Tr CB) (x:Operand) (y:Operand):Option CV:=match sH E x with
 | some (.int k m)=>match sH E y with | some (.int k' n)=>bif Xb k k' then some (.int k (bif tS m n then m else n)) else none | _=>none
 | _=>none
def MF (P:Program) (E:Tr CV) (h:Tr CB) (x:Operand) (y:Operand):Option CV:=match sH E x with
 | some (.int k m)=>match sH E y with | some (.int k' n)=>bif Xb k k' then some (.int k (bif tS n m then m else n)) else none | _=>none
 | _=>none
def OA (P:Program) (E:Tr CV) (h:Tr CB) (T:TypeId) (x i:Operand) (c:Bool):Option CV:=match sH E x with
 | some (.mp t)=>match sH E i with
   | some k=>match h.get t with
     | some (.mapI l _)=>(match We k with | some n=>bif II P T then some (JK c (Ix Cj n l)) else none | none=>none)
     | some (.mapK l _)=>(match Wf k with | some n=>bif IJ P T then some (JK c (Ix JJ n l)) else none | none=>none)
     | _=>none
   | none=>none
 | _=>none
def qv (P:Program) (E:Tr CV) (h:Tr CB):Op→Option CV
 | .move x=>sH E x
 | .assign x=>sH E x
 | .pick c x y=>NV P E h c x y
 | .unOp .not _ x=>qv3 P E h x
 | .unOp .neg _ x=>qv4 P E h x
 | .binOp o t x y _=>NW P E h o t x y
 | .convert s t x=>NX P E h s t x
 | .extract x i=>qv7 P E h x i
 | .nilCheck x=>NY P E h x
 | .fieldAddr s x f=>NZ P E h s x f
 | .field T x i=>LX P E h T x i
 | .load T x=>FM P E h T x
 | .makeFunc (.func f) ⟨xs⟩ ⟨ys⟩=>LY P E h f xs ys
 | .indexAddr T x i=>FN P E h T x i
 | .index T x i=>LZ P E h T x i
 | .slice T x lo hi none=>MA P E h T x lo hi
 | .slice T x lo (some y) (some z)=>MB P E h T x lo y z
 | .build t ⟨parts⟩=>MC P E h t parts
 | .call ⟨.builtin .len,⟨[x]⟩,⟨[T]⟩⟩=>Wg P E h x T
 | .call ⟨.builtin .cap,⟨[x]⟩,⟨[T]⟩⟩=>MD P E h x T
 | .call ⟨.builtin .min,⟨[x,y]⟩,_⟩=>ME P E h x y
 | .call ⟨.builtin .max,⟨[x,y]⟩,_⟩=>MF P E h x y
 | .lookup T x i c=>OA P E h T x i c
 | _=>none
def Yd (P:Program) (op:Op) (nx:Nat) (ρ:Pl) (E:Tr CV) (ob:Nat→Obj) (a:Act) (c:CV):Prop:=
 ∃ v,Kn nx ρ c v∧∀ (w:World),(∀ t,AX E op=some t→w.heap[(ρ t).1]?=some (ob t))→∀ (dst:Option Tmp) (ty:TypeId) (pos:String) (after:Array Edge) (g:Option (Nat×Bool)),(execOp a.eval ⟨dst,op,ty,pos,after,g⟩).run P w=.ok (.value v) w
section
variable {P:Program} {op:Op} {nx n:Nat} {ρ:Pl} {E:Tr CV} {h:Tr CB} {ob:Nat→Obj} {a:Act} {c:CV}
theorem Yd.pure {v:Value} (hk:Kn nx ρ c v) (hq:∀ ty,Qy P op ty (eA a) [] (fun _=>none) v):Yd P op nx ρ E ob a c:=
 ⟨v,hk,fun w _ dst ty pos after g=>hq ty a w dst pos after g (lookN a w)⟩
abbrev dB:=@Yd.pure
theorem Yd.read {v:Value} {t:Nat} (ht:AX E op=some t) (hk:Kn nx ρ c v) (hq:∀ ty,Qy P op ty (eA a) [(0,some (ρ t).1,ob t)] (fun _=>none) v):Yd P op nx ρ E ob a c:=
 ⟨v,hk,fun w hw dst ty pos after g=>hq ty a w dst pos after g (LO a (hw t ht))⟩
theorem vA {k:IntKind} {m:Int}:Kn nx ρ (.int k m) (.int k m):=⟨trivial,rfl⟩
theorem Ed {b:Bool}:Kn nx ρ (.bool b) (.bool b):=⟨trivial,rfl⟩
theorem FO {t o m sz:Nat} {c:Option Nat} {l hi:Int} {r:CV} {v:Value} (hv:Kn nx ρ (.sl t o m sz c) v) (hr:IL t o m sz c l hi=some r) :
 0≤l∧l≤hi∧∃ c',v=.slice (some ⟨(ρ t).1,o,none⟩) m c'∧hi.toNat≤c'∧Kn nx ρ r (.slice (if c'=l.toNat then some ⟨(ρ t).1,o,none⟩ else (some (⟨(ρ t).1,o,none⟩:Addr)).map (·.add (l.toNat*sz))) (hi.toNat - l.toNat) (c' - l.toNat)):=by
 unfold IL at hr
 cases hb:tS 0 l && tS l hi with
 | false=>rw [hb] at hr;cases hr
 | true =>
   rw [hb] at hr
   simp only [eY] at hr
   simp only [aA,sM,aS] at hb
   obtain ⟨h1,h2⟩:=hb
   refine ⟨h1,h2,?_⟩
   have hlh:l.toNat≤hi.toNat:=qX
   cases c with
   | some c =>
     obtain ⟨e1,e2,e3,e4⟩:=iK.1 hv.2
     simp only at hr
     cases hb2:tS hi c with
     | false=>rw [hb2] at hr;cases hr
     | true =>
       rw [hb2] at hr
       simp only [eY] at hr
       simp only [sM,aS] at hb2
       have hhc:hi.toNat≤c:=qX
       refine ⟨c,e1,hhc,?_⟩
       cases hb3:Nat.beq c l.toNat with
       | true =>
         rw [hb3] at hr
         cases hr
         have:=aB hb3
         rw [aT this]
         refine ⟨hv.1,iK.2 ⟨?_,by omega,?_,by simp [maxLen]⟩⟩
         · rw [show c - l.toNat=0 by omega];rfl
         · show hi.toNat - l.toNat≤0;omega
       | false =>
         rw [hb3] at hr
         cases hr
         have hne:c≠l.toNat:=fun e=>by rw [e] at hb3;simp at hb3
         rw [aF hne]
         refine ⟨hv.1,iK.2 ⟨?_,?_,?_,?_⟩⟩
         · show Value.slice (some (Addr.add ⟨(ρ t).1,o,none⟩ (l.toNat*sz))) _ _=_;rw [add_lit];rfl
         · show o+l.toNat*sz+(c - l.toNat)*sz≤_
           have:l.toNat*sz+(c - l.toNat)*sz=c*sz:=by rw [←dI];congr 1;omega
           omega
         · show hi.toNat - l.toNat≤c - l.toNat;omega
         · show c - l.toNat≤_;omega
   | none =>
     obtain ⟨c,e1,e2,e3,e4⟩:=lE.1 hv.2
     simp only at hr
     cases hb2:tS hi m with
     | false=>rw [hb2] at hr;cases hr
     | true =>
       rw [hb2] at hr
       simp only [eY] at hr
       simp only [sM,aS] at hb2
       refine ⟨c,e1,by omega,?_⟩
       cases hb3:Nat.beq l.toNat 0 with
       | true =>
         rw [hb3] at hr
         cases hr
         have h0:=aB hb3
         rw [h0]
         refine ⟨hv.1,lE.2 ⟨c,?_,e2,by omega,e4⟩⟩
         show Value.slice (if c=0 then _ else some (Addr.add ⟨(ρ t).1,o,none⟩ (0*sz))) _ _=_
         rw [mQ,add_lit]
         simp
       | false =>
         rw [hb3] at hr
         simp only [kL] at hr
         cases hb4:tS m l with
         | true =>
           rw [hb4] at hr
           cases hr
           simp only [sM,aS] at hb4
           exact ⟨trivial,_,_,by rw [show hi.toNat - l.toNat=0 by omega]⟩
         | false =>
           rw [hb4] at hr
           cases hr
           simp only [sM,dE] at hb4
           rw [aF (by omega)]
           refine ⟨hv.1,lE.2 ⟨c - l.toNat,?_,?_,?_,?_⟩⟩
           · show Value.slice (some (Addr.add ⟨(ρ t).1,o,none⟩ (l.toNat*sz))) _ _=_;rw [add_lit];rfl
           · show o+l.toNat*sz+(c - l.toNat)*sz=_
             have:l.toNat*sz+(c - l.toNat)*sz=c*sz:=by rw [←dI];congr 1;omega
             omega
           · show hi.toNat - l.toNat≤_;omega
           omega
theorem Gw (hs:Slots ρ E nx n a) {lo:Option Operand} {l:Int} (h:IK E lo=some l) (h0:0≤l):ID (eA a) 0 lo l.toNat:=by
 cases lo with
 | none=>cases h;rfl
 | some y =>
   unfold IK at h
   simp only at h
   split at h
   · rename_i k m hy
     cases h
     obtain ⟨v,e1,k1⟩:=rC hs hy
     rw [fC.1 k1.2] at e1
     exact ⟨k,by rw [cN h0];exact e1⟩
   cases h
theorem Gz (hs:Slots ρ E nx n a) {N:Nat} {lo:Option Operand} {l:Int} (h:hiC E N lo=some l) (h0:0≤l):ID (eA a) N lo l.toNat:=by
 cases lo with
 | none=>cases h;rfl
 | some y =>
   unfold hiC at h
   simp only at h
   split at h
   · rename_i k m hy
     cases h
     obtain ⟨v,e1,k1⟩:=rC hs hy
     rw [fC.1 k1.2] at e1
     exact ⟨k,by rw [cN h0];exact e1⟩
   cases h
end
section
variable {P:Program} {op:Op} {nx n:Nat} {ρ:Pl} {E:Tr CV} {h:Tr CB} {ob:Nat→Obj} {a:Act} {c:CV}
theorem Ha {l:CV} {vs:List Value} (h:KL nx ρ l vs):Kn nx ρ (.agg l) (.agg vs.toArray):=⟨h.1,qW.2 ⟨vs,h.2,rfl⟩⟩
theorem zP {l:CV} {v:Value} (h:Kn nx ρ (.agg l) v):∃ vs,KL nx ρ l vs∧v=.agg vs.toArray:=by
 obtain ⟨vs,h1,h2⟩:=qW.1 h.2
 exact ⟨vs,⟨h.1,h1⟩,h2⟩
theorem Ri {l:CV} {v:Value} (h:Kn nx ρ (.tup l) v):∃ vs,KL nx ρ l vs∧v=.tuple vs.toArray:=by
 obtain ⟨vs,h1,h2⟩:=oL.1 h.2
 exact ⟨vs,⟨h.1,h1⟩,h2⟩
theorem Cl {f:Nat} {x y:CV} {v:Value} (h:Kn nx ρ (.fn f x y) v):∃ xs ys,KL nx ρ x xs∧KL nx ρ y ys∧v=.func (.func f) xs.toArray ys.toArray:=by
 obtain ⟨xs,ys,h1,h2,h3⟩:=DV.fn.1 h.2
 exact ⟨xs,ys,⟨h.1.1,h1⟩,⟨h.1.2,h2⟩,h3⟩
theorem yK {t o m sz:Nat} {cc:Option Nat} {v:Value} (h:Kn nx ρ (.sl t o m sz cc) v):∃ c',v=.slice (some ⟨(ρ t).1,o,none⟩) m c':=by
 cases cc with
 | some c=>exact ⟨c,(iK.1 h.2).1⟩
 | none=>obtain ⟨c,h1,_⟩:=lE.1 h.2;exact ⟨c,h1⟩
theorem yR {m:Int} {N:Nat} (hb:(tS 0 m && not (tS N m))=true):0≤m∧m<N:=by
 simp only [aA,cW,sM,aS,dE] at hb
 omega
theorem Bc {s:CV} {v:Value} (h:Kn nx ρ (.str s) v):∃ bs:List UInt8,v=.string ⟨bs.toArray⟩∧KL nx ρ s (bs.map fun b=>Value.int .u8 b.toNat):=by
 obtain ⟨vs,bs,h1,h2,h3⟩:=h.2
 subst h2
 exact ⟨bs,h3,h.1,h1⟩
theorem Tf (hs:Slots ρ E nx n a) (hm:∀ t b,AX E op=some t→h.get t=some b→DB nx ρ (ρ t).2 b (ob t)) (hq:qv P E h op=some c):Yd P op nx ρ E ob a c:=by
 unfold qv at hq
 unfold NV qv3 qv4 NW NX qv7 NY NZ LX FM LY FN LZ MA MB MC Wg MD ME MF at hq
 split at hq
 · -- move
   obtain ⟨v,e1,k1⟩:=rC hs hq
   exact dB k1 fun ty=>mO e1
 · obtain ⟨v,e1,k1⟩:=rC hs hq
   exact dB k1 fun ty=>Qy.assign e1
 · -- pick
   split at hq
   · rename_i b hb
     obtain ⟨v,e1,k1⟩:=rC hs hb
     obtain ⟨u,e2,k2⟩:=rC hs hq
     rw [pO.1 k1.2] at e1
     exact dB k2 fun ty=>Qy.pick e1 e2
   cases hq
 · -- not
   split at hq
   · rename_i b hb
     cases hq
     obtain ⟨v,e1,k1⟩:=rC hs hb
     rw [pO.1 k1.2] at e1
     exact dB Ed fun ty=>Qy.not e1
   cases hq
 · -- neg
   split at hq
   · rename_i k m hb
     cases hq
     obtain ⟨v,e1,k1⟩:=rC hs hb
     rw [fC.1 k1.2] at e1
     refine dB vA fun ty=>?_
     rw [Gs]
     exact mA e1
   cases hq
 · -- binOp
   split at hq
   · rename_i k m hx
     split at hq
     · rename_i k' n' hy
       obtain ⟨v,e1,k1⟩:=rC hs hx
       obtain ⟨u,e2,k2⟩:=rC hs hy
       rw [fC.1 k1.2] at e1
       rw [fC.1 k2.2] at e2
       split at hq
       · rename_i c' hc
         cases hq
         obtain ⟨v',hk,hq⟩:=LU (P:=P) (H:=[]) (G:=fun _=>none) (nx:=nx) (ρ:=ρ) e1 e2 hc
         exact dB hk hq
       rcases rA hq with ⟨hk,hr1⟩ | ⟨_,hr1⟩
       · have:=By hk
         subst this
         obtain ⟨v',hk,hr1⟩:=LS (P:=P) (H:=[]) (G:=fun _=>none) (nx:=nx) (ρ:=ρ) e1 e2 hr1
         exact dB hk hr1
       cases hr1
     cases hq
   · rename_i ca hne hx
     split at hq
     · rename_i cb hy
       split at hq
       · rename_i r hr
         obtain ⟨v,e1,k1⟩:=rC hs hx
         obtain ⟨u,e2,k2⟩:=rC hs hy
         have he:=fun t'=>IH (t':=t') (H:=[]) (G:=fun _=>none) hr k1 k2 e1 e2
         split at hq
         · cases hq;exact dB Ed (he _).1
         · cases hq;exact dB Ed (he _).2
         cases hq
       cases hq
     cases hq
   cases hq
 · -- convert
   split at hq
   · rename_i k' ht
     split at hq
     · rename_i d hd
       split at hq
       · rename_i k m hx
         cases hq
         obtain ⟨v,e1,k1⟩:=rC hs hx
         rw [fC.1 k1.2] at e1
         refine dB vA fun ty=>?_
         rw [Gs]
         exact jY (by rw [hd];rfl) ht e1
       cases hq
     cases hq
   cases hq
 · -- extract
   split at hq
   · rename_i l hx
     obtain ⟨v,e1,k1⟩:=rC hs hx
     obtain ⟨vs,k2,rfl⟩:=Ri k1
     obtain ⟨u,e2,k3⟩:=yP k2 hq
     exact dB k3 fun ty=>Qy.extract e1 e2
   cases hq
 · -- nilCheck
   split at hq
   · rename_i t o hx
     cases hq
     obtain ⟨v,e1,k1⟩:=rC hs hx
     have e2:=kO.1 k1.2
     subst e2
     exact dB k1 fun ty=>Qy.nilCheck e1
   · rename_i t hx
     cases hq
     obtain ⟨v,e1,k1⟩:=rC hs hx
     have e2:=DV.mp.1 k1.2
     subst e2
     exact dB k1 fun ty=>Kw e1
   · rename_i f x y hx
     cases hq
     obtain ⟨v,e1,k1⟩:=rC hs hx
     obtain ⟨xs,ys,_,_,rfl⟩:=Cl k1
     exact dB k1 fun ty=>Ky e1
   · rename_i t hx
     cases hq
     obtain ⟨v,e1,k1⟩:=rC hs hx
     have e2:v=.func (.yield (ρ t).1) #[] #[]:=k1.2
     subst e2
     exact dB k1 fun ty=>Kz e1
   cases hq
 · -- fieldAddr
   split at hq
   · rename_i t o hx
     split at hq
     · rename_i k hk
       cases hq
       obtain ⟨v,e1,k1⟩:=rC hs hx
       have e2:=kO.1 k1.2
       subst e2
       exact dB (c:=.ptr t (Nat.add o k)) ⟨k1.1,rfl⟩ fun ty=>Qy.fieldAddr (IC hk) e1
     cases hq
   cases hq
 · -- field
   split at hq
   · rename_i l hx
     obtain ⟨v,e1,k1⟩:=rC hs hx
     obtain ⟨vs,k2,rfl⟩:=zP k1
     split at hq
     · rename_i fs hu
       split at hq
       · rename_i fd hf
         rw [uJ] at hf
         rcases rA hq with ⟨h1,hr1⟩ | ⟨_,hr1⟩
         · obtain ⟨u,e2,k3⟩:=yP k2 hr1
           exact dB k3 fun ty=>Wa hu (by simpa using hf) h1 e1 e2
         split at hr1
         · rename_i k hk
           cases hr1
           exact dB (Ha (Aw k (Av fd.offset k2))) fun ty=>Wb hu (by simpa using hf) (AQ hk) e1
         cases hr1
       cases hq
     cases hq
   cases hq
 · -- load
   rename_i T x
   split at hq
   · rename_i t o hx
     split at hq
     · rename_i l bt op' st hb
       obtain ⟨v,e1,k1⟩:=rC hs hx
       have e2:=kO.1 k1.2
       subst e2
       have hrd:AX E (.load T x)=some t:=by show (match sH E x with | some (.ptr t _)=>some t | _=>none)=some t;rw [hx]
       obtain ⟨vs,junk,kl,eo,_,_⟩:=hm t _ hrd hb
       rcases rA hq with ⟨h1,hr1⟩ | ⟨_,hr1⟩
       · obtain ⟨u,e2,k3⟩:=Tc kl hr1
         refine Yd.read hrd k3 fun ty=>Qy.load 0 h1 e1 (by rw [eo];rfl) ?_
         rw [bE (aJ.1 e2).1];exact e2
       split at hr1
       · rename_i k hk
         rcases rA hr1 with ⟨h2,hr2⟩ | ⟨_,hr2⟩
         · cases hr2
           have kk:=uZ kl (aB (by first | exact hb2 | exact h2 | exact hb | assumption))
           have hlen:=rX kk
           rw [aB h2] at hlen
           refine Yd.read hrd (Ha kk) fun ty=>fM 0 (AQ hk) e1 (by rw [eo];rfl) ?_ hlen.symm
           have h3:o+k≤vs.length∨k=0:=by
            rw [bJ,cU] at hlen
            omega
           rcases h3 with h3 | h3
           · rw [dF qX,eB Sa]
           subst h3;simp
         cases hr2
       cases hr1
     cases hq
   cases hq
 · -- makeFunc
   split at hq
   · rename_i x hx
     split at hq
     · rename_i y hy
       cases hq
       obtain ⟨us,e1,k1⟩:=Dy hs hx
       obtain ⟨vs,e2,k2⟩:=Dy hs hy
       exact dB ⟨⟨k1.1,k2.1⟩,DV.fn.2 ⟨us,vs,k1.2,k2.2,rfl⟩⟩ fun ty=>kU e1 e2
     cases hq
   cases hq
 · -- indexAddr
   split at hq
   · rename_i k m hi
     obtain ⟨vi,ei,ki⟩:=rC hs hi
     rw [fC.1 ki.2] at ei
     split at hq
     · rename_i t o N sz cc hx
       split at hq
       · rename_i E' sz' hT
         rcases rA hq with ⟨h1,hr1⟩ | ⟨_,hr1⟩
         · cases hr1
           have h1':Nat.beq sz sz'=true∧(tS 0 m && not (tS N m))=true:=by simpa only [aA] using h1
           have:=aB h1'.1
           subst this
           obtain ⟨v,e1,k1⟩:=rC hs hx
           obtain ⟨c',rfl⟩:=yK k1
           exact dB (c:=.ptr t (Nat.add o (Nat.mul m.toNat sz))) ⟨k1.1,rfl⟩ fun ty=>cL (tJ hT) e1 ei (yR h1'.2)
         cases hr1
       cases hq
     · rename_i t o hx
       split at hq
       · rename_i N E' sz hT
         rcases rA hq with ⟨h1,hr1⟩ | ⟨_,hr1⟩
         · cases hr1
           obtain ⟨v,e1,k1⟩:=rC hs hx
           have e2:=kO.1 k1.2
           subst e2
           exact dB (c:=.ptr t (Nat.add o (Nat.mul m.toNat sz))) ⟨k1.1,rfl⟩ fun ty=>Iu (Ck hT).1 (Ck hT).2 e1 ei (yR h1)
         cases hr1
       cases hq
     cases hq
   cases hq
 · -- index
   split at hq
   · rename_i k m hi
     obtain ⟨vi,ei,ki⟩:=rC hs hi
     rw [fC.1 ki.2] at ei
     split at hq
     · rename_i l hx
       split at hq
       · rename_i N E' sz hT
         rcases rA hq with ⟨h1,hr1⟩ | ⟨_,hr1⟩
         · have h1':Nat.beq sz 1=true∧sY P E'=true∧(tS 0 m && not (tS N m))=true:=by simpa only [aA] using h1
           have:=aB h1'.1
           subst this
           obtain ⟨v,e1,k1⟩:=rC hs hx
           obtain ⟨vs,k2,rfl⟩:=zP k1
           obtain ⟨u,e2,k3⟩:=yP k2 hr1
           exact dB k3 fun ty=>Qy.indexV (Ck hT).1 h1'.2.1 (Ck hT).2 e1 ei (yR h1'.2.2) e2
         rcases rA hr1 with ⟨h2,hr2⟩ | ⟨_,hr2⟩
         · have h2':tX P E' sz=true∧Nat.ble 1 sz=true∧(tS 0 m && not (tS N m))=true:=by simpa only [aA] using h2
           cases hr2
           obtain ⟨v,e1,k1⟩:=rC hs hx
           obtain ⟨vs,k2,rfl⟩:=zP k1
           exact dB (Ha (Aw sz (Av (Nat.mul m.toNat sz) k2))) fun ty=>Rf (Ck hT).1 h2'.1 e1 ei (yR h2'.2.2)
         cases hr2
       cases hq
     cases hq
   cases hq
 · -- slice
   split at hq
   · rename_i t o N sz cc hx
     split at hq
     · rename_i E' sz' hT
       rcases rA hq with ⟨h1,hr1⟩ | ⟨_,hr1⟩
       · have:=aB h1
         subst this
         split at hr1
         · rename_i l hl
           split at hr1
           · rename_i hi hh
             obtain ⟨v,e1,k1⟩:=rC hs hx
             obtain ⟨h2,h3,c',rfl,h4,k2⟩:=FO k1 hr1
             exact dB k2 fun ty=>Dg (tJ hT) e1 (Gw hs hl h2) (Gz hs hh qX) qX h4
           cases hr1
         cases hr1
       cases hr1
     cases hq
   · rename_i hx
     split at hq
     · rename_i x' hT
       obtain ⟨E',sz⟩:=x'
       split at hq
       · rename_i l hl
         split at hq
         · rename_i hi hh
           rcases rA hq with ⟨h1,hr1⟩ | ⟨_,hr1⟩
           · cases hr1
             simp only [aA,tW,aS] at h1
             obtain ⟨rfl,rfl⟩:=h1
             obtain ⟨v,e1,k1⟩:=rC hs hx
             have e2:=lF.1 k1.2
             subst e2
             exact dB k1 fun ty=>Dg (tJ hT) e1 (Gw hs hl qX) (Gz hs hh qX) (aE _) (aE _)
           cases hr1
         cases hq
       cases hq
     cases hq
   cases hq
 · -- slice,its room too
   split at hq
   · rename_i t o N sz cc hx
     split at hq
     · rename_i E' sz' hT
       rcases rA hq with ⟨h1,hr1⟩ | ⟨_,hr1⟩
       · have:=aB h1
         subst this
         split at hr1
         · rename_i l hl
           split at hr1
           · rename_i hi hh
             split at hr1
             · rename_i kz m hz
               rcases rA hr1 with ⟨h2,hr2⟩ | ⟨_,hr2⟩
               · obtain ⟨v,e1,k1⟩:=rC hs hx
                 obtain ⟨vz,ez,kkz⟩:=rC hs hz
                 rw [fC.1 kkz.2] at ez
                 have h2':0≤l∧l≤hi∧hi≤m∧GU m N cc=true:=by
                  simpa only [aA,sM,aS] using h2
                 obtain ⟨q1,q2,q3,q4⟩:=h2'
                 have hC:∃ C,v=.slice (some ⟨(ρ t).1,o,none⟩) N C∧m.toNat≤C∧o+C*sz≤(ρ t).2∧C≤maxLen:=by
                  cases cc with
                  | some c =>
                    obtain ⟨g1,g2,g3,g4⟩:=iK.1 k1.2
                    have q4':m≤(c:Int):=by
                     have q5:tS m c=true:=q4
                     simpa only [sM,aS] using q5
                    exact ⟨c,g1,by omega,g2,g4⟩
                  | none =>
                    obtain ⟨c,g1,g2,g3,g4⟩:=lE.1 k1.2
                    have q4':m≤(N:Int):=by
                     have q5:tS m N=true:=q4
                     simpa only [sM,aS] using q5
                    exact ⟨c,g1,by omega,by omega,g4⟩
                 obtain ⟨C,rfl,hmC,hsz,hCm⟩:=hC
                 have hLh:=Gz hs hh (show 0≤hi by omega)
                 have hQ:=fun ty=>Jz (P:=P) (H:=[]) (G:=fun _=>none) (ty:=ty) (tJ hT) e1 (Gw hs hl q1) (h:=hi.toNat) (m:=m.toNat) (kz:=kz) ⟨_,rfl,hLh⟩ (by rw [cN qX];exact ez) qX qX hmC
                 rcases rA hr2 with ⟨h3,hr3⟩ | ⟨h3,hr3⟩
                 · cases hr3
                   have h3':=aB h3
                   refine dB ⟨k1.1,iK.2 ⟨rfl,by omega,?_,by simp [maxLen]⟩⟩ fun ty=>?_
                   · show hi.toNat - l.toNat≤0;omega
                   have:=hQ ty
                   rw [aT h3',show m.toNat - l.toNat=0 by omega] at this
                   exact this
                 cases hr3
                 have h3':m.toNat≠l.toNat:=fun e=>by rw [e] at h3;simp at h3
                 refine dB ⟨k1.1,iK.2 ⟨rfl,?_,?_,?_⟩⟩ fun ty=>?_
                 · show o+l.toNat*sz+(m.toNat - l.toNat)*sz≤_
                   have e1:l.toNat*sz+(m.toNat - l.toNat)*sz=m.toNat*sz:=by rw [←dI];congr 1;omega
                   have e2:m.toNat*sz≤C*sz:=fJ _ hmC
                   omega
                 · show hi.toNat - l.toNat≤m.toNat - l.toNat;omega
                 · show m.toNat - l.toNat≤_;omega
                 have:=hQ ty
                 rw [aF h3'] at this
                 show Qy P _ ty _ _ _ (.slice (some ⟨(ρ t).1,o+l.toNat*sz,none⟩) (hi.toNat - l.toNat) (m.toNat - l.toNat))
                 rw [←add_lit]
                 exact this
               cases hr2
             cases hr1
           cases hr1
         cases hr1
       cases hr1
     cases hq
   · rename_i hx
     split at hq
     · rename_i x' hT
       obtain ⟨E',sz⟩:=x'
       split at hq
       · rename_i l hl
         split at hq
         · rename_i hi hh
           split at hq
           · rename_i kz m hz
             rcases rA hq with ⟨h1,hr1⟩ | ⟨_,hr1⟩
             · cases hr1
               simp only [aA,tW,aS] at h1
               obtain ⟨rfl,rfl,rfl⟩:=h1
               obtain ⟨v,e1,k1⟩:=rC hs hx
               have e2:=lF.1 k1.2
               subst e2
               obtain ⟨vz,ez,kkz⟩:=rC hs hz
               rw [fC.1 kkz.2] at ez
               refine dB k1 fun ty=>?_
               have:=Jz (P:=P) (H:=[]) (G:=fun _=>none) (ty:=ty) (tJ hT) e1 (Gw hs hl qX) (h:=0) (m:=0) (kz:=kz) ⟨_,rfl,Gz hs hh qX⟩ ez (aE _) (aE _) (aE _)
               exact this
             cases hr1
           cases hq
         cases hq
       cases hq
     cases hq
   cases hq
 · -- build
   rename_i t parts
   split at hq
   · rename_i fs hu
     split at hq
     · rename_i pl hpl
       split at hq
       · rename_i z hz
         split at hq
         · rename_i l hf
           cases hq
           obtain ⟨i,zv,hi,hzv,kz⟩:=Gu hz nx ρ
           obtain ⟨vs,e1,o1,k1⟩:=Bb hs kz hf
           rw [rX kz] at o1
           refine dB (Ha k1) fun ty=>fI (pl:=pl) (zs:=zv.cells.toList) ⟨zv,fs.toArray,hu,fun w=>?_,by simp,IE hpl⟩ e1 o1 rfl
           simp [zeroValue,typeInfo,hi,hzv]
         cases hq
       cases hq
     cases hq
   · rename_i N E' hu
     split at hq
     · rename_i sz hsz
       split at hq
       · rename_i z hz
         split at hq
         · rename_i l hf
           cases hq
           obtain ⟨i,zv,hi,hzv,kz⟩:=Gu hz nx ρ
           obtain ⟨vs,e1,o1,k1⟩:=Bb hs kz hf
           rw [rX kz] at o1
           refine dB (Ha k1) fun ty=>qS (n:=N) (sz:=sz) (zs:=zv.cells.toList) ⟨zv,E',hu,fun w=>?_,by simp,zN hsz⟩ e1 o1 rfl
           simp [zeroValue,typeInfo,hi,hzv]
         cases hq
       cases hq
     cases hq
   cases hq
 · -- len
   split at hq
   · rename_i t o N sz cc hx
     split at hq
     · rename_i x' hT
       obtain ⟨E',sz'⟩:=x'
       cases hq
       obtain ⟨v,e1,k1⟩:=rC hs hx
       obtain ⟨c',rfl⟩:=yK k1
       exact dB vA fun ty=>Qy.len (tJ hT) e1
     cases hq
   · rename_i hx
     split at hq
     · rename_i x' hT
       obtain ⟨E',sz'⟩:=x'
       cases hq
       obtain ⟨v,e1,k1⟩:=rC hs hx
       have e2:=lF.1 k1.2
       subst e2
       exact dB vA fun ty=>Qy.len (tJ hT) e1
     cases hq
   · rename_i hx
     split at hq
     · rename_i x' hT
       obtain ⟨E',sz'⟩:=x'
       cases hq
       obtain ⟨v,e1,k1⟩:=rC hs hx
       obtain ⟨a',c',rfl⟩:=k1.2
       exact dB vA fun ty=>Qy.len (tJ hT) e1
     cases hq
   · rename_i s hx
     split at hq
     · rename_i hT
       cases hq
       obtain ⟨v,e1,k1⟩:=rC hs hx
       obtain ⟨bs,rfl,k2⟩:=Bc k1
       have e3:=rX k2
       rw [bZ] at e3
       refine dB (v:=.int .i64 ((ByteArray.mk bs.toArray).size:Int)) ?_ fun ty=>FG hT e1
       rw [show (ByteArray.mk bs.toArray).size=bs.length from by show bs.toArray.size=_;simp,←e3]
       exact vA
     cases hq
   cases hq
 · -- cap
   split at hq
   · rename_i t o N sz cc hx
     split at hq
     · rename_i x' hT
       obtain ⟨E',sz'⟩:=x'
       cases hq
       obtain ⟨v,e1,k1⟩:=rC hs hx
       have e2:=(iK.1 k1.2).1
       subst e2
       exact dB vA fun ty=>Qy.cap (tJ hT) e1
     cases hq
   · rename_i hx
     split at hq
     · rename_i x' hT
       obtain ⟨E',sz'⟩:=x'
       cases hq
       obtain ⟨v,e1,k1⟩:=rC hs hx
       have e2:=lF.1 k1.2
       subst e2
       exact dB vA fun ty=>Qy.cap (tJ hT) e1
     cases hq
   cases hq
 · -- min
   split at hq
   · rename_i k m hx
     split at hq
     · rename_i k' m' hy
       rcases rA hq with ⟨h1,hr1⟩ | ⟨_,hr1⟩
       · have:=By h1
         subst this
         cases hr1
         obtain ⟨v,e1,k1⟩:=rC hs hx
         obtain ⟨u,e2,k2⟩:=rC hs hy
         rw [fC.1 k1.2] at e1
         rw [fC.1 k2.2] at e2
         have e3:(bif tS m m' then m else m')=if m'<m then m' else m:=by
          rw [sM]
          by_cases h2:m≤m'
          · simp [h2,Int.not_lt.2 h2]
          simp [h2,Int.not_le.1 h2]
         rw [e3]
         exact dB vA fun ty=>Qy.min e1 e2
       cases hr1
     cases hq
   cases hq
 · -- max
   split at hq
   · rename_i k m hx
     split at hq
     · rename_i k' m' hy
       rcases rA hq with ⟨h1,hr1⟩ | ⟨_,hr1⟩
       · have:=By h1
         subst this
         cases hr1
         obtain ⟨v,e1,k1⟩:=rC hs hx
         obtain ⟨u,e2,k2⟩:=rC hs hy
         rw [fC.1 k1.2] at e1
         rw [fC.1 k2.2] at e2
         have e3:(bif tS m' m then m else m')=if m<m' then m' else m:=by
          rw [sM]
          by_cases h2:m'≤m
          · simp [h2,Int.not_lt.2 h2]
          simp [h2,Int.not_le.1 h2]
         rw [e3]
         exact dB vA fun ty=>qR e1 e2
       cases hr1
     cases hq
   cases hq
 · -- lookup
   rename_i T x i cc
   unfold OA at hq
   split at hq
   · rename_i t hx
     obtain ⟨v1,e1,k1⟩:=rC hs hx
     have e1':=Gv k1
     subst e1'
     have hrd:AX E (.lookup T x i cc)=some t:=by show (match sH E x with | some (.mp t)=>some t | _=>none)=some t;rw [hx]
     split at hq
     · rename_i k hi
       obtain ⟨v2,e2,k2⟩:=rC hs hi
       split at hq
       · rename_i l st hb
         have hob:ob t=sC l:=hm t _ hrd hb
         split at hq
         · rename_i m hk
           rcases rA hq with ⟨h1,hr⟩ | ⟨_,hr⟩
           · cases hr
             obtain ⟨kt,hT⟩:=Md h1
             have e3:=Eb hk k2
             subst e3
             rw [Ea tW]
             refine ⟨_,AW,fun w hw dst ty pos after g=>?_⟩
             have hbk:=hw t hrd
             rw [hob] at hbk
             simp only [execOp,(lookN a w).eval e1,(lookN a w).eval e2,aY,zO hT hbk cc,aG,bB]
           cases hr
         cases hq
       · rename_i l st hb
         have hob:ob t=sC l:=hm t _ hrd hb
         split at hq
         · rename_i m hk
           rcases rA hq with ⟨h1,hr⟩ | ⟨_,hr⟩
           · cases hr
             obtain ⟨kt,hT⟩:=Me h1
             have e3:=Ec hk k2
             subst e3
             rw [Ea Mc]
             refine ⟨_,AW,fun w hw dst ty pos after g=>?_⟩
             have hbk:=hw t hrd
             rw [hob] at hbk
             simp only [execOp,(lookN a w).eval e1,(lookN a w).eval e2,aY,zO hT hbk cc,aG,bB]
           cases hr
         cases hq
       cases hq
     cases hq
   cases hq
 cases hq
end
end Go.Sl.Ev
end
