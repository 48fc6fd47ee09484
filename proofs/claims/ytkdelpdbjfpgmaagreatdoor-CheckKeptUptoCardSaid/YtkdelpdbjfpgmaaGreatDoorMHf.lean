/- uP of the proof (part 6): what the rows' text needs of the texts that lead to it. -/
import Derived.Test.YtkdelpdbjfpgmaaGreatDoorMHe
set_option linter.unusedVariables false
set_option linter.unusedSimpArgs false
set_option linter.unusedSectionVars false
set_option maxHeartbeats 4000000
noncomputable section
set_option maxRecDepth 100000
namespace Go.Proofs.YtkdelpdbjfpgmaaGreatDoor
open Go Go.Sl
def E9 (G:A3) (op:Int) (bo bm bb:Nat):Prop:=
 (∃ c t z,G bo=some (.cells c t z)∧c[0]?=some (.int .i64 op))∧(∃ c t z,G bm=some (.cells c t z)∧c[0]?=some (.func (.func 217) #[] #[.pointer (some ⟨bo,0,none⟩)]))∧(∃ c t z,G bb=some (.cells c t z)∧c[0]?=some (.func (.func 218) #[] #[]))
theorem E9.up {G G':A3} {op:Int} {bo bm bb:Nat} (h:E9 G op bo bm bb) (hl:G.le G'):E9 G' op bo bm bb:=by
 obtain ⟨⟨c1,t1,z1,h1,e1⟩,⟨c2,t2,z2,h2,e2⟩,c3,t3,z3,h3,e3⟩:=h;exact ⟨⟨c1,t1,z1,hl _ _ h1,e1⟩,⟨c2,t2,z2,hl _ _ h2,e2⟩,c3,t3,z3,hl _ _ h3,e3⟩
theorem YG {op h:Int} (hn:∀ t:Nat,t<256→Cv op (i16 h (t:Int))=false):KR op h=false:=by
 unfold KR;rw [List.any_eq_false];intro t ht;rw [hn t (iG.1 ht)];decide
theorem TU {op h:Int} {t:Nat} (ht:t<256) (hm:Cv op (i16 h (t:Int))=true):KR op h=true:=by
 unfold KR;rw [sK];exact ⟨t,iG.2 ht,hm⟩
theorem jr (G:A3) (op x:Int) (bo bm bb:Nat) (hC:E9 G op bo bm bb) (hx:0≤x∧x≤255) :
 Does Tryz.prog 219 [.int .i64 x,.pointer (some ⟨bm,0,none⟩),.pointer (some ⟨bb,0,none⟩)] G [] (fun v G' Ho=>v=.bool (decide (KR op x=true))∧G'=G∧Ho=[]):=by
 obtain ⟨⟨c1,t1,z1,h1,e1⟩,⟨c2,t2,z2,h2,e2⟩,c3,t3,z3,h3,e3⟩:=hC;refine D0 Tryz.func219 Tryz.ntmps219 fun w=>?_;refine bI 12 [] ?_;refine gX (ι:=Nat) (fun j=>([(6,.int .i64 (j:Int)),(0,.int .i64 x),(1,.pointer (some ⟨bm,0,none⟩)),(2,.pointer (some ⟨bb,0,none⟩))],[])) (fun j=>j≤256∧∀ t:Nat,t<j→Cv op (i16 x (t:Int))=false) (fun j=>256 - j) (0) (⟨aM _,fun t h=>absurd h sN⟩) fun j=>fun hk=>?_;obtain ⟨hj,hno⟩:=hk;rcases aK j 256 with hjl | hjl
 · refine bI 18 [1] ?_;refine gM [] [] T.mixed U ?_;refine dW 0 [] U (bW T.one171 U (vW h2 e2)) ?_;refine dW 1 [] U (bW T.one110 U (vW h3 e3)) ?_;refine dK [[2],[3]] ?_;refine jE 4 F9 (bN _) sR U ?_;refine fE (fst:=[]) (cap:=[]) 2 U T.fn218 U U (YF _ x (j:Int) hx sN) (sS F9) fun v8 G8 Ho8 hle8 hp=>?_;obtain ⟨rfl,rfl,rfl⟩:=hp;refine bC ?_;refine jE 5 F9 (bN _) sR U ?_;refine fE (fst:=[]) (cap:=[.pointer (some ⟨bo,0,none⟩)]) 2 U T.fn217 U U (cq _ op _ bo _ _ _ h1 e1) (sS F9) fun v9 G9 Ho9 hle9 hp=>?_;obtain ⟨rfl,rfl,rfl⟩:=hp;refine bC ?_;refine iN sR F9 (bN _) ?_;refine cN ?_;refine cW (fun hc1=>?_) fun hc1=>?_;refine bE 11 [] ?_;rotate_left;refine bE 7 [] ?_;rotate_left
   · refine cV ?_;exact ⟨by rw [TU hjl sO];rfl,U,U⟩
   refine cJ 6 U (show _=Value.int .i64 ((j+1:Nat):Int) from U) ?_;refine cK (j+1) ?_ ?_
   · refine ⟨by omega,fun t ht=>?_⟩;rcases aK t j with h | h
     · exact hno t h
     have e:t=j:=sN;subst e;exact nM.2 sO
   show 256 - (j+1)<256 - j;omega
 refine bE 18 [0] ?_;refine cV ?_;exact ⟨by rw [YG (fun t ht=>hno t sN)];rfl,U,U⟩
theorem js (G:A3) (op h x:Int) (bo bm bb bh:Nat) (hC:E9 G op bo bm bb) (c4:Array Value) (t4:TypeId) (z4:Nat×Nat) (h4:G bh=some (.cells c4 t4 z4)) (e4:c4[0]?=some (.int .i64 h)) (hh:0≤h∧h≤255) (hx:0≤x∧x≤255) :
 Does Tryz.prog 220 [.int .i64 x,.pointer (some ⟨bm,0,none⟩),.pointer (some ⟨bb,0,none⟩),.pointer (some ⟨bh,0,none⟩)] G [] (fun v G' Ho=>v=.bool (decide (Cv op (i16 h x)=true))∧G'=G∧Ho=[]):=by
 obtain ⟨⟨c1,t1,z1,h1,e1⟩,⟨c2,t2,z2,h2,e2⟩,c3,t3,z3,h3,e3⟩:=hC;refine D0 Tryz.func220 Tryz.ntmps220 fun w=>?_;refine bI 6 [] ?_;refine gM [] [] T.mixed U ?_;refine dW 0 [] U (bW T.one171 U (vW h2 e2)) ?_;refine dW 1 [] U (bW T.one110 U (vW h3 e3)) ?_;refine dW 2 [] U (bW T.one3 U (vW h4 e4)) ?_;refine dK [[3]] ?_;refine jE 4 F9 (bN _) sR U ?_;refine fE (fst:=[]) (cap:=[]) 2 U T.fn218 U U (YF _ h x hh hx) (sS F9) fun v8 G8 Ho8 hle8 hp=>?_;obtain ⟨rfl,rfl,rfl⟩:=hp;refine bC ?_;refine jE 5 F9 (bN _) sR U ?_;refine fE (fst:=[]) (cap:=[.pointer (some ⟨bo,0,none⟩)]) 2 U T.fn217 U U (cq _ op _ bo _ _ _ h1 e1) (sS F9) fun v9 G9 Ho9 hle9 hp=>?_;obtain ⟨rfl,rfl,rfl⟩:=hp;refine bC ?_;refine dK [[6]] ?_;refine iN sR F9 (bN _) ?_;refine eE 2 [] ?_;refine cV ?_;exact ⟨U,U,U⟩
theorem cr (G:A3) (b:Nat) (a:Option Addr) (c:Nat) (B:List U8) (s:RS) (op:Int) (hA:Arr G a B) (hB:C6 B) (hk:s.k≤B.length) (hl:B.length≤1048576) :
 Does Tryz.prog 174 [.pointer (some ⟨b,0,none⟩),.int .i64 op] G [(0,some b,Xz a B.length c s)] (fun v G' Ho=>∃ (x:Int) (t:RS),Zw B s op=(x,t)∧t.k≤B.length∧v=.int .i64 x∧Ho=[(0,some b,Xz a B.length c t)]):=by
 refine D0 Tryz.func174 Tryz.ntmps174 fun w=>?_;refine aI 2 [] ?_;refine dV 1 fun b1=>?_;refine aL 5 [] ?_;refine aQ (gR U U) ?_;refine aO 2 U T.zero171 fun b2=>?_;refine aL 5 [2] ?_;refine aO 3 U T.zero110 fun b3=>?_;refine aL 6 [3] ?_;refine aQ (gR U U) ?_;refine lI 1 U fun G1 hle1 hb1=>?_;refine lI 2 U fun G2 hle2 hb2=>?_;refine lI 3 U fun G3 hle3 hb3=>?_;have hC:E9 G3 op b1 b2 b3:=⟨⟨_,_,_,hle3 _ _ (hle2 _ _ hb1),U⟩,⟨_,_,_,hle3 _ _ hb2,U⟩,_,_,_,hb3,U⟩
 have hA3:=((hA.up hle1).up hle2).up hle3;have hG:Pw G3 219 [.pointer (some ⟨b2,0,none⟩),.pointer (some ⟨b3,0,none⟩)] (KR op):=⟨T.fn219,fun G' x hle h0 h1=>jr G' op x b1 b2 b3 (hC.up hle) ⟨h0,h1⟩⟩
 refine bV 0 U (JK _ b a c B s 219 _ _ hG hA3 hB hk hl) fun v4 G4 Ho4 hle4 hp=>?_;obtain ⟨rfl,rfl,rfl⟩:=hp;have hh:=Lk (B:=B) (s:=s) (g:=KR op) hB hk;have hk1:=Tz (B:=B) (s:=s) (g:=KR op) hk;obtain ⟨h,t,e⟩:∃ h t,nx B s (KR op)=(h,t):=⟨_,_,U⟩
 rw [e] at hh hk1 ⊢;dsimp only at hh hk1 ⊢;refine aO 4 U T.zero3 fun b4=>?_;refine aL 6 [4] ?_;refine aQ (gR U U) ?_;refine lI 4 U fun G5 hle5 hb5=>?_;have hC5:=hC.up hle5;have hG2:Pw G5 220 [.pointer (some ⟨b2,0,none⟩),.pointer (some ⟨b3,0,none⟩),.pointer (some ⟨b4,0,none⟩)] (fun l=>Cv op (i16 h l)):=⟨T.fn220,fun G' x hle h0 h1=>js G' op h x b1 b2 b3 b4 (hC5.up hle) _ _ _ (hle _ _ hb5) U hh ⟨h0,h1⟩⟩
 refine bV 0 U (JK _ b a c B t 220 _ _ hG2 (hA3.up hle5) hB hk1 hl) fun v6 G6 Ho6 hle6 hp=>?_;obtain ⟨rfl,rfl,rfl⟩:=hp;have hh2:=Lk (B:=B) (s:=t) (g:=fun l=>Cv op (i16 h l)) hB hk1;have hk2:=Tz (B:=B) (s:=t) (g:=fun l=>Cv op (i16 h l)) hk1;obtain ⟨l,u,e2⟩:∃ l u,nx B t (fun l=>Cv op (i16 h l))=(l,u):=⟨_,_,U⟩
 rw [e2] at hh2 hk2 ⊢;dsimp only at hh2 hk2 ⊢;have hb3':=hle5 _ _ hb3;refine aL 5 [] ?_;refine aQ (bW T.one110 U (vW hb3' U)) ?_;refine aQ (bW T.one3 U (vW hb5 U)) ?_;refine aC 1 [] ?_;refine fE (fst:=[]) (cap:=[]) 5 U T.fn218 U U (YF _ h l hh hh2) (sS F9) fun v7 G7 Ho7 hle7 hp=>?_;obtain ⟨rfl,rfl,rfl⟩:=hp;refine aS 4 [] ?_;refine nP [0] ?_;exact ⟨i16 h l,u,by unfold Zw;rw [e];dsimp only;rw [e2],hk2,U,U⟩
theorem AC {t:RS} (h:t.wr=true):(⟨t.k,true⟩:RS)=t:=by
 obtain ⟨k,w⟩:=t;cases h;rfl
theorem Py {B:List U8} {s:RS} {lo hi:Int} (h:s.wr=true):wi B s lo hi=(0,s):=by rw [br h,AC h]
theorem Pz {B:List U8} {s:RS} {g:Int→Bool} (h:s.wr=true):nx B s g=(0,s):=by rw [NY h,AC h]
theorem TV {B:List U8} {s:RS} {op:Int} (h:s.wr=true):(Zw B s op).2=s:=by
 unfold Zw;rw [Pz h];dsimp only;rw [Pz h]
theorem TW {B:List U8} {s:RS} {regs:Int} (h:s.wr=true):(Ps B s regs).2=s:=by
 unfold Ps;simp only [Py h];split <;> exact TV h
theorem AD {B:List U8} {regs:Int}:∀ (n:Nat) (s:RS) (acc:List Sl.Instr),s.wr=true→yL B regs n s acc=(acc,s)
 | 0,s,acc,_=>rfl
 | n+1,s,acc,h=>by
   have e:=TW (B:=B) (regs:=regs) h;cases hq:Ps B s regs with
   | mk i t =>
     rw [hq] at e;replace e:t=s:=e;subst e;unfold yL;rw [hq];dsimp only;rw [aF h]
theorem Qa {B:List U8} {regs:Int}:∀ (n:Nat) (s:RS) (acc:List Int),s.wr=true→(Ai B regs n s acc).2=s
 | 0,s,acc,_=>rfl
 | n+1,s,acc,h=>by
   unfold Ai;rw [Py h];exact Qa n s _ h
theorem YH {B:List U8} {s:RS} (h:s.wr=true):(sg B s).2=s:=by
 unfold sg;rw [Pz h]
theorem FZ {B:List U8}:∀ (n:Nat) (s:RS) (acc:List R2),s.wr=true→(Gp B n s acc).2=s
 | 0,s,acc,_=>rfl
 | n+1,s,acc,h=>by
   have e:=YH (B:=B) h;cases hq:sg B s with
   | mk x t =>
     rw [hq] at e;replace e:t=s:=e;subst e;unfold Gp;rw [hq];dsimp only;rw [hq];dsimp only;exact FZ n t _ h
theorem AE {B:List U8} {regs:Int} {n:Nat} {s t:RS} {acc:List Sl.Instr} {i:Sl.Instr} (e:Ps B s regs=(i,t)) (h:t.wr=false):yL B regs (n+1) s acc=yL B regs n t (acc++[i]):=by
 rw [yL,e];dsimp only;rw [aD (by rw [h];decide)]
theorem Ud {B:List U8} {regs:Int} {n:Nat} {s t:RS} {acc:List Sl.Instr} {i:Sl.Instr} (e:Ps B s regs=(i,t)) (h:t.wr=true):yL B regs (n+1) s acc=(acc,t):=by
 rw [yL,e];dsimp only;rw [aF h]
theorem OL {B:List U8} {regs:Int} {n:Nat} {s t:RS} {acc:List Int} {x:Int} (e:wi B s 0 (regs - 1)=(x,t)):Ai B regs (n+1) s acc=Ai B regs n t (acc++[x]):=by
 rw [Ai,e]
theorem Oa {B:List U8} {s t1 t2 t3 t4 t5:RS} {regs op to a b c:Int} (e1:wi B s 1 8=(op,t1)) (e2:wi B t1 0 (regs - 1)=(to,t2)) (e3:wi B t2 0 (regs - 1)=(a,t3)) (e4:(if op=3∨op=4 then wi B t3 0 (regs - 1) else ((0:Int),(wi B t3 0 0).2))=(b,t4)) (e5:Zw B t4 op=(c,t5)):Ps B s regs=(⟨op,to,a,b,c⟩,t5):=by
 unfold Ps;rw [e1];dsimp only;rw [e2];dsimp only;rw [e3];dsimp only;rw [e4];dsimp only;rw [e5]
theorem jt (G:A3) (x:Int) (hx:0≤x∧x≤255):Does Tryz.prog 172 [.int .i64 x] G [] (fun v G' Ho=>v=.bool (decide (x*256≤16384))∧G'=G∧Ho=[]):=by
 refine D0 Tryz.func172 Tryz.ntmps172 fun w=>?_;refine aI 8 [] ?_;refine aQ (Qy.shl U U sN) ?_;refine aS 5 [] ?_;refine cV ?_;rw [TT sN];exact ⟨U,U,U⟩
theorem ju (G:A3) (h x:Int) (b1:Nat) (c1:Array Value) (t1:TypeId) (z1:Nat×Nat) (h1:G b1=some (.cells c1 t1 z1)) (e1:c1[0]?=some (.int .i64 h)) (hh:0≤h∧h≤255) (hx:0≤x∧x≤255) :
 Does Tryz.prog 173 [.int .i64 x,.pointer (some ⟨b1,0,none⟩)] G [] (fun v G' Ho=>v=.bool (decide (h*256+x≤16384))∧G'=G∧Ho=[]):=by
 refine D0 Tryz.func173 Tryz.ntmps173 fun w=>?_;refine aI 7 [] ?_;refine aQ (bW T.one3 U (vW h1 e1)) ?_;refine aQ (Qy.shl U U sN) ?_;refine aC 1 [] ?_;refine aQ (sE U U) ?_;refine aS 5 [] ?_;refine cV ?_;rw [TT sN,Px hh hx];exact ⟨U,U,U⟩
theorem AF {B:List U8} {s t1 t2 t3 t4 t5 t6 t7:RS} {ins regs h l n:Int} {r:List Sl.Instr} {q:List Int} {N M:Nat} (e1:wi B s 1 128=(ins,t1)) (e2:wi B t1 ins 128=(regs,t2)) (e3:nx B t2 (fun x=>decide (x*256≤16384))=(h,t3)) (e4:nx B t3 (fun x=>decide (h*256+x≤16384))=(l,t4)) (hN:(h*256+l).toNat=N) (e5:yL B regs N t4 []=(r,t5)) (e6:wi B t5 1 128=(n,t6)) (hM:n.toNat=M) (e7:Ai B regs M t6 []=(q,t7)):vG B s=(⟨ins,regs,r,q⟩,t7):=by
 subst hN hM;unfold vG;rw [e1];dsimp only;rw [e2];dsimp only;rw [e3];dsimp only;rw [e4];dsimp only;rw [e5];dsimp only;rw [e6];dsimp only;rw [e7]
theorem YI (G:A3) (b:Nat) (a:Option Addr) (c:Nat) (B:List U8) (s:RS) (hA:Arr G a B) (hB:C6 B) (hk:s.k≤B.length) (hl:B.length≤1048576) :
 Does Tryz.prog 125 [.pointer (some ⟨b,0,none⟩)] G [(0,some b,Xz a B.length c s)] (fun v G' Ho=>∃ (p:PV) (t:RS) (ac ao:Option Addr) (cc co:Nat),vG B s=(p,t)∧t.k≤B.length∧v=.agg (H8 p ac cc ao co)∧Arr G' ac p.code∧Arr G' ao p.outs∧p.code.length≤65535∧p.outs.length≤255∧Ho=[(0,some b,Xz a B.length c t)]):=by
 refine D0 Tryz.func125 Tryz.ntmps125 fun w=>?_;refine eJ 9 (Row 91 ([]:List Sl.Instr) []) ?_;refine eJ 8 (Row 3 ([]:List Int) []) ?_;refine aI 2 [] ?_;refine aO 10 U T.zero26 fun b1=>?_;refine bB 2 [] ?_;refine mP ?_;refine aI 3 [] ?_;refine bV 0 U (Ck _ _ a c B _ _ _ hA hB sO hl) fun v1 G1 Ho1 hle1 hp=>?_;obtain ⟨x1,t1,ht1,hk1,hx1,rfl,rfl⟩:=hp;replace hA:=hA.up hle1;refine aQ (bP (cs:=[_,_,_,_]) T.st26 U U U) ?_;refine aO 11 U T.zero26 fun b2=>?_;refine aL 8 [11,11] ?_;refine bV 0 U (Ck _ _ a c B _ _ _ hA hB sO hl) fun v2 G2 Ho2 hle2 hp=>?_;obtain ⟨x2,t2,ht2,hk2,hx2,rfl,rfl⟩:=hp;replace hA:=hA.up hle2;refine aL 7 [11] ?_;have hG1:Pw G2 172 [] (fun x=>decide (x*256≤16384)):=⟨T.fn172,fun G' x hle h0 h1=>(jt G' x ⟨h0,h1⟩).mono fun v G'' Ho _ h=>⟨h.1.trans (Dm _),h.2⟩⟩
 refine bV 0 U (JK _ b a c B t2 172 _ _ hG1 hA hB hk2 hl) fun v3 G3 Ho3 hle3 hp=>?_;obtain ⟨rfl,rfl,rfl⟩:=hp;have hh3:=Lk (B:=B) (s:=t2) (g:=fun x=>decide (x*256≤16384)) hB hk2;have hk3:=Tz (B:=B) (s:=t2) (g:=fun x=>decide (x*256≤16384)) hk2;obtain ⟨h,t3,e3⟩:∃ h t3,nx B t2 (fun x=>decide (x*256≤16384))=(h,t3):=⟨_,_,U⟩
 rw [e3] at hh3 hk3 ⊢;dsimp only at hh3 hk3 ⊢;refine aO 12 U T.zero3 fun b3=>?_;refine aL 6 [12] ?_;refine aQ (gR U U) ?_;refine lI 12 U fun G4 hle4 hb4=>?_;replace hA:=hA.up hle4;have hG2:Pw G4 173 [.pointer (some ⟨b3,0,none⟩)] (fun x=>decide (h*256+x≤16384)):=⟨T.fn173,fun G' x hle h0 h1=>(ju G' h x b3 _ _ _ (hle _ _ hb4) U hh3 ⟨h0,h1⟩).mono fun v G'' Ho _ q=>⟨q.1.trans (Dm _),q.2⟩⟩
 refine bV 0 U (JK _ b a c B t3 173 _ _ hG2 hA hB hk3 hl) fun v5 G5 Ho5 hle5 hp=>?_;obtain ⟨rfl,rfl,rfl⟩:=hp;have hh4:=Lk (B:=B) (s:=t3) (g:=fun x=>decide (h*256+x≤16384)) hB hk3;have hk4:=Tz (B:=B) (s:=t3) (g:=fun x=>decide (h*256+x≤16384)) hk3;obtain ⟨l,t4,e4⟩:∃ l t4,nx B t3 (fun x=>decide (h*256+x≤16384))=(l,t4):=⟨_,_,U⟩
 rw [e4] at hh4 hk4 ⊢;dsimp only at hh4 hk4 ⊢;obtain ⟨N,hN,hN2⟩:∃ N:Nat,h*256+l=(N:Int)∧N≤65535:=⟨(h*256+l).toNat,by omega,by omega⟩
 refine bB 6 [] ?_;refine Pe (ι:=A3×RS×List Sl.Instr×(Option Addr×Nat×List Value)) (fun (Gx,t,r,(o,d,j))=>([(0,.pointer (some ⟨b,0,none⟩)),(2,.pointer (some ⟨b1,0,none⟩)),(3,.pointer (some ⟨b2,0,none⟩))],[(0,some b,Xz a B.length c t),(10,some b1,.cells #[.int .i64 0,.int .i64 0,.slice none 0 0,.slice none 0 0] 26),(11,some b2,.cells #[.int .i64 x1,.int .i64 x2,.slice o r.length d,.slice none 0 0] 26),(9,o.map (·.block),Row 91 r j),(8,none,Row 3 ([]:List Int) [])])) (fun (Gx,t,r,(o,d,j))=>Gx) (fun (Gx,t,r,(o,d,j))=>G5.le Gx∧yL B x2 N t4 []=(r,t)∧t.k≤B.length∧A4 o d r j∧r.length≤N) ?_ fun ⟨Gx,t,r,(o,d,j)⟩=>fun (hk:G5.le Gx∧yL B x2 N t4 []=(r,t)∧t.k≤B.length∧A4 o d r j∧r.length≤N)=>?_
 · refine aI 2 [] ?_;refine aQ (bW T.one3 U (vW hb4 U)) ?_;refine aQ (Qy.shl U U sN) ?_;refine aC 1 [] ?_;refine aQ (sE U U) ?_;refine bB 4 [] ?_;refine iV 23 U (show _=Value.int .i64 (N:Int) by rw [TT sN,Px hh3 hh4,hN]) ?_;refine jZ (ι:=Nat×A3×RS×List Sl.Instr×(Option Addr×Nat×List Value)) (fun (i,Gx,t,r,(o,d,j))=>([(24,.int .i64 (i:Int)),(23,.int .i64 (N:Int)),(0,.pointer (some ⟨b,0,none⟩)),(2,.pointer (some ⟨b1,0,none⟩)),(3,.pointer (some ⟨b2,0,none⟩))],[(0,some b,Xz a B.length c t),(10,some b1,.cells #[.int .i64 0,.int .i64 0,.slice none 0 0,.slice none 0 0] 26),(11,some b2,.cells #[.int .i64 x1,.int .i64 x2,.slice o r.length d,.slice none 0 0] 26),(9,o.map (·.block),Row 91 r j),(8,none,Row 3 ([]:List Int) [])])) (fun (i,Gx,t,r,(o,d,j))=>Gx) (fun (i,Gx,t,r,(o,d,j))=>i≤N∧G5.le Gx∧yL B x2 N t4 []=yL B x2 (N - i) t r∧t.k≤B.length∧A4 o d r j∧r.length=i) (fun (i,Gx,t,r,(o,d,j))=>N - i) ((0,G5,t4,[],(none,0,[]))) (⟨aM _,bN _,U,hk4,eG,U⟩) U ⟨U,U,U,U,U,F9⟩ ⟨U,U,U,U,U,F9⟩ fun ⟨i,Gx,t,r,(o,d,j)⟩=>fun hk=>?_;obtain ⟨hi,hgx,hcode,hkt,hown,hri⟩:=hk;replace hA:=hA.up hgx;rcases aK i N with hiN | hiN
   · refine bI 11 [1] ?_;refine Pe (ι:=A3×Nat×(Int×RS)×(Int×RS)×(Int×RS)) (fun (Gy,b4,(y6,u6),(y7,u7),(y8,u8))=>([(0,.pointer (some ⟨b,0,none⟩)),(2,.pointer (some ⟨b1,0,none⟩)),(3,.pointer (some ⟨b2,0,none⟩)),(24,.int .i64 (i:Int)),(23,.int .i64 (N:Int)),(6,.pointer (some ⟨b4,0,none⟩))],[(0,some b,Xz a B.length c u8),(10,some b1,.cells #[.int .i64 0,.int .i64 0,.slice none 0 0,.slice none 0 0] 26),(11,some b2,.cells #[.int .i64 x1,.int .i64 x2,.slice o r.length d,.slice none 0 0] 26),(9,o.map (·.block),Row 91 r j),(8,none,Row 3 ([]:List Int) []),(12,some b4,.cells #[.int .i64 y6,.int .i64 y7,.int .i64 y8,.int .i64 0,.int .i64 0] 91)])) (fun (Gy,b4,(y6,u6),(y7,u7),(y8,u8))=>Gy) (fun (Gy,b4,(y6,u6),(y7,u7),(y8,u8))=>Gx.le Gy∧wi B t 1 8=(y6,u6)∧wi B u6 0 (x2 - 1)=(y7,u7)∧wi B u7 0 (x2 - 1)=(y8,u8)∧u8.k≤B.length) ?_ fun ⟨Gy,b4,(y6,u6),(y7,u7),(y8,u8)⟩=>fun (hk:Gx.le Gy∧wi B t 1 8=(y6,u6)∧wi B u6 0 (x2 - 1)=(y7,u7)∧wi B u7 0 (x2 - 1)=(y8,u8)∧u8.k≤B.length)=>?_
     · refine dE [8,9,11,10,0] [(0,11),(0,6),(0,1)] T.mixed [[0],[2],[3],[4,11],[5],[7],[8],[9,11],[10]] ?_;refine oG 1 13 ?_ ?_;refine bV 0 U (Ck _ _ a c B _ _ _ hA hB sO hl) fun v6 G6 Ho6 hle6 hp=>?_;obtain ⟨x6,t6,ht6,hk6,hx6,rfl,rfl⟩:=hp;replace hA:=hA.up hle6;refine bC ?_;refine oG 6 13 ?_ ?_;refine bV 0 U (Ck _ _ a c B _ _ _ hA hB sO hl) fun v7 G7 Ho7 hle7 hp=>?_;obtain ⟨x7,t7,ht7,hk7,hx7,rfl,rfl⟩:=hp;replace hA:=hA.up hle7;refine bC ?_;refine oG 11 13 ?_ ?_;refine bV 0 U (Ck _ _ a c B _ _ _ hA hB sO hl) fun v8 G8 Ho8 hle8 hp=>?_;obtain ⟨x8,t8,ht8,hk8,hx8,rfl,rfl⟩:=hp;replace hA:=hA.up hle8;refine bC ?_;refine dW 12 [] U (bP (cs:=[_,_,_,_,_]) T.st91 U U U) ?_;refine bQ 13 ?_;refine aO 12 U T.zero91 fun b4=>?_;refine cS 14 ?_;refine aC 1 [12] ?_;refine fD ?_;rotate_left;refine aO 12 U T.zero91 fun b4=>?_;refine cS 11 ?_;refine bV 0 U (Ck _ _ a c B _ _ _ hA hB sO hl) fun v8 G8 Ho8 hle8 hp=>?_;obtain ⟨x8,t8,ht8,hk8,hx8,rfl,rfl⟩:=hp;replace hA:=hA.up hle8;refine bC ?_;refine dW 12 [] U (bP (cs:=[_,_,_,_,_]) T.st91 U U U) ?_;refine bQ 14 ?_;refine aC 1 [12] ?_;refine fD ?_;rotate_left;refine aO 12 U T.zero91 fun b4=>?_;refine cS 6 ?_;refine bV 0 U (Ck _ _ a c B _ _ _ hA hB sO hl) fun v7 G7 Ho7 hle7 hp=>?_;obtain ⟨x7,t7,ht7,hk7,hx7,rfl,rfl⟩:=hp;replace hA:=hA.up hle7;refine cS 11 ?_;refine bV 0 U (Ck _ _ a c B _ _ _ hA hB sO hl) fun v8 G8 Ho8 hle8 hp=>?_;obtain ⟨x8,t8,ht8,hk8,hx8,rfl,rfl⟩:=hp;replace hA:=hA.up hle8;refine bC ?_;refine dW 12 [] U (bP (cs:=[_,_,_,_,_]) T.st91 U U U) ?_;refine bQ 14 ?_;refine aC 1 [12] ?_;refine fD ?_;rotate_left;refine aO 12 U T.zero91 fun b4=>?_;refine cS 1 ?_;refine bV 0 U (Ck _ _ a c B _ _ _ hA hB sO hl) fun v6 G6 Ho6 hle6 hp=>?_;obtain ⟨x6,t6,ht6,hk6,hx6,rfl,rfl⟩:=hp;replace hA:=hA.up hle6;refine cS 6 ?_;refine bV 0 U (Ck _ _ a c B _ _ _ hA hB sO hl) fun v7 G7 Ho7 hle7 hp=>?_;obtain ⟨x7,t7,ht7,hk7,hx7,rfl,rfl⟩:=hp;replace hA:=hA.up hle7;refine cS 11 ?_;refine bV 0 U (Ck _ _ a c B _ _ _ hA hB sO hl) fun v8 G8 Ho8 hle8 hp=>?_;obtain ⟨x8,t8,ht8,hk8,hx8,rfl,rfl⟩:=hp;replace hA:=hA.up hle8;refine bC ?_;refine dW 12 [] U (bP (cs:=[_,_,_,_,_]) T.st91 U U U) ?_;refine bQ 14 ?_;refine aC 1 [12] ?_;refine fD ?_;rotate_left
       · refine mM ((G8,b4,(x6,t6),(x7,t7),(x8,t8))) ?_;exact ⟨aP hle6 (aP hle7 hle8),ht6,ht7,ht8,hk8⟩
       · refine mM ((G8,b4,(x6,t6),(x7,t7),(x8,t8))) ?_;exact ⟨aP hle6 (aP hle7 hle8),ht6,ht7,ht8,hk8⟩
       · refine mM ((G8,b4,(x6,t6),(x7,t7),(x8,t8))) ?_;exact ⟨aP hle6 (aP hle7 hle8),ht6,ht7,ht8,hk8⟩
       refine mM ((G8,b4,(x6,t6),(x7,t7),(x8,t8))) ?_;exact ⟨aP hle6 (aP hle7 hle8),ht6,ht7,ht8,hk8⟩
     obtain ⟨hgy,hu6,hu7,hu8,hk8⟩:=hk;replace hA:=hA.up hgy;have hNi:N - i=(N - i - 1)+1:=sN;refine aI 7 [12] ?_;apply dS 4 42 46 U;intro hg1;refine aC 7 [12] ?_;exact dB 4 0;intro hg1;refine aC 4 [] ?_;exact dB 4 0;refine bB 2 [] ?_;refine cW (fun hc1=>?_) fun hc1=>?_;refine aI 5 [11] ?_;refine bV 0 U (Ck _ _ a c B _ _ _ hA hB sO hl) fun v6 G6 Ho6 hle6 hp=>?_;obtain ⟨x6,t6,ht6,hk6,hx6,rfl,rfl⟩:=hp;replace hA:=hA.up hle6;refine aL 9 [12,12] ?_;refine bV 0 U (cr _ _ a c B _ _ hA hB sO hl) fun v7 G7 Ho7 hle7 hp=>?_;obtain ⟨x7,t7,ht7,hk7,rfl,rfl⟩:=hp;replace hA:=hA.up hle7;refine bB 13 [12,0] ?_;refine lJ U (fun hc2=>?_) fun hc2=>?_;refine bE 6 [] ?_;rotate_left;refine aI 6 [11,12] ?_;refine cZ (α:=Sl.Instr) 13 [⟨y6,y7,y8,x6,x7⟩] U T.sl23 T.el91 U U U U U fun b5=>?_;refine kH (α:=Sl.Instr) 9 T.sl23 T.el91 (dT 13 U) fun a1 c1 junk1 ho1=>?_;refine aS 9 [11] ?_;rotate_left;refine aI 2 [] ?_;refine bV 0 U (Ck _ _ a c B _ _ _ hA hB sO hl) fun v6 G6 Ho6 hle6 hp=>?_;obtain ⟨x6,t6,ht6,hk6,hx6,rfl,rfl⟩:=hp;replace hA:=hA.up hle6;refine aL 7 [12] ?_;refine bV 0 U (cr _ _ a c B _ _ hA hB sO hl) fun v7 G7 Ho7 hle7 hp=>?_;obtain ⟨x7,t7,ht7,hk7,rfl,rfl⟩:=hp;replace hA:=hA.up hle7;refine bB 13 [12,0] ?_;refine lJ U (fun hc2=>?_) fun hc2=>?_;refine bE 6 [] ?_;rotate_left;refine aI 6 [11,12] ?_;refine cZ (α:=Sl.Instr) 13 [⟨y6,y7,y8,0,x7⟩] U T.sl23 T.el91 U U U U U fun b5=>?_;refine kH (α:=Sl.Instr) 9 T.sl23 T.el91 (dT 13 U) fun a1 c1 junk1 ho1=>?_;refine aS 9 [11] ?_;rotate_left
     · refine mM ((G7,t7,r,(o,d,j))) ?_;refine ⟨aP hgx (aP hgy (aP hle6 hle7)),?_,hk7,hown,by omega⟩;rw [hcode,hNi];exact Ud (Oa hu6 hu7 hu8 ((aF sO).trans ht6) ht7) sO
     · refine cJ 24 U (show _=Value.int .i64 ((i+1:Nat):Int) from U) ?_;refine cK ((i+1,G7,t7,r++[⟨y6,y7,y8,x6,x7⟩],(a1,c1,junk1))) ?_ ?_
       · refine ⟨by omega,aP hgx (aP hgy (aP hle6 hle7)),?_,hk7,ho1,by rw [aB,hri];rfl⟩;rw [hcode,hNi,show N - (i+1)=N - i - 1 by omega];exact AE (Oa hu6 hu7 hu8 ((aF sO).trans ht6) ht7) sO
       show N - (i+1)<N - i;omega
     · refine mM ((G7,t7,r,(o,d,j))) ?_;refine ⟨aP hgx (aP hgy (aP hle6 hle7)),?_,hk7,hown,by omega⟩;rw [hcode,hNi];exact Ud (Oa hu6 hu7 hu8 ((aD sO).trans (by rw [ht6])) ht7) sO
     refine cJ 24 U (show _=Value.int .i64 ((i+1:Nat):Int) from U) ?_;refine cK ((i+1,G7,t7,r++[⟨y6,y7,y8,0,x7⟩],(a1,c1,junk1))) ?_ ?_
     · refine ⟨by omega,aP hgx (aP hgy (aP hle6 hle7)),?_,hk7,ho1,by rw [aB,hri];rfl⟩;rw [hcode,hNi,show N - (i+1)=N - i - 1 by omega];exact AE (Oa hu6 hu7 hu8 ((aD sO).trans (by rw [ht6])) ht7) sO
     show N - (i+1)<N - i;omega
   refine bE 11 [0] ?_;have hz:N - i=0:=sN;rw [hz] at hcode;refine mM ((Gx,t,r,(o,d,j))) ?_;exact ⟨hgx,hcode,hkt,hown,by omega⟩
 obtain ⟨hgx,hcode,hkt,hown,hrl⟩:=hk;replace hA:=hA.up hgx;refine aI 4 [] ?_;refine bV 0 U (Ck _ _ a c B _ _ _ hA hB sO hl) fun v6 G6 Ho6 hle6 hp=>?_;obtain ⟨x6,t6,ht6,hk6,hx6,rfl,rfl⟩:=hp;replace hA:=hA.up hle6;refine bB 4 [] ?_;obtain ⟨M,hM,hM2⟩:∃ M:Nat,x6=(M:Int)∧M≤255:=⟨x6.toNat,by omega,by omega⟩
 refine iV 72 U (show _=Value.int .i64 (M:Int) by rw [hM]) ?_;refine jZ (ι:=Nat×A3×RS×List Int×(Option Addr×Nat×List Value)) (fun (i,Gy,u,q,(o2,d2,j2))=>([(73,.int .i64 (i:Int)),(72,.int .i64 (M:Int)),(0,.pointer (some ⟨b,0,none⟩)),(2,.pointer (some ⟨b1,0,none⟩)),(3,.pointer (some ⟨b2,0,none⟩))],[(0,some b,Xz a B.length c u),(10,some b1,.cells #[.int .i64 0,.int .i64 0,.slice none 0 0,.slice none 0 0] 26),(11,some b2,.cells #[.int .i64 x1,.int .i64 x2,.slice o r.length d,.slice o2 q.length d2] 26),(9,o.map (·.block),Row 91 r j),(8,o2.map (·.block),Row 3 q j2)])) (fun (i,Gy,u,q,(o2,d2,j2))=>Gy) (fun (i,Gy,u,q,(o2,d2,j2))=>i≤M∧G6.le Gy∧Ai B x2 M t6 []=Ai B x2 (M - i) u q∧u.k≤B.length∧A4 o2 d2 q j2∧q.length=i) (fun (i,Gy,u,q,(o2,d2,j2))=>M - i) ((0,G6,t6,[],(none,0,[]))) (⟨aM _,bN _,U,hk6,eG,U⟩) U ⟨U,U,U,U,U,F9⟩ ⟨U,U,U,U,U,F9⟩ fun ⟨i,Gy,u,q,(o2,d2,j2)⟩=>fun hk=>?_;obtain ⟨hi,hgy,houts,hku,hob,hqi⟩:=hk;replace hA:=hA.up hgy;rcases aK i M with hiM | hiM
 · refine bI 11 [1] ?_;refine dE [8,9,11,10,0] [(11,10),(9,8),(8,8),(0,6)] T.mixed [[0],[1,11],[2],[3],[4,11],[5]] ?_;refine bQ 6 ?_;refine bV 0 U (Ck _ _ a c B _ _ _ hA hB sO hl) fun v7 G7 Ho7 hle7 hp=>?_;obtain ⟨x7,t7,ht7,hk7,hx7,rfl,rfl⟩:=hp;replace hA:=hA.up hle7;refine cS 7 ?_;refine cZ (α:=Int) 12 [(x7)] U T.sl24 T.el3 U U U U U fun b4=>?_;refine cS 8 ?_;refine kH (α:=Int) 8 T.sl24 T.el3 (dT 12 U) fun a1 c1 junk1 ho1=>?_;refine bC ?_;refine dK [[9]] ?_;refine bQ 10 ?_;refine aC 1 [11] ?_;refine fD ?_;refine eE 6 [] ?_;refine cJ 73 U (show _=Value.int .i64 ((i+1:Nat):Int) from U) ?_;refine cK ((i+1,G7,t7,q++[x7],(a1,c1,junk1))) ?_ ?_
   · refine ⟨by omega,aP hgy hle7,?_,hk7,ho1,by rw [aB,hqi];rfl⟩;rw [houts,show M - i=(M - (i+1))+1 by omega];exact OL ht7
   show M - (i+1)<M - i;omega
 refine bE 19 [0,11,10] ?_;refine jK ?_;have hz:M - i=0:=sN;rw [hz] at houts;refine cX 9 U hown fun G8 hle8 hA8=>?_;refine cX 8 U hob fun G9 hle9 hA9=>?_;refine cH (.inr U) (Ho:=Hp.only _ [0]) U (.agg 10 U U T.agg26) (aV _ _) ?_;refine ⟨⟨x1,x2,r,q⟩,u,o,o2,d,d2,?_,hku,U,hA8.up hle9,hA9,bO hrl hN2,by show q.length≤255;omega,U⟩;unfold vG;rw [ht1];dsimp only;rw [ht2];dsimp only;rw [e3];dsimp only;rw [e4];dsimp only;rw [show (h*256+l).toNat=N by omega,hcode];dsimp only;rw [ht6];dsimp only;rw [show x6.toNat=M by omega,houts];rfl
theorem GA (B:List U8) (k:Nat):0≤wU B k∧wU B k<65521:=by
 cases k with
 | zero=>exact ⟨iM _,(by decide:(0:Int)<65521)⟩
 | succ k =>
   unfold wU;omega
theorem Qb {j v:Int} (hj:0≤j∧j≤1048577) (hv:0≤v∧v≤255):0≤j*v∧j*v≤267387135:=by
 refine ⟨kO hj.1 hv.1,?_⟩;exact Int.le_trans (Int.mul_le_mul hj.2 hv.2 hv.1 sN) sN
theorem c65 (G:A3) (a:Option Addr) (c:Nat) (B:List U8) (hA:Arr G a B) (hB:C6 B) (hl:B.length≤1048576) :
 Does Tryz.prog 65 [.slice a B.length c] G [] (fun v G' Ho=>v=.int .i64 (wU B B.length)∧G'=G∧Ho=[]):=by
 refine D0 Tryz.func65 Tryz.ntmps65 fun w=>?_;refine bI 17 [] ?_;refine gX (ι:=Nat) (fun j=>([(4,.int .i64 (j:Int)),(3,.int .i64 (wU B j)),(0,.slice a B.length c),(2,Go.Value.int Go.IntKind.i64 0)],[])) (fun j=>j≤B.length) (fun j=>B.length - j) (0) (aM _) fun j=>fun (hk:j≤B.length)=>?_;rcases aK j B.length with hjl | hjl
 · have h8:=hB j hjl;have ew:IntKind.i64.wrap (B[(j:Int).toNat]?.getD default).v=(B[j]?.getD default).v:=RI WG;have hm:=Qb (j:=(j:Int)+1) sN h8;rw [←ew] at hm;have hc:=GA B j;refine aI 20 [1] ?_;refine fR (α:=U8) T.sl38 ?_;refine jC 0 T.one5 ?_;refine aQ (cP U T.u3 U) ?_;refine aQ (lZ U U sN) ?_;refine aC 1 [] ?_;refine aQ (nE U U sN) ?_;refine aS 9 [] ?_;refine cJ 3 U (show _=Value.int .i64 (wU B (j+1)) by rw [ew];rfl) ?_;refine cJ 4 U (show _=Value.int .i64 ((j+1:Nat):Int) from U) ?_;refine cK (j+1) ?_ ?_
   · exact hjl
   show B.length - (j+1)<B.length - j;omega
 have hje:j=B.length:=sN;subst hje;refine bE 22 [0] ?_;refine cV ?_;exact ⟨U,U,U⟩
theorem cu (G:A3) (a:Option Addr) (c:Nat) (B:List U8) (hA:Arr G a B) (hB:C6 B) (hl:B.length≤65520) :
 Does Tryz.prog 126 [.slice a B.length c] G [] (fun v G' Ho=>v=.int .i64 (wU B B.length)∧G'=G∧Ho=[]):=by
 refine D0 Tryz.func126 Tryz.ntmps126 fun w=>?_;refine bI 19 [] ?_;refine gX (ι:=Nat) (fun j=>([(8,.int .i64 (j:Int)),(3,.int .i64 (wU B j)),(7,Go.Value.int Go.IntKind.i64 (↑(List.length B):Int)),(6,Go.Value.slice a (List.length B) c),(2,Go.Value.int Go.IntKind.i64 0)],[])) (fun j=>j≤B.length) (fun j=>B.length - j) (0) (aM _) fun j=>fun (hk:j≤B.length)=>?_;rcases aK j B.length with hjl | hjl
 · have h8:=hB j hjl;have ew:IntKind.i64.wrap (B[(j:Int).toNat]?.getD default).v=(B[j]?.getD default).v:=RI WG;have et:((j:Int)+1).tmod 65521=(j:Int)+1:=by rw [oY sN];omega
   have hm2:=Qb (j:=(j:Int)+1) sN h8;have hm:=hm2;rw [←ew,←et] at hm;have hc:=GA B j;refine aI 14 [1] ?_;refine fR (α:=U8) T.sl38 ?_;refine jC 0 T.one5 ?_;refine aL 8 [] ?_;refine aQ (nE U U sN) ?_;refine aC 1 [] ?_;refine aQ (cP U T.u3 U) ?_;refine aQ (mH U U) ?_;refine aQ (Vj U U) ?_;refine aQ (sD U U sN) ?_;refine aS 8 [] ?_;refine cJ 3 U (show _=Value.int .i64 (wU B (j+1)) by rw [ew,rY (a:=(j:Int)+1) sN sN,RI (x:=((j:Int)+1)*(B[j]?.getD default).v) sN,RI sN,oY sN];rfl) ?_;refine cJ 8 U (show _=Value.int .i64 ((j+1:Nat):Int) from U) ?_;refine cK (j+1) ?_ ?_
   · exact hjl
   show B.length - (j+1)<B.length - j;omega
 have hje:j=B.length:=sN;subst hje;refine bE 19 [0] ?_;refine cV ?_;exact ⟨U,U,U⟩
end Go.Proofs.YtkdelpdbjfpgmaaGreatDoor
namespace Go.Sl.Ez
open Go Go.Sl
section
variable {P:Program} {w:World}
theorem run_mark {t e:TypeId} {b o n c:Nat} {cs:Array Value} {ty:TypeId} (ht:P.underlying t=some (.slice e)) (he:P.underlying e=some (.int .u8)) (hb:w.heap[b]?=some (.cells cs ty (0,0))) :
 (convert t t (.slice (some ⟨b,o,none⟩) n c)).run P w=.ok (.slice (some ⟨b,o,none⟩) n c) (w.freeze ⟨b,cs.size,none⟩ 1):=by
 have hsh:w.shape? b=some (ty,cs.size):=by unfold World.shape?;rw [hb]
 simp [convert,cT ht,cT he,markStringish,hsh]
theorem freeze_upd {b k:Nat}:E0 (·=b) w (w.freeze ⟨b,k,none⟩ 1):=⟨U,U,U,by simp [World.freeze],fun j _ hj=>by
 have hj':b≠j:=fun e=>hj e.symm;simp [World.freeze,qS,hj']⟩
theorem freeze_at {b k:Nat} {cs:Array Value} {ty:TypeId} (hb:w.heap[b]?=some (.cells cs ty (0,0))):(w.freeze ⟨b,k,none⟩ 1).heap[b]?=some (.cells cs ty (k,k+1)):=by
 simp [World.freeze,qS,hb]
end
section
variable {P:Program} {e:A9} {H:Hp} {G:A3} {ty T:TypeId}
theorem Qy.indexV {x i:Operand} {n E:Nat} {k:IntKind} {m:Int} {vs:List Value} {v:Value} (hu:P.underlying T=some (.array n E)) (h1:wY P E=true) (hs:(P.info? E).map (·.size)=some 1) (hx:e.ev x=some (.agg vs.toArray)) (hi:e.ev i=some (.int k m))
 (hb:0≤m∧m<n) (hv:vs[m.toNat]?=some v):Qy P (.index T x i) ty e H G v:=fun a w _ _ _ _ hh=>by
 simp [execOp,Instr.index,hh.eval hx,hh.eval hi,asIntOf,cT hu,hb,run_sizeOf w hs,part,zO w h1,hv]
end
end Go.Sl.Ez
namespace Go.Sl
open Go
section
variable {P:Program} {B:Bs} {e:A9} {D:List Deferred} {H:Hp} {G:A3} {K:Act→World→Prop} {ops:Array Oper} {rest:List Oper} {d:Nat} {ty:TypeId} {pos:String} {after:Array Edge}
theorem Wl.mark {T E ty0:TypeId} {x:Operand} {b n c:Nat} {cs:List Value} (t:Nat) (hn:Nat.ble (d+1) B.n=true) (hT:P.underlying T=some (.slice E)) (hE:P.underlying E=some (.int .u8)) (hx:e.ev x=some (.slice (some ⟨b,0,none⟩) n c)) (ht:H.get t=some (some b,.cells cs.toArray ty0 (0,0)))
 (h:Wl P ops rest B ⟨(d,.slice (some ⟨b,0,none⟩) n c) :: e,D,(t,some b,.cells cs.toArray ty0 (cs.toArray.size,cs.toArray.size+1)) :: H,G⟩ K):Wl P ops (⟨some d,.convert T T x,ty,pos,after,none⟩ :: rest) B ⟨e,D,H,G⟩ K:=
 nS (v:=.slice (some ⟨b,0,none⟩) n c) (x:=.value (.slice (some ⟨b,0,none⟩) n c)) ht (.inr ⟨U,d,U,hn⟩) (fun a w hh=>by
  have hb:=hh.mem.own t b _ ht;refine ⟨_,?_,Ez.freeze_upd,Ez.freeze_at (k:=cs.toArray.size) hb⟩;simp only [execOp,hh.eval hx,dA,Ez.run_mark hT hE hb,bK,dN]) h
end
end Go.Sl
namespace Go.Proofs.YtkdelpdbjfpgmaaGreatDoor
open Go Go.Sl
theorem jv (G:A3) (b:Nat):Does Tryz.prog 73 [.pointer (some ⟨b,0,none⟩)] G [] (fun v G' Ho=>v=.agg #[.pointer (some ⟨b,3,none⟩),.pointer (some ⟨b,7,none⟩),.pointer (some ⟨b,11,none⟩)]∧G'=G∧Ho=[]):=by
 refine D0 Tryz.func73 Tryz.ntmps73 fun w=>?_;refine aI 2 [] ?_;refine aO 0 U T.zero119 fun b1=>?_;refine bB 3 [] ?_;refine dE [0] [(0,10)] T.mixed [[0],[1],[2],[3],[4],[5],[6],[7],[8]] ?_;refine dW 9 [] U (Ky (cs:=[_,_,_]) T.ar119 U U U) ?_;refine bQ 10 ?_;refine aC 1 [0] ?_;refine bC ?_;refine iN sR F9 wJ ?_;refine eE 2 [] ?_;refine cH (.inr U) (Ho:=Hp.only _ []) U (.agg 0 U U T.agg119) (aV _ _) ?_;exact ⟨U,U,U⟩
theorem Jw {G:A3} {b:Nat} {ty:TypeId} {z:Nat×Nat} {xs:List U8} (h:G b=some (.cells (tN xs++[]).toArray ty z)):Arr G (some ⟨b,0,none⟩) xs:=by
 refine ⟨by rw [tG],.inr ⟨b,0,U,fun k hk=>?_⟩⟩;unfold A3.cell;rw [h];simp
theorem TX {B:List U8} {n:Nat} {s t u:RS} {x y:Int} {r:List R2} (h1:sg B s=(x,t)) (h2:sg B t=(y,u)):Gp B (n+1) s r=Gp B n u (r++[(⟨x,y⟩:R2)]):=by
 show (match sg B s with | (a,t)=>match sg B t with | (b,t')=>Gp B n t' (r++[(⟨a,b⟩:R2)]))=_;rw [h1];dsimp only;rw [h2]
theorem C6.take {B:List U8} (h:C6 B) (n:Nat):C6 (B.take n):=fun i hi=>by
 rw [bG] at hi;rw [List.getElem?_take_of_lt sN];exact h i sN
theorem Ue {B:List U8} {n:Nat}:∀ k,k≤n→n≤B.length→wU (B.take n) k=wU B k
 | 0,_,_=>rfl
 | k+1,h,hn=>by
   show (wU (B.take n) k+((k:Int)+1)*((B.take n)[k]?.getD default).v) % 65521=(wU B k+((k:Int)+1)*(B[k]?.getD default).v) % 65521;rw [Ue k sN hn,List.getElem?_take_of_lt sN]
def GB (k1 k2:Int) (pa:Option Addr) (pn pc:Nat) (x y z:PH):Value:=.agg #[.int .i64 k1,.int .i64 k2,.slice pa pn pc,.int .i64 x.ins,.int .i64 x.regs,.slice x.ac x.cn x.cc,.slice x.ao x.on x.oc,.int .i64 y.ins,.int .i64 y.regs,.slice y.ac y.cn y.cc,.slice y.ao y.on y.oc,.int .i64 z.ins,.int .i64 z.regs,.slice z.ac z.cn z.cc,.slice z.ao z.on z.oc]
theorem AG {x:Int}:x.fdiv (2 ^ min (Int.toNat 8) IntKind.i64.bits)=x / 256:=by
 rw [show (2:Int) ^ min (Int.toNat 8) IntKind.i64.bits=256 from sY];exact pB _ sY
theorem OM {x:Int} (h:0≤x∧x≤65535):bits .and .i64 x 255=x % 256:=by
 obtain ⟨a,rfl⟩:∃ a:Nat,x=(a:Int):=⟨x.toNat,by omega⟩
 have e:=(bits_nat .i64 16 sY (fun n h1 h2=>RI (by have:(2:Int) ^ 16=65536:=sY;omega)) a 255 sN sN).1;rw [show (255:Nat)=2 ^ 8 - 1 from rfl,sG] at e;exact e.trans sN
theorem Ey {B:List U8}:∀ k,0≤wU B k∧wU B k≤65520
 | 0=>by show (0:Int)≤0∧(0:Int)≤65520;omega
 | k+1=>by
   show 0≤(wU B k+((k:Int)+1)*(B[k]?.getD default).v) % 65521∧(wU B k+((k:Int)+1)*(B[k]?.getD default).v) % 65521≤65520;omega
theorem GD {B:List U8} {s:RS} (h:s.wr=true):Su B s=s:=aF h
theorem TY {B:List U8} {s t u:RS} {x y n:Int} (h:s.wr=false) (hn:n=wU B s.k) (h1:wi B s (n / 256) (n / 256)=(x,t)) (h2:wi B t (n % 256) (n % 256)=(y,u)):Su B s=u:=by
 unfold Su;rw [aD (by rw [h];exact Bool.false_ne_true),←hn,h1,h2]
def GF (B:List U8) (s:RS):Nat→RS
 | 0=>s
 | i+1=>(vG B (GF B s i)).2
theorem c66 (G:A3) (a:Option Addr) (c:Nat) (B:List U8) (hA:Arr G a B) (hc:B.length≤c) (hB:C6 B) (hl:B.length≤65520) :
 Does Tryz.prog 66 [.slice a B.length c] G [] (fun v G' Ho=>∃ (u:UV) (t:RS),vQ B=(u,t)∧t.k≤B.length∧Ho=[]∧(((t.wr=true∨t.k<B.length)∧v=.tuple #[GB 0 0 none 0 0 ⟨0,0,none,0,0,none,0,0⟩ ⟨0,0,none,0,0,none,0,0⟩ ⟨0,0,none,0,0,none,0,0⟩,.agg #[.int .i64 170,.int .i64 (t.k:Int)]])∨
  (t.wr=false∧t.k=B.length∧∃ (pa:Option Addr) (pc:Nat) (h0 h1 h2:PH),v=.tuple #[GB u.k1 u.k2 pa u.pl.length pc h0 h1 h2,.agg #[.int .i64 0,.int .i64 0]]∧u.pl.length≤pc∧Arr G' pa u.pl∧D6 G' u.x h0∧D6 G' u.y h1∧D6 G' u.z h2))):=by
 have hl0:=hl;replace hl:B.length≤1048576:=sN;refine D0 Tryz.func66 Tryz.ntmps66 fun w=>?_;refine aI 2 [] ?_;refine aO 0 U T.zero28 fun b1=>?_;refine aO 1 U T.zero42 fun b2=>?_;refine aL 5 [] ?_;refine aQ (bP (cs:=[_,_,_]) T.st198 U U U) ?_;refine dV 2 fun b3=>?_;refine aL 6 [] ?_;refine cZ (α:=U8) 3 [⟨65⟩,⟨78⟩,⟨86⟩,⟨49⟩] U T.sl38 T.el5 U U U U U fun b4=>?_;refine Wl.mark 3 U T.sl38.1 T.u5 U U ?_;refine lI 3 U fun G1 hle1 hm1=>?_;replace hA:=hA.up hle1;obtain ⟨M,hMe,hM⟩:∃ M:List U8,M=[(⟨65⟩:U8),⟨78⟩,⟨86⟩,⟨49⟩]∧Arr G1 (some ⟨b4,0,none⟩) M:=⟨_,U,Jw hm1⟩
 have hM4:M.length=4:=by rw [hMe];rfl
 refine bB 5 [] ?_;refine iV 16 U (show _=Value.slice (some ⟨b4,0,none⟩) M.length 4 by rw [hM4];rfl) ?_;refine Wc.lg (ι:=Nat×A3×RS) (fun (i,Gx,tm)=>([(18,.int .i64 (i:Int)),(17,.int .i64 4),(16,.slice (some ⟨b4,0,none⟩) M.length 4),(4,.pointer (some ⟨b3,0,none⟩)),(0,.slice a B.length c),(3,Go.Value.pointer (Option.some (Go.Addr.mk b2 0 Option.none))),(2,Go.Value.pointer (Option.some (Go.Addr.mk b1 0 Option.none)))],[(0,some b1,.cells #[.int .i64 0,.int .i64 0,.slice none 0 0,.int .i64 0,.int .i64 0,.slice none 0 0,.slice none 0 0,.int .i64 0,.int .i64 0,.slice none 0 0,.slice none 0 0,.int .i64 0,.int .i64 0,.slice none 0 0,.slice none 0 0] 28),(1,some b2,.cells #[.int .i64 0,.int .i64 0] 42),(2,some b3,Xz a B.length c tm)])) (fun (i,Gx,tm)=>Gx) (fun (i,Gx,tm)=>i≤4∧G1.le Gx∧tm=Ua B i∧tm.k≤B.length) (fun (i,Gx,tm)=>4 - i) ((0,G1,⟨0,false⟩)) (⟨aM _,bN _,U,aM _⟩) fun ⟨i,Gx,tm⟩=>fun hk=>?_;obtain ⟨hi,hgx,ht0,hk0⟩:=hk;replace hA:=hA.up hgx;replace hM:=hM.up hgx;rcases aK i 4 with hi4 | hi4
 · refine aI 13 [1] ?_;refine fR (α:=U8) T.sl38 ?_;refine jC 0 T.one5 ?_;refine aL 6 [] ?_;refine aQ (cP U T.u3 U) ?_;refine aC 1 [] ?_;refine aQ (cP U T.u3 U) ?_;refine bV 2 U (Ck _ _ a c B _ _ _ hA hB sO hl) fun v2 G2 Ho2 hle2 hp=>?_;obtain ⟨x2,t2,ht2,hk2,hx2,rfl,rfl⟩:=hp;replace hA:=hA.up hle2;replace hM:=hM.up hle2;refine aS 7 [] ?_;refine cK ((i+1,G2,t2)) ?_ ?_
   · refine ⟨by omega,aP hgx hle2,?_,hk2⟩;refine (congrArg Prod.snd ht2).symm.trans ?_;rw [ht0,hMe];rcases (show i=0∨i=1∨i=2∨i=3 by omega) with rfl | rfl | rfl | rfl <;> rfl
   show 4 - (i+1)<4 - i;omega
 obtain rfl:i=4:=sN;refine aI 15 [0] ?_;refine bV 2 U (Ck _ _ a c B _ _ _ hA hB sO hl) fun v2 G2 Ho2 hle2 hp=>?_;obtain ⟨x2,t2,ht2,hk2,hx2,rfl,rfl⟩:=hp;replace hA:=hA.up hle2;replace hM:=hM.up hle2;refine aC 1 [] ?_;refine bV 2 U (Ck _ _ a c B _ _ _ hA hB sO hl) fun v3 G3 Ho3 hle3 hp=>?_;obtain ⟨x3,t3,ht3,hk3,hx3,rfl,rfl⟩:=hp;replace hA:=hA.up hle3;replace hM:=hM.up hle3;refine aQ (bP (cs:=[_,_,_,_,_,_,_,_,_,_,_,_,_,_,_]) T.st28 U U U) ?_;refine aO 3 U T.zero28 fun b5=>?_;refine aL 7 [3] ?_;refine bV 2 U (Ck _ _ a c B _ _ _ hA hB sO hl) fun v4 G4 Ho4 hle4 hp=>?_;obtain ⟨x4,t4,ht4,hk4,hx4,rfl,rfl⟩:=hp;replace hA:=hA.up hle4;replace hM:=hM.up hle4;refine bB 4 [] ?_;obtain ⟨N,hN,hN2⟩:∃ N:Nat,x4=(N:Int)∧N≤255:=⟨x4.toNat,by omega,by omega⟩
 refine iV 35 U (show _=Value.int .i64 (N:Int) by rw [hN]) ?_;refine eJ 9 (Row 52 ([]:List R2) []) ?_;refine jZ (ι:=Nat×A3×RS×List R2×(Option Addr×Nat×List Value)) (fun (i,Gx,t,r,(o,d,j))=>([(36,.int .i64 (i:Int)),(35,.int .i64 (N:Int)),(7,.pointer (some ⟨b5,0,none⟩)),(4,.pointer (some ⟨b3,0,none⟩)),(0,.slice a B.length c),(3,Go.Value.pointer (Option.some (Go.Addr.mk b2 0 Option.none))),(2,Go.Value.pointer (Option.some (Go.Addr.mk b1 0 Option.none)))],[(0,some b1,.cells #[.int .i64 0,.int .i64 0,.slice none 0 0,.int .i64 0,.int .i64 0,.slice none 0 0,.slice none 0 0,.int .i64 0,.int .i64 0,.slice none 0 0,.slice none 0 0,.int .i64 0,.int .i64 0,.slice none 0 0,.slice none 0 0] 28),(1,some b2,.cells #[.int .i64 0,.int .i64 0] 42),(2,some b3,Xz a B.length c t),(3,some b5,.cells #[.int .i64 x2,.int .i64 x3,.slice o r.length d,.int .i64 0,.int .i64 0,.slice none 0 0,.slice none 0 0,.int .i64 0,.int .i64 0,.slice none 0 0,.slice none 0 0,.int .i64 0,.int .i64 0,.slice none 0 0,.slice none 0 0] 28),(9,o.map (·.block),Row 52 r j)])) (fun (i,Gx,t,r,(o,d,j))=>Gx) (fun (i,Gx,t,r,(o,d,j))=>i≤N∧G4.le Gx∧Gp B N t4 []=Gp B (N - i) t r∧t.k≤B.length∧A4 o d r j∧r.length=i) (fun (i,Gx,t,r,(o,d,j))=>N - i) ((0,G4,t4,[],(none,0,[]))) (⟨aM _,bN _,U,hk4,eG,U⟩) U ⟨U,U,U,U,U,U,U,F9⟩ ⟨U,U,U,U,U,F9⟩ fun ⟨i,Gx,t,r,(o,d,j)⟩=>fun hk=>?_;obtain ⟨hi,hgy,hpts,hkt,hown,hri⟩:=hk;replace hA:=hA.up hgy;rcases aK i N with hiN | hiN
 · refine aI 14 [1] ?_;refine bV 2 U (cp _ _ a c B _ hA hB sO hl) fun v5 G5 Ho5 hle5 hp=>?_;obtain ⟨x5,t5,ht5,hk5,hx5,rfl,rfl⟩:=hp;replace hA:=hA.up hle5;refine bB 3 [] ?_;refine dE [9,3,1,0,2] [(3,9),(9,7),(2,4)] T.mixed [[0],[1,3],[2],[3]] ?_;refine bQ 4 ?_;refine bV 2 U (cp _ _ a c B _ hA hB sO hl) fun v6 G6 Ho6 hle6 hp=>?_;obtain ⟨x6,t6,ht6,hk6,hx6,rfl,rfl⟩:=hp;replace hA:=hA.up hle6;refine bC ?_;refine dW 5 [] U (bP (cs:=[_,_]) T.st52 U U U) ?_;refine bQ 6 ?_;refine cZ (α:=R2) 10 [⟨x5,x6⟩] U T.sl22 T.el52 U U U U U fun b6=>?_;refine cS 7 ?_;refine kH (α:=R2) 9 T.sl22 T.el52 (dT 10 U) fun a1 c1 junk1 ho1=>?_;refine bC ?_;refine dK [[8]] ?_;refine bQ 9 ?_;refine aC 1 [3] ?_;refine fD ?_;refine eE 6 [] ?_;refine cJ 36 U (show _=Value.int .i64 ((i+1:Nat):Int) from U) ?_;refine cK ((i+1,G6,t6,r++[⟨x5,x6⟩],(a1,c1,junk1))) ?_ ?_
   · refine ⟨by omega,aP hgy (aP hle5 hle6),?_,hk6,ho1,by rw [aB,hri];rfl⟩;rw [hpts,show N - i=(N - (i+1))+1 by omega];exact TX ht5 ht6
   show N - (i+1)<N - i;omega
 have hz:N - i=0:=sN;rw [hz] at hpts;refine qD 9 U hown fun G5 hle5 hpl=>?_;replace hA:=hA.up hle5;refine aI 15 [0] ?_;refine cI U (jv _ _) ?_;refine bB 4 [] ?_;refine Wc.lg (ι:=Nat×A3×RS×PH×PH×PH) (fun (i,Gx,s,h0,h1,h2)=>([(51,.int .i64 (i:Int)),(50,.agg #[.pointer (some ⟨b5,3,none⟩),.pointer (some ⟨b5,7,none⟩),.pointer (some ⟨b5,11,none⟩)]),(7,.pointer (some ⟨b5,0,none⟩)),(4,.pointer (some ⟨b3,0,none⟩)),(0,.slice a B.length c),(3,Go.Value.pointer (Option.some (Go.Addr.mk b2 0 Option.none))),(2,Go.Value.pointer (Option.some (Go.Addr.mk b1 0 Option.none)))],[(0,some b1,.cells #[.int .i64 0,.int .i64 0,.slice none 0 0,.int .i64 0,.int .i64 0,.slice none 0 0,.slice none 0 0,.int .i64 0,.int .i64 0,.slice none 0 0,.slice none 0 0,.int .i64 0,.int .i64 0,.slice none 0 0,.slice none 0 0] 28),(1,some b2,.cells #[.int .i64 0,.int .i64 0] 42),(2,some b3,Xz a B.length c s),(3,some b5,.cells #[.int .i64 x2,.int .i64 x3,.slice o r.length d,.int .i64 h0.ins,.int .i64 h0.regs,.slice h0.ac h0.cn h0.cc,.slice h0.ao h0.on h0.oc,.int .i64 h1.ins,.int .i64 h1.regs,.slice h1.ac h1.cn h1.cc,.slice h1.ao h1.on h1.oc,.int .i64 h2.ins,.int .i64 h2.regs,.slice h2.ac h2.cn h2.cc,.slice h2.ao h2.on h2.oc] 28)])) (fun (i,Gx,s,h0,h1,h2)=>Gx) (fun (i,Gx,s,h0,h1,h2)=>i≤3∧G5.le Gx∧s=GF B t i∧s.k≤B.length∧(0<i→D6 Gx (vG B (GF B t 0)).1 h0)∧(1<i→D6 Gx (vG B (GF B t 1)).1 h1)∧(2<i→D6 Gx (vG B (GF B t 2)).1 h2)) (fun (i,Gx,s,h0,h1,h2)=>3 - i) ((0,G5,t,⟨0,0,none,0,0,none,0,0⟩,⟨0,0,none,0,0,none,0,0⟩,⟨0,0,none,0,0,none,0,0⟩)) (⟨aM _,bN _,U,hkt,fun h=>absurd h sN,fun h=>absurd h sN,fun h=>absurd h sN⟩) fun ⟨i,Gx,s,h0,h1,h2⟩=>fun hk=>?_;obtain ⟨hi3,hgz,hs,hks,hp0,hp1,hp2⟩:=hk;replace hA:=hA.up hgz;rcases aK i 3 with hi3' | hi3'
 · rcases (show i=0∨i=1∨i=2 by omega) with rfl | rfl | rfl
   · refine aI 13 [1] ?_;refine aQ (Ez.Qy.indexV (n:=3) (E:=85) sR sR sR U U sY U) ?_;refine aL 6 [] ?_;refine bV 2 U (YI _ _ a c B _ hA hB sO hl) fun v6 G6 Ho6 hle6 hp=>?_;obtain ⟨p6,t6,ac6,ao6,cc6,co6,ht6,hk6,rfl,hac6,hao6,hcn6,hon6,rfl⟩:=hp;replace hA:=hA.up hle6;refine aC 1 [] ?_;refine jT 3 T.size26 U U U U U U ?_;refine aS 7 [] ?_;have hq:vG B (GF B t 0)=(p6,t6):=by rw [←hs];exact ht6
     refine cK ((1,G6,t6,⟨p6.ins,p6.regs,ac6,p6.code.length,cc6,ao6,p6.outs.length,co6⟩,h1,h2)) ?_ ?_
     · exact ⟨by omega,aP hgz hle6,by show t6=(vG B (GF B t 0)).2;rw [hq],hk6,fun _=>by rw [hq];exact ⟨U,U,U,U,hac6,hao6⟩,fun h=>absurd h sN,fun h=>absurd h sN⟩
     show 3 - 1<3 - 0;omega
   · refine aI 13 [1] ?_;refine aQ (Ez.Qy.indexV (n:=3) (E:=85) sR sR sR U U sY U) ?_;refine aL 6 [] ?_;refine bV 2 U (YI _ _ a c B _ hA hB sO hl) fun v6 G6 Ho6 hle6 hp=>?_;obtain ⟨p6,t6,ac6,ao6,cc6,co6,ht6,hk6,rfl,hac6,hao6,hcn6,hon6,rfl⟩:=hp;replace hA:=hA.up hle6;refine aC 1 [] ?_;refine jT 3 T.size26 U U U U U U ?_;refine aS 7 [] ?_;have hq:vG B (GF B t 1)=(p6,t6):=by rw [←hs];exact ht6
     refine cK ((2,G6,t6,h0,⟨p6.ins,p6.regs,ac6,p6.code.length,cc6,ao6,p6.outs.length,co6⟩,h2)) ?_ ?_
     · exact ⟨by omega,aP hgz hle6,by show t6=(vG B (GF B t 1)).2;rw [hq],hk6,fun _=>(hp0 sN).up hle6,fun _=>by rw [hq];exact ⟨U,U,U,U,hac6,hao6⟩,fun h=>absurd h sN⟩
     show 3 - 2<3 - 1;omega
   refine aI 13 [1] ?_;refine aQ (Ez.Qy.indexV (n:=3) (E:=85) sR sR sR U U sY U) ?_;refine aL 6 [] ?_;refine bV 2 U (YI _ _ a c B _ hA hB sO hl) fun v6 G6 Ho6 hle6 hp=>?_;obtain ⟨p6,t6,ac6,ao6,cc6,co6,ht6,hk6,rfl,hac6,hao6,hcn6,hon6,rfl⟩:=hp;replace hA:=hA.up hle6;refine aC 1 [] ?_;refine jT 3 T.size26 U U U U U U ?_;refine aS 7 [] ?_;have hq:vG B (GF B t 2)=(p6,t6):=by rw [←hs];exact ht6
   refine cK ((3,G6,t6,h0,h1,⟨p6.ins,p6.regs,ac6,p6.code.length,cc6,ao6,p6.outs.length,co6⟩)) ?_ ?_
   · exact ⟨by omega,aP hgz hle6,by show t6=(vG B (GF B t 2)).2;rw [hq],hk6,fun _=>(hp0 sN).up hle6,fun _=>(hp1 sN).up hle6,fun _=>by rw [hq];exact ⟨U,U,U,U,hac6,hao6⟩⟩
   show 3 - 3<3 - 2;omega
 obtain rfl:i=3:=sN;refine bI 12 [0] ?_;refine Pe (ι:=A3×RS) (fun (Gy,u)=>([(7,.pointer (some ⟨b5,0,none⟩)),(4,.pointer (some ⟨b3,0,none⟩)),(0,.slice a B.length c),(3,.pointer (some ⟨b2,0,none⟩)),(2,.pointer (some ⟨b1,0,none⟩))],[(0,some b1,.cells #[.int .i64 0,.int .i64 0,.slice none 0 0,.int .i64 0,.int .i64 0,.slice none 0 0,.slice none 0 0,.int .i64 0,.int .i64 0,.slice none 0 0,.slice none 0 0,.int .i64 0,.int .i64 0,.slice none 0 0,.slice none 0 0] 28),(1,some b2,.cells #[.int .i64 0,.int .i64 0] 42),(2,some b3,Xz a B.length c u),(3,some b5,.cells #[.int .i64 x2,.int .i64 x3,.slice o r.length d,.int .i64 h0.ins,.int .i64 h0.regs,.slice h0.ac h0.cn h0.cc,.slice h0.ao h0.on h0.oc,.int .i64 h1.ins,.int .i64 h1.regs,.slice h1.ac h1.cn h1.cc,.slice h1.ao h1.on h1.oc,.int .i64 h2.ins,.int .i64 h2.regs,.slice h2.ac h2.cn h2.cc,.slice h2.ao h2.on h2.oc] 28)])) (fun (Gy,u)=>Gy) (fun (Gy,u)=>Gx.le Gy∧u=Su B s∧u.k≤B.length) ?_ fun ⟨Gy,u⟩=>fun (hk:Gx.le Gy∧u=Su B s∧u.k≤B.length)=>?_
 · refine bI 9 [2] ?_;refine lJ U (fun hc1=>?_) fun hc1=>?_;refine aI 7 [2] ?_;refine aQ (Nt T.sl38 U U sN) ?_;rotate_left;refine kI ?_;rotate_left
   · refine fO 69 U (show _=Value.slice (C7 a c 0 1) (B.take s.k).length c by congr 1;rw [bG];omega) ?_;refine cI U (cu _ _ _ (B.take s.k) (Jg hA _) (hB.take _) (by rw [bG];omega)) ?_;refine aL 7 [] ?_;refine aQ (nT U U sN) ?_;refine aC 1 [] ?_;refine aQ (nT U U sN) ?_;refine bV 2 U (Ck _ _ a c B _ _ _ hA hB sO hl) fun v6 G6 Ho6 hle6 hp=>?_;obtain ⟨x6,t6,ht6,hk6,hx6,rfl,rfl⟩:=hp;replace hA:=hA.up hle6;refine aL 5 [] ?_;refine aQ (lN U U) ?_;refine aC 1 [] ?_;refine aQ (lN U U) ?_;refine bV 2 U (Ck _ _ a c B _ _ _ hA hB sO hl) fun v7 G7 Ho7 hle7 hp=>?_;obtain ⟨x7,t7,ht7,hk7,hx7,rfl,rfl⟩:=hp;replace hA:=hA.up hle7;refine eM ?_;have hcs:wU (List.take s.k B) (List.take s.k B).length=wU B s.k:=by rw [bG,cY hks];exact Ue s.k (aH _) hks
     rw [AG,hcs] at ht6;rw [hcs,OM ⟨(Ey _).1,by have:=(Ey (B:=B) s.k).2;omega⟩] at ht7;refine mM ((G7,t7)) ?_;exact ⟨aP hle6 hle7,(TY (by have:=hc1;cases hw:s.wr <;> simp_all) rfl ht6 ht7).symm,hk7⟩
   refine mM ((Gx,s)) ?_;exact ⟨bN _,(GD (by have:=hc1;cases hw:s.wr <;> simp_all)).symm,hks⟩
 obtain ⟨hgw,hu,hku⟩:=hk;have hdec:vQ B=(⟨x2,x3,r,(vG B (GF B t 0)).1,(vG B (GF B t 1)).1,(vG B (GF B t 2)).1⟩,u):=by
  unfold vQ;rw [←ht0,ht2];dsimp only;rw [ht3];dsimp only;rw [ht4];dsimp only;rw [show x4.toNat=N by omega,hpts,hu,hs];rfl
 refine aI 8 [2] ?_;refine Tf 87 U (fun hg1=>?_) fun hg1=>?_;refine bB 12 [1] ?_;refine gM [3,2,1,0] [(1,7),(0,6)] T.mixed U ?_;refine dW 0 [] U (bP (cs:=[_,_,_,_,_,_,_,_,_,_,_,_,_,_,_]) T.st28 U U U) ?_;refine dK [[1],[2],[3],[4,2]] ?_;refine dW 5 [] U (bP (cs:=[_,_]) T.st42 U U U) ?_;refine bQ 6 ?_;refine aC 1 [0] ?_;refine cS 7 ?_;refine aC 1 [1] ?_;refine fD ?_;refine eE 3 [] ?_;rotate_left;refine bB 17 [2] ?_;refine cW (fun hc1=>?_) fun hc1=>?_;refine dJ ?_;refine gM [3,2,1,0] [(1,7),(0,6)] T.mixed U ?_;refine dW 0 [] U (bP (cs:=[_,_,_,_,_,_,_,_,_,_,_,_,_,_,_]) T.st28 U U U) ?_;refine dK [[1],[2],[3],[4,2]] ?_;refine dW 5 [] U (bP (cs:=[_,_]) T.st42 U U U) ?_;refine bQ 6 ?_;refine aC 1 [0] ?_;refine cS 7 ?_;refine aC 1 [1] ?_;refine fD ?_;refine eE 3 [] ?_;rotate_left;refine aI 5 [3] ?_;refine aQ (bP (cs:=[_,_]) T.st42 U U U) ?_;refine aS 5 [0,1] ?_;rotate_left
 · refine gZ (.inr U) (Ho:=Hp.only _ []) U (.agg 0 U U T.agg28) (.agg 1 U U T.agg42) (aV _ _) ?_;exact ⟨_,u,hdec,hku,U,.inl ⟨.inl sO,U⟩⟩
 · refine gZ (.inr U) (Ho:=Hp.only _ []) U (.agg 0 U U T.agg28) (.agg 1 U U T.agg42) (aV _ _) ?_;exact ⟨_,u,hdec,hku,U,.inl ⟨.inr sN,U⟩⟩
 refine gZ (.inr U) (Ho:=Hp.only _ []) U (.agg 0 U U T.agg28) (.agg 1 U U T.agg42) (aV _ _) ?_;exact ⟨_,u,hdec,hku,U,.inr ⟨by assumption,by omega,o,d,h0,h1,h2,U,hown.le,(hpl.up hgz).up hgw,(hp0 sN).up hgw,(hp1 sN).up hgw,(hp2 sN).up hgw⟩⟩
theorem YJ {α β:Type} {p:α×β} {b:β} (h:p.2=b):p=(p.1,b):=by rw [←h]
theorem ON {B:List U8} {s:RS} (h:s.wr=true):(vG B s).2=s:=
 congrArg Prod.snd (AF (Py h) (Py h) (Pz h) (Pz h) U (AD _ _ _ h) (Py h) U (YJ (Qa _ _ _ h)))
theorem Qc {B:List U8} {s t:RS} (h:(vG B s).2=t) (hw:t.wr=false):s.wr=false:=by
 cases hs:s.wr with
 | false=>rfl
 | true=>rw [ON hs] at h;rw [←h,hs] at hw;cases hw
theorem TZ {B:List U8} {t1 t2 t3 t t4 t6 t7:RS} {k1 k2 n:Int} {N:Nat} {pl:List R2} {x y z:PV} (e1:wi B (Ua B 4) 1 8=(k1,t1)) (e2:wi B t1 1 8=(k2,t2)) (e3:wi B t2 0 255=(n,t3)) (hN:n.toNat=N) (e4:Gp B N t3 []=(pl,t)) (e5:vG B t=(x,t4)) (e6:vG B t4=(y,t6)) (e7:vG B t6=(z,t7)):vQ B=(⟨k1,k2,pl,x,y,z⟩,Su B t7):=by
 subst hN;unfold vQ;rw [e1];dsimp only;rw [e2];dsimp only;rw [e3];dsimp only;rw [e4];dsimp only;rw [e5];dsimp only;rw [e6];dsimp only;rw [e7]
theorem fh {x:Int}:IntKind.u8.wrap x=x % 256:=by
 simp [IntKind.wrap,IntKind.bits,IntKind.signed]
theorem jx (G:A3) (n:Int) (hn:0≤n∧n≤65520):Does Tryz.prog 64 [.int .i64 n] G [] (fun v G' Ho=>∃ (a:Option Addr) (C:List U8),C=[⟨n / 256⟩,⟨n % 256⟩]∧C.length=2∧v=.slice a C.length 2∧Arr G' a C∧Ho=[]):=by
 refine D0 Tryz.func64 Tryz.ntmps64 fun w=>?_;refine aI 9 [] ?_;refine aQ (nE U U sN) ?_;refine aL 6 [] ?_;refine aQ (rH U U sN) ?_;refine aQ (cP U T.u5 U) ?_;refine aC 1 [] ?_;refine aQ (nE U U sN) ?_;refine aQ (cP U T.u5 U) ?_;refine fO 8 U (show _=Value.int .u8 (n / 256) by rw [fh];congr 1;omega) ?_;refine fO 11 U (show _=Value.int .u8 (n % 256) by rw [fh];congr 1;omega) ?_;refine cZ (α:=U8) 0 [⟨n / 256⟩,⟨n % 256⟩] U T.sl38 T.el5 U U U U U fun b1=>?_;refine aS 4 [] ?_;refine cX 0 U (fK (xs:=[(⟨n / 256⟩:U8),⟨n % 256⟩]) Ea) fun G9 hle9 hA=>?_;refine cV ?_;exact ⟨_,_,U,U,U,hA,U⟩
section
attribute [local irreducible] uV uE tF sP tW
theorem cx (G:A3) (k1 k2:Int) (pl:List R2) (pa:Option Addr) (pc:Nat) (xp yp zp:PV) (xac xao yac yao zac zao:Option Addr) (xcc xoc ycc yoc zcc zoc:Nat) (hpa:Arr G pa pl) (hpc:pl.length≤pc) (hpl:pl.length≤1048576) (hxc:Arr G xac xp.code) (hxo:Arr G xao xp.outs) (hx1:xp.code.length≤16384) (hx2:xp.outs.length≤1048576) (hyc:Arr G yac yp.code) (hyo:Arr G yao yp.outs) (hy1:yp.code.length≤16384) (hy2:yp.outs.length≤1048576) (hzc:Arr G zac zp.code) (hzo:Arr G zao zp.outs) (hz1:zp.code.length≤16384) (hz2:zp.outs.length≤1048576) :
 Does Tryz.prog 13 [.agg #[.int .i64 k1,.int .i64 k2,.slice pa pl.length pc,.int .i64 xp.ins,.int .i64 xp.regs,.slice xac xp.code.length xcc,.slice xao xp.outs.length xoc,.int .i64 yp.ins,.int .i64 yp.regs,.slice yac yp.code.length ycc,.slice yao yp.outs.length yoc,.int .i64 zp.ins,.int .i64 zp.regs,.slice zac zp.code.length zcc,.slice zao zp.outs.length zoc]] G [] (fun v G' Ho=>v=.tuple #[.int .i64 (tS k1 k2 pl xp yp zp).1,.int .i64 (tS k1 k2 pl xp yp zp).2]∧Ho=[]):=by
 refine D0 Tryz.func13 Tryz.ntmps13 fun w=>?_;by_cases hW:tF k1 k2 pl=0
 case neg =>
  refine aI 2 [] ?_;refine dV 0 fun b1=>?_;refine aL 12 [0,0,0] ?_;refine bV 1 U (fg _ _ _ _ _ _ sO sN sN) fun v1 G1 Ho1 hle1 hp=>?_;obtain ⟨pv1,rfl,rfl⟩:=hp;replace hpa:=hpa.up hle1;replace hxc:=hxc.up hle1;replace hxo:=hxo.up hle1;replace hyc:=hyc.up hle1;replace hyo:=hyo.up hle1;replace hzc:=hzc.up hle1;replace hzo:=hzo.up hle1;refine aS 24 [1] ?_;refine gY ?_;exact ⟨by rw [YE hW],U⟩
 obtain ⟨hP1,hP2,hL,hRL⟩:=uS hW;obtain ⟨n1,rfl⟩:∃ n:Nat,k1=(n:Int):=⟨k1.toNat,by have:=hP1.1;omega⟩
 obtain ⟨n2,rfl⟩:∃ n:Nat,k2=(n:Int):=⟨k2.toNat,by have:=hP2.1;omega⟩
 have hn1:1≤n1∧n1≤8:=by have:=hP1.1;have:=hP1.2;omega
 have hn2:1≤n2∧n2≤8:=by have:=hP2.1;have:=hP2.2;omega
 refine aI 2 [] ?_;refine dV 0 fun b1=>?_;refine aL 12 [0,0,0] ?_;refine bV 1 U (fg _ _ _ _ _ _ sO sN sN) fun v1 G1 Ho1 hle1 hp=>?_;obtain ⟨pv1,rfl,rfl⟩:=hp;replace hpa:=hpa.up hle1;replace hxc:=hxc.up hle1;replace hxo:=hxo.up hle1;replace hyc:=hyc.up hle1;replace hyo:=hyo.up hle1;replace hzc:=hzc.up hle1;replace hzo:=hzo.up hle1;refine aL 21 [0,0] ?_;refine bV 1 U (c55 _ _ _ _ _ _ xp yp zp _ _ _ _ _ _ _ _ _ _ _ _) fun v2 G2 Ho2 hle2 hp=>?_;obtain ⟨sp2,bp2,rfl,hpA2,hpB2,rfl⟩:=hp;replace hpa:=hpa.up hle2;replace hxc:=hxc.up hle2;replace hxo:=hxo.up hle2;replace hyc:=hyc.up hle2;replace hyo:=hyo.up hle2;replace hzc:=hzc.up hle2;replace hzo:=hzo.up hle2;refine bB 5 [] ?_;refine Wc.lg (ι:=Nat×A3) (fun (i,Gx)=>([(27,.int .i64 (i:Int)),(26,.int .i64 3),(25,.slice sp2 (List.length [PF.mk (PH.mk xp.ins xp.regs xac xp.code.length xcc xao xp.outs.length xoc) 107 bp2,PF.mk (PH.mk yp.ins yp.regs yac yp.code.length ycc yao yp.outs.length yoc) 109 bp2,PF.mk (PH.mk zp.ins zp.regs zac zp.code.length zcc zao zp.outs.length zoc) 110 bp2]) 3)],[(0,some b1,.cells #[.int .i64 (↑n1:Int),.int .i64 (↑n2:Int),.slice pa (List.length pl) pc,.int .i64 xp.ins,.int .i64 xp.regs,.slice xac xp.code.length xcc,.slice xao xp.outs.length xoc,.int .i64 yp.ins,.int .i64 yp.regs,.slice yac yp.code.length ycc,.slice yao yp.outs.length yoc,.int .i64 zp.ins,.int .i64 zp.regs,.slice zac zp.code.length zcc,.slice zao zp.outs.length zoc] 28)])) (fun (i,Gx)=>Gx) (fun (i,Gx)=>i≤3∧G2.le Gx∧(0<i→sP xp=true∧uV xp (n1:Int) pl)∧(1<i→sP yp=true∧uV yp (n2:Int) pl)∧(2<i→sP zp=true∧uE zp pl)) (fun (i,Gx)=>3 - i) ((0,G2)) (⟨aM _,bN _,fun h=>absurd h sN,fun h=>absurd h sN,fun h=>absurd h sN⟩) fun ⟨i,Gx⟩=>fun hk=>?_;obtain ⟨hi0,hgx,hx9,hy9,hz9⟩:=hk;have hB:=hgx _ _ hpB2;replace hpA2:=hpA2.up hgx;replace hpa:=hpa.up hgx;replace hxc:=hxc.up hgx;replace hxo:=hxo.up hgx;replace hyc:=hyc.up hgx;replace hyo:=hyo.up hgx;replace hzc:=hzc.up hgx;replace hzo:=hzo.up hgx;have hi4:i=0∨i=1∨i=2∨i=3:=sN;rcases hi4 with rfl | rfl | rfl | rfl
 · refine aI 14 [1] ?_;refine aQ (iI (α:=PF) T.sl96 U U hpA2 (show 0≤((0:Nat):Int)∧((0:Nat):Int)<((3:Nat):Int) by omega)) ?_;refine aQ (gH T.agg100 U (lH hpA2 (show 0≤((0:Nat):Int)∧((0:Nat):Int)<((3:Nat):Int) by omega)) U) ?_;refine fO 31 U (show _=Value.agg #[.int .i64 xp.ins,.int .i64 xp.regs,.slice xac xp.code.length xcc,.slice xao xp.outs.length xoc,.func (.func 107) #[] #[.pointer (some ⟨bp2,0,none⟩)]] from U) ?_;by_cases hr:sP xp=true
   · skip;refine aO 1 U T.zero100 fun b2=>?_;refine aL 7 [1] ?_;refine aQ (eF 1 T.agg26 U U U U) ?_;refine cI U (Nq _ xp _ _ _ _ sO sO sN sN hr) ?_;refine aL 22 [0,1] ?_;refine aQ (eF 1 T.agg26 U U U U) ?_;refine fE (fst:=[]) (cap:=[.pointer (some ⟨bp2,0,none⟩)]) 2 U T.fn107 U U (jh _ n1 bp2 _ _ _ xp xac xao pa xcc xoc pc pl hB U U hxc hxo hpa hpc hpl hx1 sN hRL hr sN sN) (sS F9) fun v9 G9 Ho9 hle9 hp=>?_;obtain ⟨rfl,rfl⟩:=hp;refine aL 12 [] ?_;refine mZ 53 ?_;refine aC 3 [] ?_;refine aQ (fP U) ?_;refine bB 3 [] ?_;refine cW (fun hc1=>?_) fun hc1=>?_;refine bE 14 [] ?_;rotate_left;refine bE 7 [] ?_;rotate_left
     · refine gY ?_;exact ⟨by rw [TO hW hr sO];rfl,U⟩
     refine cJ 27 U (show _=Value.int .i64 ((1:Nat):Int) from U) ?_;refine cK ((1,G9)) ?_ ?_
     · exact ⟨by omega,aP hgx hle9,fun _=>⟨hr,fN.1 sO⟩,fun h=>absurd h sN,fun h=>absurd h sN⟩
     show 3 - 1<3 - 0;omega
   skip;refine aO 1 U T.zero100 fun b2=>?_;refine aL 7 [1] ?_;refine aQ (eF 1 T.agg26 U U U U) ?_;refine cI U (YD _ xp _ _ _ _ sO sO sN sN hr) ?_;refine aS 31 [1] ?_;refine gY ?_;exact ⟨by rw [TN hW sO];rfl,U⟩
 · refine aI 14 [1] ?_;refine aQ (iI (α:=PF) T.sl96 U U hpA2 (show 0≤((1:Nat):Int)∧((1:Nat):Int)<((3:Nat):Int) by omega)) ?_;refine aQ (gH T.agg100 U (lH hpA2 (show 0≤((1:Nat):Int)∧((1:Nat):Int)<((3:Nat):Int) by omega)) U) ?_;refine fO 31 U (show _=Value.agg #[.int .i64 yp.ins,.int .i64 yp.regs,.slice yac yp.code.length ycc,.slice yao yp.outs.length yoc,.func (.func 109) #[] #[.pointer (some ⟨bp2,0,none⟩)]] from U) ?_;by_cases hr:sP yp=true
   · skip;refine aO 1 U T.zero100 fun b2=>?_;refine aL 7 [1] ?_;refine aQ (eF 1 T.agg26 U U U U) ?_;refine cI U (Nq _ yp _ _ _ _ sO sO sN sN hr) ?_;refine aL 22 [0,1] ?_;refine aQ (eF 1 T.agg26 U U U U) ?_;refine fE (fst:=[]) (cap:=[.pointer (some ⟨bp2,0,none⟩)]) 2 U T.fn109 U U (jl _ n2 bp2 _ _ _ yp yac yao pa ycc yoc pc pl hB U U hyc hyo hpa hpc hpl hy1 sN hRL hr sN sN) (sS F9) fun v9 G9 Ho9 hle9 hp=>?_;obtain ⟨rfl,rfl⟩:=hp;refine aL 12 [] ?_;refine mZ 53 ?_;refine aC 3 [] ?_;refine aQ (fP U) ?_;refine bB 3 [] ?_;refine cW (fun hc1=>?_) fun hc1=>?_;refine bE 14 [] ?_;rotate_left;refine bE 7 [] ?_;rotate_left
     · refine gY ?_;exact ⟨by rw [TQ hW (hx9 sN).1 (hx9 sN).2 hr sO];rfl,U⟩
     refine cJ 27 U (show _=Value.int .i64 ((2:Nat):Int) from U) ?_;refine cK ((2,G9)) ?_ ?_
     · exact ⟨by omega,aP hgx hle9,fun _=>hx9 sN,fun _=>⟨hr,fN.1 sO⟩,fun h=>absurd h sN⟩
     show 3 - 2<3 - 1;omega
   skip;refine aO 1 U T.zero100 fun b2=>?_;refine aL 7 [1] ?_;refine aQ (eF 1 T.agg26 U U U U) ?_;refine cI U (YD _ yp _ _ _ _ sO sO sN sN hr) ?_;refine aS 31 [1] ?_;refine gY ?_;exact ⟨by rw [TP hW (hx9 sN).1 (hx9 sN).2 sO];rfl,U⟩
 · refine aI 14 [1] ?_;refine aQ (iI (α:=PF) T.sl96 U U hpA2 (show 0≤((2:Nat):Int)∧((2:Nat):Int)<((3:Nat):Int) by omega)) ?_;refine aQ (gH T.agg100 U (lH hpA2 (show 0≤((2:Nat):Int)∧((2:Nat):Int)<((3:Nat):Int) by omega)) U) ?_;refine fO 31 U (show _=Value.agg #[.int .i64 zp.ins,.int .i64 zp.regs,.slice zac zp.code.length zcc,.slice zao zp.outs.length zoc,.func (.func 110) #[] #[.pointer (some ⟨bp2,0,none⟩)]] from U) ?_;by_cases hr:sP zp=true
   · skip;refine aO 1 U T.zero100 fun b2=>?_;refine aL 7 [1] ?_;refine aQ (eF 1 T.agg26 U U U U) ?_;refine cI U (Nq _ zp _ _ _ _ sO sO sN sN hr) ?_;refine aL 22 [0,1] ?_;refine aQ (eF 1 T.agg26 U U U U) ?_;refine fE (fst:=[]) (cap:=[.pointer (some ⟨bp2,0,none⟩)]) 2 U T.fn110 U U (jm _ bp2 _ _ _ zp zac zao pa zcc zoc pc pl hB U hzc hzo hpa hpc hpl hz1 sN hRL hr) (sS F9) fun v9 G9 Ho9 hle9 hp=>?_;obtain ⟨rfl,rfl⟩:=hp;refine aL 12 [] ?_;refine mZ 53 ?_;refine aC 3 [] ?_;refine aQ (fP U) ?_;refine bB 3 [] ?_;refine cW (fun hc1=>?_) fun hc1=>?_;refine bE 14 [] ?_;rotate_left;refine bE 7 [] ?_;rotate_left
     · refine gY ?_;exact ⟨by rw [TS hW (hx9 sN).1 (hx9 sN).2 (hy9 sN).1 (hy9 sN).2 hr sO];rfl,U⟩
     refine cJ 27 U (show _=Value.int .i64 ((3:Nat):Int) from U) ?_;refine cK ((3,G9)) ?_ ?_
     · exact ⟨by omega,aP hgx hle9,fun _=>hx9 sN,fun _=>hy9 sN,fun _=>⟨hr,fN.1 sO⟩⟩
     show 3 - 3<3 - 2;omega
   skip;refine aO 1 U T.zero100 fun b2=>?_;refine aL 7 [1] ?_;refine aQ (eF 1 T.agg26 U U U U) ?_;refine cI U (YD _ zp _ _ _ _ sO sO sN sN hr) ?_;refine aS 31 [1] ?_;refine gY ?_;exact ⟨by rw [TR hW (hx9 sN).1 (hx9 sN).2 (hy9 sN).1 (hy9 sN).2 sO];rfl,U⟩
 refine bE 19 [0] ?_;refine gY ?_;exact ⟨by rw [Jv hW (hx9 sN).1 (hx9 sN).2 (hy9 sN).1 (hy9 sN).2 (hz9 sN).1 (hz9 sN).2],U⟩
end
theorem Hh {α:Type} [Inhabited α] {l m:List α} {k:Nat} (hl:k<l.length) (hm:k<m.length) (h:l.take k=m.take k) (he:l[((k:Nat):Int).toNat]?.getD default=m[((k:Nat):Int).toNat]?.getD default):l.take (k+1)=m.take (k+1):=by
 rw [aE,aA hl,aA hm] at he;rw [cL,cL,h,aA hl,aA hm];simp only [dZ] at he;rw [he]
theorem jy (G:A3) (p q:PV) (ac ao bc bo:Option Addr) (cc co dc do_:Nat) (hc:Arr G ac p.code) (ho:Arr G ao p.outs) (hc':Arr G bc q.code) (ho':Arr G bo q.outs) (h1:p.code.length≤1099511627776) (h2:p.outs.length≤1099511627776) :
 Does Tryz.prog 60 [.agg (H8 p ac cc ao co),.agg #[.int .i64 q.ins,.int .i64 q.regs,.slice bc q.code.length dc,.slice bo q.outs.length do_]] G []
  (fun v G' Ho=>v=.bool (decide (p=q))∧G'=G∧Ho=[]):=by
 refine D0 Tryz.func60 Tryz.ntmps60 fun w=>?_;refine aI 2 [] ?_;refine dV 0 fun b1=>?_;refine dV 1 fun b2=>?_;refine aL 12 [0,1] ?_;apply dS 6 12 18 U;intro hg1;refine aC 11 [0,1] ?_;exact dB 6 0;intro hg1;refine aC 6 [] ?_;exact dB 6 0;refine aC 1 [] ?_;apply dS 8 19 27 U;intro hg1;refine aC 15 [0,1] ?_;exact dB 8 0;intro hg1;refine aC 8 [] ?_;exact dB 8 0;refine aC 1 [] ?_;apply dS 8 28 36 U;intro hg1;refine aC 15 [0,1] ?_;exact dB 8 0;intro hg1;refine aC 8 [] ?_;exact dB 8 0;refine bB 2 [] ?_;refine cW (fun hc1=>?_) fun hc1=>?_;refine bE 7 [] ?_;refine cV ?_;rotate_left;refine bI 9 [] ?_;rotate_left
 · refine ⟨?_,U,U⟩;have:p≠q:=by rintro rfl;omega
   simp [this]
 simp only [not_or,ne_eq,fN] at hc1;obtain ⟨⟨⟨e1,e2⟩,e3⟩,e4⟩:=hc1;refine gX (ι:=Nat) (fun k=>([(5,.int .i64 (k:Int)),(3,.pointer (some ⟨b2,0,none⟩)),(2,.pointer (some ⟨b1,0,none⟩))],[(1,some b2,.cells #[.int .i64 q.ins,.int .i64 q.regs,.slice bc q.code.length dc,.slice bo q.outs.length do_] 26),(0,some b1,.cells (H8 p ac cc ao co) 26)])) (fun k=>k≤p.code.length∧p.code.take k=q.code.take k) (fun k=>p.code.length - k) (0) (⟨aM _,U⟩) fun k=>fun hk=>?_;obtain ⟨hk1,hk2⟩:=hk;refine bI 10 [0] ?_;refine cW (fun hc1=>?_) fun hc1=>?_;refine bI 5 [] ?_;refine dE [0,1] [] T.mixed [[0],[1,0],[2]] ?_;refine mL (α:=Sl.Instr) 3 T.sl23 ?_;refine rL 4 T.agg91 ?_;refine dK [[5],[6,1],[7]] ?_;refine mL (α:=Sl.Instr) 8 T.sl23 ?_;refine rL 9 T.agg91 ?_;refine dW 10 [] U (Mx T.ai91 U U) ?_;refine dG ?_;refine cN ?_;refine cW (fun hc2=>?_) fun hc2=>?_;refine bE 11 [] ?_;refine cV ?_;rotate_left;refine bE 8 [] ?_;rotate_left;refine bI 12 [] ?_;rotate_left
 · refine ⟨?_,U,U⟩;have:p≠q:=by rintro rfl;exact hc2 U
   simp [this]
 · refine cK (k+1) ?_ ?_
   · exact ⟨by omega,Hh sN sN hk2 (fN.1 hc2)⟩
   omega
 have hcode:p.code=q.code:=by
  have:k=p.code.length:=sN;subst this;rw [aZ,fH sN] at hk2;exact hk2
 clear hk1 hk2 hc1;refine gX (ι:=Nat) (fun k=>([(6,.int .i64 (k:Int)),(3,.pointer (some ⟨b2,0,none⟩)),(2,.pointer (some ⟨b1,0,none⟩))],[(1,some b2,.cells #[.int .i64 q.ins,.int .i64 q.regs,.slice bc q.code.length dc,.slice bo q.outs.length do_] 26),(0,some b1,.cells (H8 p ac cc ao co) 26)])) (fun k=>k≤p.outs.length∧p.outs.take k=q.outs.take k) (fun k=>p.outs.length - k) (0) (⟨aM _,U⟩) fun k=>fun hk=>?_;obtain ⟨hk1,hk2⟩:=hk;refine bI 10 [0] ?_;refine cW (fun hc1=>?_) fun hc1=>?_;refine bI 5 [] ?_;refine dE [0,1] [] T.mixed [[0],[1,0],[2]] ?_;refine mL (α:=Int) 3 T.sl24 ?_;refine rC 4 [0] 0 T.one3 ?_;refine dK [[5],[6,1],[7]] ?_;refine mL (α:=Int) 8 T.sl24 ?_;refine rC 9 [0] 0 T.one3 ?_;refine dK [[10]] ?_;refine dG ?_;refine cN ?_;refine cW (fun hc2=>?_) fun hc2=>?_;refine bE 11 [] ?_;refine cV ?_;rotate_left;refine bE 8 [] ?_;rotate_left;refine bE 11 [] ?_;refine cV ?_;rotate_left
 · refine ⟨?_,U,U⟩;have:p≠q:=by rintro rfl;exact hc2 U
   simp [this]
 · refine cK (k+1) ?_ ?_
   · exact ⟨by omega,Hh sN sN hk2 (fN.1 hc2)⟩
   omega
 refine ⟨?_,U,U⟩;have houts:p.outs=q.outs:=by
  have:k=p.outs.length:=sN;subst this;rw [aZ,fH sN] at hk2;exact hk2
 have:p=q:=by cases p;cases q;simp_all
 simp [this]
theorem c15 (G:A3) (k1 k2:Int) (pl:List R2) (pa qa:Option Addr) (pc qc:Nat) (xp yp zp:PV) (xac xao yac yao zac zao uac uao vac vao wac wao:Option Addr) (xcc xoc ycc yoc zcc zoc ucc uoc vcc voc wcc woc:Nat) (hpa:Arr G pa pl) (hqa:Arr G qa pl) (hpl:pl.length≤1048576) (hxc:Arr G xac xp.code) (hxo:Arr G xao xp.outs) (hyc:Arr G yac yp.code) (hyo:Arr G yao yp.outs) (hzc:Arr G zac zp.code) (hzo:Arr G zao zp.outs) (huc:Arr G uac xp.code) (huo:Arr G uao xp.outs) (hvc:Arr G vac yp.code) (hvo:Arr G vao yp.outs) (hwc:Arr G wac zp.code) (hwo:Arr G wao zp.outs) (hx1:xp.code.length≤1048576) (hx2:xp.outs.length≤1048576) (hy1:yp.code.length≤1048576) (hy2:yp.outs.length≤1048576) (hz1:zp.code.length≤1048576) (hz2:zp.outs.length≤1048576) :
 Does Tryz.prog 15 [.agg #[.int .i64 k1,.int .i64 k2,.slice pa pl.length pc,.int .i64 xp.ins,.int .i64 xp.regs,.slice xac xp.code.length xcc,.slice xao xp.outs.length xoc,.int .i64 yp.ins,.int .i64 yp.regs,.slice yac yp.code.length ycc,.slice yao yp.outs.length yoc,.int .i64 zp.ins,.int .i64 zp.regs,.slice zac zp.code.length zcc,.slice zao zp.outs.length zoc],.agg #[.int .i64 k1,.int .i64 k2,.slice qa pl.length qc,.int .i64 xp.ins,.int .i64 xp.regs,.slice uac xp.code.length ucc,.slice uao xp.outs.length uoc,.int .i64 yp.ins,.int .i64 yp.regs,.slice vac yp.code.length vcc,.slice vao yp.outs.length voc,.int .i64 zp.ins,.int .i64 zp.regs,.slice wac zp.code.length wcc,.slice wao zp.outs.length woc]] G []
  (fun v G' Ho=>v=.bool (decide (1=1))∧G'=G∧Ho=[]):=by
 refine D0 Tryz.func15 Tryz.ntmps15 fun w=>?_;refine aI 2 [] ?_;refine dV 0 fun b1=>?_;refine dV 1 fun b2=>?_;refine aL 12 [0,1] ?_;refine mZ 11 ?_;refine aC 12 [0,1] ?_;refine mZ 18 ?_;refine bB 27 [0,1,0] ?_;refine gX (ι:=Nat) (fun k=>([(5,.int .i64 (k:Int)),(3,.pointer (some ⟨b2,0,none⟩)),(2,.pointer (some ⟨b1,0,none⟩))],[(1,some b2,.cells #[.int .i64 k1,.int .i64 k2,.slice qa (List.length pl) qc,.int .i64 xp.ins,.int .i64 xp.regs,.slice uac xp.code.length ucc,.slice uao xp.outs.length uoc,.int .i64 yp.ins,.int .i64 yp.regs,.slice vac yp.code.length vcc,.slice vao yp.outs.length voc,.int .i64 zp.ins,.int .i64 zp.regs,.slice wac zp.code.length wcc,.slice wao zp.outs.length woc] 28),(0,some b1,.cells #[.int .i64 k1,.int .i64 k2,.slice pa (List.length pl) pc,.int .i64 xp.ins,.int .i64 xp.regs,.slice xac xp.code.length xcc,.slice xao xp.outs.length xoc,.int .i64 yp.ins,.int .i64 yp.regs,.slice yac yp.code.length ycc,.slice yao yp.outs.length yoc,.int .i64 zp.ins,.int .i64 zp.regs,.slice zac zp.code.length zcc,.slice zao zp.outs.length zoc] 28)])) (fun k=>k≤pl.length) (fun k=>pl.length - k) (0) (aM _) fun k=>fun (hk:k≤pl.length)=>?_;refine bI 10 [0] ?_;refine cW (fun hc1=>?_) fun hc1=>?_;refine bI 5 [] ?_;refine dE [0,1] [] T.mixed [[0],[1,0],[2]] ?_;refine mL (α:=R2) 3 T.sl22 ?_;refine rL 4 T.agg52 ?_;refine dK [[5],[6,1],[7]] ?_;refine mL (α:=R2) 8 T.sl22 ?_;refine rL 9 T.agg52 ?_;refine dW 10 [] U (Vr [_,_] [_,_] T.ai52 U U U U) ?_;refine dG ?_;refine cN ?_;refine cW (fun hc2=>?_) fun hc2=>?_;refine bE 11 [] ?_;refine cV ?_;rotate_left;refine bE 8 [] ?_;rotate_left;refine aI 8 [] ?_;refine aQ (eF 0 T.agg26 U U U U) ?_;refine aC 1 [] ?_;refine aQ (eF 1 T.agg26 U U U U) ?_;refine cI U (jy _ _ _ _ _ _ _ _ _ _ _ sO sO sO sO sN sN) ?_;refine aC 1 [] ?_;apply bX 6 50 56 U;intro hg1;refine aC 3 [] ?_;refine aQ (eF 0 T.agg26 U U U U) ?_;refine aC 3 [] ?_;refine aQ (eF 1 T.agg26 U U U U) ?_;refine aC 1 [] ?_;refine cI U (jy _ _ _ _ _ _ _ _ _ _ _ sO sO sO sO sN sN) ?_;refine aC 1 [] ?_;exact dB 6 0;intro hg1;refine aC 6 [] ?_;exact dB 6 0;refine aC 1 [] ?_;apply bX 6 57 63 U;intro hg1;refine aC 3 [] ?_;refine aQ (eF 0 T.agg26 U U U U) ?_;refine aC 3 [] ?_;refine aQ (eF 1 T.agg26 U U U U) ?_;refine aC 1 [] ?_;refine cI U (jy _ _ _ _ _ _ _ _ _ _ _ sO sO sO sO sN sN) ?_;refine aC 1 [] ?_;exact dB 6 0;intro hg1;refine aC 6 [] ?_;exact dB 6 0;refine aS 4 [] ?_;refine cV ?_;rotate_left
 · exact absurd U sO
 · refine cK (k+1) ?_ ?_
   · omega
   omega
 exact ⟨by simp,rfl,rfl⟩
theorem Uf {B:List U8} {regs:Int}:∀ (n:Nat) (s:RS) (acc:List Sl.Instr),(yL B regs n s acc).1.length≤acc.length+n
 | 0,s,acc=>aH _
 | n+1,s,acc=>by
   rw [yL];cases Ps B s regs with
   | mk i t =>
     dsimp only;split
     · show acc.length≤_;omega
     have:=Uf (B:=B) (regs:=regs) n t (acc++[i]);rw [aB] at this;have e:[i].length=1:=rfl;omega
theorem Ug {B:List U8} {regs:Int}:∀ (n:Nat) (s:RS) (acc:List Int),(Ai B regs n s acc).1.length≤acc.length+n
 | 0,s,acc=>aH _
 | n+1,s,acc=>by
   rw [Ai];cases wi B s 0 (regs - 1) with
   | mk i t =>
     dsimp only;have:=Ug (B:=B) (regs:=regs) n t (acc++[i]);rw [aB] at this;have e:[i].length=1:=rfl;omega
theorem AH {B:List U8}:∀ (n:Nat) (s:RS) (acc:List R2),(Gp B n s acc).1.length≤acc.length+n
 | 0,s,acc=>aH _
 | n+1,s,acc=>by
   rw [Gp];cases sg B s with
   | mk i t =>
     dsimp only;cases sg B t with
     | mk j u =>
       dsimp only;have:=AH (B:=B) n u (acc++[⟨i,j⟩]);rw [aB] at this;have e:[(⟨i,j⟩:R2)].length=1:=rfl;omega
def Hz (p:PV):Prop:=p.code.length≤16384∧p.outs.length≤255
theorem Lm {B:List U8} {s:RS} (h:(vG B s).2.wr=false):Hz (vG B s).1:=by
 obtain ⟨ins,t1,e1⟩:∃ x t,wi B s 1 128=(x,t):=⟨_,_,U⟩
 obtain ⟨regs,t2,e2⟩:∃ x t,wi B t1 ins 128=(x,t):=⟨_,_,U⟩
 obtain ⟨x,t3,e3⟩:∃ x t,nx B t2 (fun x=>decide (x*256≤16384))=(x,t):=⟨_,_,U⟩
 obtain ⟨l,t4,e4⟩:∃ y t,nx B t3 (fun y=>decide (x*256+y≤16384))=(y,t):=⟨_,_,U⟩
 obtain ⟨r,t5,e5⟩:∃ r t,yL B regs (x*256+l).toNat t4 []=(r,t):=⟨_,_,U⟩
 obtain ⟨n,t6,e6⟩:∃ x t,wi B t5 1 128=(x,t):=⟨_,_,U⟩
 obtain ⟨q,t7,e7⟩:∃ r t,Ai B regs n.toNat t6 []=(r,t):=⟨_,_,U⟩
 rw [AF e1 e2 e3 e4 rfl e5 e6 rfl e7] at h ⊢;replace h:t7.wr=false:=h;have h6:t6.wr=false:=by
  cases hw:t6.wr with
  | false=>rfl
  | true =>
    have e:=Qa (B:=B) (regs:=regs) n.toNat t6 [] hw;rw [e7] at e;replace e:t7=t6:=e;rw [e,hw] at h;cases h
 have h5:=OC e6 h6;have h4:t4.wr=false:=by
  cases hw:t4.wr with
  | false=>rfl
  | true =>
    rw [AD _ _ _ hw] at e5;have e:=(Prod.mk.inj e5).2;have:=h5.2.2;rw [←e,hw] at this;cases this
 have h3:=FV (B:=B) (s:=t3) (g:=fun y=>decide (x*256+y≤16384)) (by rw [e4];exact h4);have e9:=h3.2.2.2;rw [e4] at e9;have h9:=fM h3.2.2.1;have hl:=(Prod.mk.inj e9).1;rw [←hl] at h9;have l1:=Uf (B:=B) (regs:=regs) (x*256+l).toNat t4 [];have l2:=Ug (B:=B) (regs:=regs) n.toNat t6 [];rw [e5] at l1;rw [e7] at l2;refine ⟨?_,?_⟩
 · show r.length≤16384;have:r.length≤0+(x*256+l).toNat:=l1;omega
 show q.length≤255;have:q.length≤0+n.toNat:=l2;omega
theorem UA {B:List U8} (h:(vQ B).2.wr=false):(vQ B).1.pl.length≤255∧Hz (vQ B).1.x∧Hz (vQ B).1.y∧Hz (vQ B).1.z:=by
 obtain ⟨k1,t1,e1⟩:∃ x t,wi B (Ua B 4) 1 8=(x,t):=⟨_,_,U⟩
 obtain ⟨k2,t2,e2⟩:∃ x t,wi B t1 1 8=(x,t):=⟨_,_,U⟩
 obtain ⟨n,t3,e3⟩:∃ x t,wi B t2 0 255=(x,t):=⟨_,_,U⟩
 obtain ⟨pl,t,e4⟩:∃ x u,Gp B n.toNat t3 []=(x,u):=⟨_,_,U⟩
 obtain ⟨x,t4,e5⟩:∃ x u,vG B t=(x,u):=⟨_,_,U⟩
 obtain ⟨y,t6,e6⟩:∃ x u,vG B t4=(x,u):=⟨_,_,U⟩
 obtain ⟨z,t7,e7⟩:∃ x u,vG B t6=(x,u):=⟨_,_,U⟩
 rw [TZ e1 e2 e3 rfl e4 e5 e6 e7] at h ⊢;replace h:(Su B t7).wr=false:=h;have h7:t7.wr=false:=by
  cases hw:t7.wr with
  | false=>rfl
  | true=>rw [GD hw,hw] at h;cases h
 have h6:=Qc (congrArg Prod.snd e7) h7;have h4:=Qc (congrArg Prod.snd e6) h6;have h3:=Qc (congrArg Prod.snd e5) h4;have hn:t3.wr=false:=by
  cases hw:t3.wr with
  | false=>rfl
  | true =>
    have e:=FZ (B:=B) n.toNat t3 [] hw;rw [e4] at e;replace e:t=t3:=e;rw [e,hw] at h3;cases h3
 have hn2:=OC e3 hn;have l1:=AH (B:=B) n.toNat t3 [];rw [e4] at l1;have px:=Lm (B:=B) (s:=t) (by rw [e5];exact h4);have py:=Lm (B:=B) (s:=t4) (by rw [e6];exact h6);have pz:=Lm (B:=B) (s:=t6) (by rw [e7];exact h7);rw [e5] at px;rw [e6] at py;rw [e7] at pz;refine ⟨?_,px,py,pz⟩;show pl.length≤255;have:pl.length≤0+n.toNat:=l1;omega
def cz:UV:=⟨0,0,[],⟨0,0,[],[]⟩,⟨0,0,[],[]⟩,⟨0,0,[],[]⟩⟩
def Ia (B:List U8):UV×Int×Int:=
 if (vQ B).2.wr=true∨(vQ B).2.k<B.length then (cz,170,(vQ B).2.k)
 else if (tS (vQ B).1.k1 (vQ B).1.k2 (vQ B).1.pl (vQ B).1.x (vQ B).1.y (vQ B).1.z).2≠0 then (cz,(tS (vQ B).1.k1 (vQ B).1.k2 (vQ B).1.pl (vQ B).1.x (vQ B).1.y (vQ B).1.z).2,(tS (vQ B).1.k1 (vQ B).1.k2 (vQ B).1.pl (vQ B).1.x (vQ B).1.y (vQ B).1.z).1)
 else ((vQ B).1,0,0)
def D3 (G:A3) (u:UV) (pa:Option Addr) (pc:Nat) (x y z:PH):Prop:=u.pl.length≤pc∧Arr G pa u.pl∧D6 G u.x x∧D6 G u.y y∧D6 G u.z z
theorem D3.up {G G':A3} {u:UV} {pa:Option Addr} {pc:Nat} {x y z:PH} (h:D3 G u pa pc x y z) (hle:G.le G'):D3 G' u pa pc x y z:=⟨h.1,h.2.1.up hle,h.2.2.1.up hle,h.2.2.2.1.up hle,h.2.2.2.2.up hle⟩
theorem D3.no (G:A3):D3 G cz none 0 ⟨0,0,none,0,0,none,0,0⟩ ⟨0,0,none,0,0,none,0,0⟩ ⟨0,0,none,0,0,none,0,0⟩:=
 ⟨aH _,kC _,⟨U,U,U,U,kC _,kC _⟩,⟨U,U,U,U,kC _,kC _⟩,U,U,U,U,kC _,kC _⟩
def UB (B:List U8) (v:Value) (G':A3):Prop:=∃ (pa:Option Addr) (pc:Nat) (x y z:PH),v=.tuple #[GB (Ia B).1.k1 (Ia B).1.k2 pa (Ia B).1.pl.length pc x y z,.agg #[.int .i64 (Ia B).2.1,.int .i64 (Ia B).2.2]]∧D3 G' (Ia B).1 pa pc x y z
def OO (u:UV):Prop:=u.pl.length≤255∧Hz u.x∧Hz u.y∧Hz u.z
theorem jz (G:A3) (u:UV) (pa:Option Addr) (pc:Nat) (x y z:PH) (h:D3 G u pa pc x y z) (hs:OO u) :
 Does Tryz.prog 13 [GB u.k1 u.k2 pa u.pl.length pc x y z] G [] (fun v G' Ho=>v=.tuple #[.int .i64 (tS u.k1 u.k2 u.pl u.x u.y u.z).1,.int .i64 (tS u.k1 u.k2 u.pl u.x u.y u.z).2]∧Ho=[]):=by
 obtain ⟨k1,k2,pl,xp,yp,zp⟩:=u;obtain ⟨hpc,hpa,⟨e1,e2,e3,e4,hxc,hxo⟩,⟨f1,f2,f3,f4,hyc,hyo⟩,g1,g2,g3,g4,hzc,hzo⟩:=h;obtain ⟨h1,⟨h2,h3⟩,⟨h4,h5⟩,h6,h7⟩:=hs;dsimp only at *;obtain ⟨xi,xr,xac,xcn,xcc,xao,xon,xoc⟩:=x;obtain ⟨yi,yr,yac,ycn,ycc,yao,yon,yoc⟩:=y;obtain ⟨zi,zr,zac,zcn,zcc,zao,zon,zoc⟩:=z;dsimp only at *;subst e1 e2 e3 e4 f1 f2 f3 f4 g1 g2 g3 g4;exact cx G k1 k2 pl pa pc xp yp zp xac xao yac yao zac zao xcc xoc ycc yoc zcc zoc hpa hpc sN hxc hxo h2 sN hyc hyo h4 sN hzc hzo h6 sN
theorem UC {B:List U8} (h:(vQ B).2.wr=true∨(vQ B).2.k<B.length):Ia B=(cz,170,((vQ B).2.k:Int)):=aF h
theorem YK {B:List U8} {u:UV} {t:RS} (e:vQ B=(u,t)) (h1:t.wr=false) (h2:t.k=B.length) (h3:(tS u.k1 u.k2 u.pl u.x u.y u.z).2≠0):Ia B=(cz,(tS u.k1 u.k2 u.pl u.x u.y u.z).2,(tS u.k1 u.k2 u.pl u.x u.y u.z).1):=by
 unfold Ia;rw [e,aD (fun h=>h.elim (fun h=>absurd (h1.symm.trans h) sY) (fun h=>absurd h2 (Nat.ne_of_lt h))),aF h3]
theorem EC {B:List U8} {u:UV} {t:RS} (e:vQ B=(u,t)) (h1:t.wr=false) (h2:t.k=B.length) (h3:(tS u.k1 u.k2 u.pl u.x u.y u.z).2=0):Ia B=(u,0,0):=by
 unfold Ia;rw [e,aD (fun h=>h.elim (fun h=>absurd (h1.symm.trans h) sY) (fun h=>absurd h2 (Nat.ne_of_lt h))),aD (not_not_intro h3)]
section
attribute [local irreducible] tS vQ
theorem c17 (G:A3) (a:Option Addr) (c:Nat) (B:List U8) (hA:Arr G a B) (hc:B.length≤c) (hB:C6 B) (hl:B.length≤65520) :
 Does Tryz.prog 17 [.slice a B.length c] G [] (fun v G' Ho=>UB B v G'∧Ho=[]):=by
 refine D0 Tryz.func17 Tryz.ntmps17 fun w=>?_;refine aI 2 [] ?_;refine aO 0 U T.zero28 fun b1=>?_;refine aO 1 U T.zero42 fun b2=>?_;refine aL 5 [] ?_;refine bV 9 U (c66 _ a c B hA hc hB hl) fun v1 G1 Ho1 hle1 hp=>?_;obtain ⟨u,t,hd,htk,rfl,⟨hbad,rfl⟩ | ⟨hw,hte,pa,pc,h0,h1,h2,rfl,hpc,hpa,hx,hy,hz⟩⟩:=hp
 · refine aC 3 [] ?_;refine aO 2 U T.zero28 fun b3=>?_;refine aO 3 U T.zero42 fun b4=>?_;refine bB 14 [2,3,3,1] ?_;refine gM [0,1,2,3] [(1,3),(0,2)] T.mixed U ?_;refine dW 0 [] U (bP (cs:=[_,_,_,_,_,_,_,_,_,_,_,_,_,_,_]) T.st28 U U U) ?_;refine dK [[1,3]] ?_;refine bQ 2 ?_;refine aC 1 [0] ?_;refine cS 3 ?_;refine aC 1 [1] ?_;refine fD ?_;refine eE 3 [] ?_;refine gZ (.inr U) (Ho:=Hp.only _ []) U (.agg 0 U U T.agg28) (.agg 1 U U T.agg42) (aV _ _) ?_;refine ⟨?_,U⟩;unfold UB;rw [UC (by rw [hd];exact hbad),hd];exact ⟨none,0,_,_,_,U,D3.no _⟩
 have hU:D3 G1 u pa pc h0 h1 h2:=⟨hpc,hpa,hx,hy,hz⟩
 have hsh:OO u:=by have:=UA (B:=B) (by rw [hd];exact hw);rw [hd] at this;exact this
 refine aC 3 [] ?_;refine aO 2 U T.zero28 fun b3=>?_;refine aO 3 U T.zero42 fun b4=>?_;refine aL 18 [2,3,3,0,2] ?_;refine bV 4 U (jz _ u pa pc h0 h1 h2 sO hsh) fun v2 G2 Ho2 hle2 hp=>?_;obtain ⟨rfl,rfl⟩:=hp;replace hpa:=hpa.up hle2;refine bB 14 [] ?_;refine cW (fun hc1=>?_) fun hc1=>?_;refine aI 2 [] ?_;refine aQ (bP (cs:=[_,_,_,_,_,_,_,_,_,_,_,_,_,_,_]) T.st28 U U U) ?_;refine aC 2 [] ?_;refine aQ (bP (cs:=[_,_]) T.st42 U U U) ?_;refine aS 6 [0,1] ?_;rotate_left;refine aI 5 [2] ?_;refine aQ (bP (cs:=[_,_]) T.st42 U U U) ?_;refine aS 5 [0,1] ?_;rotate_left
 · refine gZ (.inr U) (Ho:=Hp.only _ []) U (.agg 0 U U T.agg28) (.agg 1 U U T.agg42) (aV _ _) ?_;refine ⟨?_,U⟩;unfold UB;rw [YK hd hw hte sO];exact ⟨none,0,_,_,_,U,D3.no _⟩
 refine gZ (.inr U) (Ho:=Hp.only _ []) U (.agg 0 U U T.agg28) (.agg 1 U U T.agg42) (aV _ _) ?_;refine ⟨?_,U⟩;unfold UB;rw [EC hd hw hte (fN.1 sO)];exact ⟨pa,pc,h0,h1,h2,U,hU.up hle2⟩
end
def wb (x:Int):U8:=⟨IntKind.u8.wrap x⟩
def YL (n:Int):List U8:=[⟨n / 256⟩,⟨n % 256⟩]
def RK (i:Sl.Instr):List U8:=[wb i.op,wb i.to,wb i.a,wb i.b]++YL i.c
def Sv (p:PV):List U8:=[wb p.ins,wb p.regs]++YL p.code.length++p.code.flatMap RK++[wb p.outs.length]++p.outs.map wb
theorem UD (i:Sl.Instr):(RK i).length=6:=rfl
theorem AI (l:List Sl.Instr):(l.flatMap RK).length=6*l.length:=by
 induction l with
 | nil=>rfl
 | cons i l ih=>rw [gV,aB,ih,UD,bA];omega
theorem JL {l:List Sl.Instr} {i:Nat} (h:i<l.length):(l.take (i+1)).flatMap RK=(l.take i).flatMap RK++RK (l[((i:Nat):Int).toNat]?.getD default):=by
 rw [cL,oP,aE,aA h];show _++([l[i]].flatMap RK)=_;rw [gV,fW,aY];rfl
theorem Ob {l:List Int} {i:Nat} (h:i<l.length):(l.take (i+1)).map wb=(l.take i).map wb++[wb (l[((i:Nat):Int).toNat]?.getD default)]:=by
 rw [cL,jW,aE,aA h];rfl
theorem kc (G:A3) (p:PV) (ac ao:Option Addr) (cc co:Nat) (hc:Arr G ac p.code) (ho:Arr G ao p.outs) (h1:p.code.length≤16384) (h2:p.outs.length≤1048576) (hi:∀ i∈p.code,0≤i.c∧i.c≤65520) :
 Does Tryz.prog 68 [.agg (H8 p ac cc ao co)] G [] (fun v G' Ho=>∃ a c,v=.slice a (Sv p).length c∧Arr G' a (Sv p)∧Ho=[]):=by
 have hn64:0≤(p.code.length:Int)∧(p.code.length:Int)≤65520:=sN;refine gF Tryz.func68 U Tryz.ntmps68 U fun w=>?_;refine aI 2 [] ?_;refine nB 0 U U U fun b1=>?_;refine aL 7 [0] ?_;refine cD U (cP U T.u5 U) ?_;refine aC 2 [0] ?_;refine cD U (cP U T.u5 U) ?_;refine cZ (α:=U8) 1 [wb p.ins,wb p.regs] U T.sl38 T.el5 U U U U U fun b2=>?_;have ho0:A4 (some ⟨b2,0,none⟩) 2 [wb p.ins,wb p.regs] []:=fK Ea;refine aL 9 [0] ?_;refine bV 2 U (jx _ _ (by first | exact hn64 | exact hn65)) fun v1 G1 Ho1 hle1 hp=>?_;obtain ⟨ta1,tC1,htC1,htl1,rfl,htA1,rfl⟩:=hp;replace hc:=hc.up hle1;replace ho:=ho.up hle1;refine eH (α:=U8) 1 U T.sl38 T.el5 U U U yY (lM sO) uM uM fun a1 c1 junk1 ho1=>?_;refine bB 10 [] ?_;subst htC1;refine jZ (ι:=Nat×A3×List U8×(Option Addr×Nat×List Value)) (fun (i,Gx,r,(o,d,j))=>([(4,.int .i64 (i:Int)),(3,.slice o r.length d),(2,Go.Value.slice Option.none 0 0),(1,Go.Value.pointer (Option.some (Go.Addr.mk b1 0 Option.none)))],[(1,o.map (·.block),Row 5 r j),(0,Option.some b1,Go.Obj.cells #[Go.Value.int Go.IntKind.i64 p.ins,Go.Value.int Go.IntKind.i64 p.regs,Go.Value.slice ac p.code.length cc,Go.Value.slice ao p.outs.length co] 26)])) (fun (i,Gx,r,(o,d,j))=>Gx) (fun (i,Gx,r,(o,d,j))=>i≤p.code.length∧G1.le Gx∧r=[wb p.ins,wb p.regs]++YL p.code.length++(p.code.take i).flatMap RK∧A4 o d r j) (fun (i,Gx,r,(o,d,j))=>p.code.length - i) ((0,G1,[wb p.ins,wb p.regs]++YL p.code.length,(a1,c1,junk1))) (⟨aM _,bN _,by rw [bR,fW,aY],ho1⟩) U ⟨U,U,U,U,F9⟩ ⟨U,U,F9⟩ fun ⟨i,Gx,r,(o,d,j)⟩=>fun hk=>?_;obtain ⟨hi0,hgx,hr,hob⟩:=hk;replace hc:=hc.up hgx;replace ho:=ho.up hgx;have hrl:r.length=4+6*i:=by
  rw [hr,aB,AI,bG,cY hi0];rfl
 rcases aK i p.code.length with hil | hil
 · have hn65:0≤(p.code[(i:Int).toNat]?.getD default).c∧(p.code[(i:Int).toNat]?.getD default).c≤65520:=by
    rw [aE,aA hil];exact hi _ (bT hil)
   refine aI 20 [0,1,0] ?_;refine cD U (iI (α:=Sl.Instr) T.sl23 U U sO sN) ?_;refine cD U (gH T.agg91 U (lH sO sN) U) ?_;refine aO 2 U T.zero91 fun b3=>?_;refine aL 8 [2,2] ?_;refine cD U (cP U T.u5 U) ?_;refine aC 2 [2] ?_;refine cD U (cP U T.u5 U) ?_;refine aC 2 [2] ?_;refine cD U (cP U T.u5 U) ?_;refine aC 2 [2] ?_;refine cD U (cP U T.u5 U) ?_;refine cZ (α:=U8) 3 [wb (p.code[(i:Int).toNat]?.getD default).op,wb (p.code[(i:Int).toNat]?.getD default).to,wb (p.code[(i:Int).toNat]?.getD default).a,wb (p.code[(i:Int).toNat]?.getD default).b] U T.sl38 T.el5 U U U U U fun b4=>?_;refine eH (α:=U8) 1 U T.sl38 T.el5 U U U yY (dT 3 U) uM uM fun a2 c2 junk2 ho2=>?_;refine aL 7 [2] ?_;refine bV 4 U (jx _ _ (by first | exact hn64 | exact hn65)) fun v2 G2 Ho2 hle2 hp=>?_;obtain ⟨ta2,tC2,htC2,htl2,rfl,htA2,rfl⟩:=hp;replace hc:=hc.up hle2;replace ho:=ho.up hle2;refine eH (α:=U8) 1 U T.sl38 T.el5 U U U yY (lM sO) uM uM fun a3 c3 junk3 ho3=>?_;refine aS 9 [] ?_;refine eO ((i+1,G2,r++[wb (p.code[(i:Int).toNat]?.getD default).op,wb (p.code[(i:Int).toNat]?.getD default).to,wb (p.code[(i:Int).toNat]?.getD default).a,wb (p.code[(i:Int).toNat]?.getD default).b]++tC2,(a3,c3,junk3))) ?_ ?_ U ⟨U,U,U,U,F9⟩ ⟨U,U,F9⟩
   · exact ⟨by omega,aP hgx hle2,by rw [htC2,hr,JL hil];simp only [aR,RK,YL],ho3⟩
   show p.code.length - (i+1)<p.code.length - i;omega
 have hii:i=p.code.length:=sN;subst hii;rw [aZ] at hr;refine aI 22 [0,0,0] ?_;refine cD U (cP U T.u5 U) ?_;refine cZ (α:=U8) 2 [wb p.outs.length] U T.sl38 T.el5 U U U U U fun b3=>?_;refine eH (α:=U8) 1 U T.sl38 T.el5 U U U yY (dT 2 U) uM uM fun a2 c2 junk2 ho2=>?_;refine bB 10 [] ?_;refine jZ (ι:=Nat×A3×List U8×(Option Addr×Nat×List Value)) (fun (i,Gy,r2,(o,d,j))=>([(6,.int .i64 (i:Int)),(3,.slice o r2.length d),(2,Go.Value.slice Option.none 0 0),(1,Go.Value.pointer (Option.some (Go.Addr.mk b1 0 Option.none)))],[(1,o.map (·.block),Row 5 r2 j),(2,Option.some b3,Go.Sl.Row (α:=Go.Proofs.YtkdelpdbjfpgmaaGreatDoor.U8) 5 ([Go.Proofs.YtkdelpdbjfpgmaaGreatDoor.wb (↑p.outs.length:Int)]) ([])),(0,Option.some b1,Go.Obj.cells #[Go.Value.int Go.IntKind.i64 p.ins,Go.Value.int Go.IntKind.i64 p.regs,Go.Value.slice ac p.code.length cc,Go.Value.slice ao p.outs.length co] 26)])) (fun (i,Gy,r2,(o,d,j))=>Gy) (fun (i,Gy,r2,(o,d,j))=>i≤p.outs.length∧Gx.le Gy∧r2=r++[wb p.outs.length]++(p.outs.take i).map wb∧A4 o d r2 j) (fun (i,Gy,r2,(o,d,j))=>p.outs.length - i) ((0,Gx,r++[wb p.outs.length],(a2,c2,junk2))) (⟨aM _,bN _,by rw [bR,mJ,aY],ho2⟩) U ⟨U,U,U,U,F9⟩ ⟨U,U,U,F9⟩ fun ⟨i,Gy,r2,(o,d,j)⟩=>fun hk=>?_;obtain ⟨hi0,hgy,hr2,hob⟩:=hk;replace ho:=ho.up hgy;have hrl2:r2.length=r.length+1+i:=by
  rw [hr2,aB,aB,aN,bG,cY hi0];rfl
 rcases aK i p.outs.length with hil | hil
 · refine aI 20 [0,1,0] ?_;refine cD U (iI (α:=Int) T.sl24 U U sO sN) ?_;refine cD U (bW T.one3 U (gB sO sN 0 U U)) ?_;refine cD U (cP U T.u5 U) ?_;refine cZ (α:=U8) 3 [wb (p.outs[(i:Int).toNat]?.getD default)] U T.sl38 T.el5 U U U U U fun b3=>?_;refine eH (α:=U8) 1 U T.sl38 T.el5 U U U yY (dT 3 U) uM uM fun a3 c3 junk3 ho3=>?_;refine aS 9 [] ?_;refine eO ((i+1,Gy,r2++[wb (p.outs[(i:Int).toNat]?.getD default)],(a3,c3,junk3))) ?_ ?_ U ⟨U,U,U,U,F9⟩ ⟨U,U,U,F9⟩
   · exact ⟨by omega,hgy,by rw [hr2,Ob hil,aR _ _ [_]],ho3⟩
   show p.outs.length - (i+1)<p.outs.length - i;omega
 have hii:i=p.outs.length:=sN;subst hii;rw [aZ] at hr2;refine bE 23 [0,0] ?_;refine cX 1 U hob fun G9 hle9 hA=>?_;refine cH (.inr U) (Ho:=[]) U (.tmp U) F9 ?_;have e:r2=Sv p:=by rw [hr2,hr];rfl
 rw [←e];exact ⟨_,_,U,hA,U⟩
def UE (l:List Int) (n:Nat):List R2:=(List.range n).map fun j=>⟨l[2*j]?.getD 0,l[2*j+1]?.getD 0⟩
theorem UF (l:List Int) (n:Nat):(UE l n).length=n:=by unfold UE;rw [aN,cC]
theorem OP (l:List Int) (n:Nat):UE l (n+1)=UE l n++[⟨l[2*n]?.getD 0,l[2*n+1]?.getD 0⟩]:=by
 unfold UE;rw [oJ,jW];rfl
theorem c21 (G:A3) (a:Option Addr) (c:Nat) (l:List Int) (n:Nat) (ha:Arr G a l) (hn:l.length=2*n) (h1:n≤100) :
 Does Tryz.prog 21 [.slice a l.length c] G [] (fun v G' Ho=>∃ b d,v=.slice b (UE l n).length d∧Arr G' b (UE l n)∧(UE l n).length≤d∧Ho=[]):=by
 refine gF Tryz.func21 U Tryz.ntmps21 U fun w=>?_;refine eJ 9 (Row 52 ([]:List R2) []) ?_;refine bI 17 [] ?_;refine fT (ι:=Nat×List R2×(Option Addr×Nat×List Value)) (fun (i,r,(o,d,j))=>([(4,.int .i64 ((2*i:Nat):Int)),(3,.slice o r.length d),(2,Go.Value.slice Option.none 0 0),(0,Go.Value.slice a (List.length l) c)],[(9,o.map (·.block),Row 52 r j)])) (fun (i,r,(o,d,j))=>i≤n∧r=UE l i∧A4 o d r j) (fun (i,r,(o,d,j))=>n - i) ((0,[],(none,0,[]))) (⟨aM _,U,eG⟩) ⟨U,U,U,U,F9⟩ ⟨U,F9⟩ fun ⟨i,r,(o,d,j)⟩=>fun hk=>?_;obtain ⟨hi,hr,hob⟩:=hk;have hrl:r.length=i:=by rw [hr,UF]
 rcases aK i n with hin | hin
 · refine bI 15 [1] ?_;refine gM [9] [(9,12)] T.mixed U ?_;refine gL 0 [] [] ?_;refine gL 1 [] [] ?_;refine gL 2 [] [] ?_;refine dW 3 [] U (iI (α:=Int) T.sl24 U U sO sN) ?_;refine dW 4 [] U (bW T.one3 U (gB sO sN 0 U U)) ?_;refine gL 5 [] [] ?_;refine gL 6 [] [] ?_;refine gL 7 [] [] ?_;refine dW 8 [] U (iI (α:=Int) T.sl24 U U sO sN) ?_;refine dW 9 [] U (bW T.one3 U (gB sO sN 0 U U)) ?_;refine dW 10 [] U (bP (cs:=[_,_]) T.st52 U U U) ?_;refine bQ 11 ?_;refine cZ (α:=R2) 10 [⟨Option.getD l[Int.toNat (↑(2*i):Int)]? Inhabited.default,Option.getD l[Int.toNat ((↑(2*i):Int)+1)]? Inhabited.default⟩] U T.sl22 T.el52 U U U U U fun b1=>?_;refine bC ?_;refine bQ 12 ?_;refine eH (α:=R2) 9 U T.sl22 T.el52 U U U yY (dT 10 U) uM uM fun a1 c1 junk1 ho1=>?_;refine bC ?_;refine gL 13 [] [] ?_;refine iN sR F9 wJ ?_;refine eE 7 [] ?_;refine cJ 4 U (show _=Value.int .i64 ((2*(i+1):Nat):Int) by congr 1) ?_;refine eO ((i+1,r++[⟨l[((2*i:Nat):Int).toNat]?.getD default,l[(((2*i:Nat):Int)+1).toNat]?.getD default⟩],(a1,c1,junk1))) ?_ ?_ U ⟨U,U,U,U,F9⟩ ⟨U,F9⟩
   · exact ⟨by omega,by rw [hr,OP,aE,show (((2*i:Nat):Int)+1).toNat=2*i+1 by omega];rfl,ho1⟩
   show n - (i+1)<n - i;omega
 have hii:i=n:=sN;subst hii;refine bE 23 [0] ?_;refine cX 9 U hob fun G9 hle9 hA=>?_;refine cH (.inr U) (Ho:=[]) U (.tmp U) F9 ?_;rw [←hr];exact ⟨_,_,U,hA,hob.le,U⟩
def WP (q:R2):List U8:=[wb ((q.a+256) % 256),wb ((q.b+256) % 256)]
def kd (u:UV):List U8:=[⟨65⟩,⟨78⟩,⟨86⟩,⟨49⟩,wb u.k1,wb u.k2,wb u.pl.length]++u.pl.flatMap WP++Sv u.x++Sv u.y++Sv u.z
def JM (u:UV):List U8:=kd u++YL (wU (kd u) (kd u).length)
def E2 (B:List U8):Prop:=∀ b∈B,0≤b.v∧b.v≤255
theorem E2.bytes {B:List U8} (h:E2 B):C6 B:=fun i hi=>by
 rw [aA hi];exact h _ (bT hi)
theorem E2.app {A B:List U8} (h:E2 A) (k:E2 B):E2 (A++B):=fun b hb=>by
 rcases iA.1 hb with g | g
 · exact h b g
 exact k b g
theorem E2.nil:E2 []:=fun b hb=>by cases hb
theorem E2.cons {b:U8} {B:List U8} (h:0≤b.v∧b.v≤255) (k:E2 B):E2 (b :: B):=fun c hc=>by
 rcases iP.1 hc with rfl | g
 · exact h
 exact k c g
theorem wW (x:Int):0≤(wb x).v∧(wb x).v≤255:=by
 show 0≤IntKind.u8.wrap x∧IntKind.u8.wrap x≤255;rw [fh];omega
theorem GG {n:Int} (h:0≤n∧n≤65535):E2 (YL n):=.cons (by show 0≤n / 256∧n / 256≤255;omega) (.cons (by show 0≤n % 256∧n % 256≤255;omega) .nil)
theorem OQ {l:List Sl.Instr} (h:∀ i∈l,0≤i.c∧i.c≤65520):E2 (l.flatMap RK):=fun b hb=>by
 obtain ⟨i,hi,hb⟩:=pX.1 hb;have:=h i hi;exact (E2.app (.cons (wW _) (.cons (wW _) (.cons (wW _) (.cons (wW _) .nil)))) (GG sN)) b hb
theorem GH (l:List Int):E2 (l.map wb):=fun b hb=>by
 obtain ⟨i,_,rfl⟩:=dL.1 hb;exact wW i
theorem Wq {p:PV} (h1:p.code.length≤16384) (h:∀ i∈p.code,0≤i.c∧i.c≤65520):E2 (Sv p):=
 ((((E2.cons (wW _) (.cons (wW _) .nil)).app (GG sN)).app (OQ h)).app (.cons (wW _) .nil)).app (GH _)
theorem Wt (p:PV):(Sv p).length=5+6*p.code.length+p.outs.length:=by
 unfold Sv;rw [aB,aB,aB,aB,AI,aN];show 2+2+6*p.code.length+1+p.outs.length=_;omega
theorem OR (l:List R2):(l.flatMap WP).length=2*l.length:=by
 induction l with
 | nil=>rfl
 | cons i l ih=>rw [gV,aB,ih,bA];show 2+2*l.length=_;omega
theorem OS (l:List R2):E2 (l.flatMap WP):=fun b hb=>by
 obtain ⟨i,hi,hb⟩:=pX.1 hb;exact (E2.cons (wW _) (.cons (wW _) .nil)) b hb
theorem OT {l:List R2} {i:Nat} (h:i<l.length):(l.take (i+1)).flatMap WP=(l.take i).flatMap WP++WP (l[((i:Nat):Int).toNat]?.getD default):=by
 rw [cL,oP,aE,aA h];show _++([l[i]].flatMap WP)=_;rw [gV,fW,aY];rfl
def JN (k1 k2 n:Int):List U8:=[⟨65⟩,⟨78⟩,⟨86⟩,⟨49⟩,wb k1,wb k2,wb n]
theorem GI (k1 k2 n:Int):E2 (JN k1 k2 n):=.cons sY (.cons sY (.cons sY (.cons sY (.cons (wW _) (.cons (wW _) (.cons (wW _) .nil))))))
theorem c32 (G:A3) (k1 k2:Int) (l:List R2) (pa:Option Addr) (pc:Nat) (x y z:PV) (xac xao yac yao zac zao:Option Addr) (xcc xoc ycc yoc zcc zoc:Nat) (hl:Arr G pa l) (hl1:l.length≤300) (hin:∀ i:Nat,i<l.length→near (l[i]?.getD default).a (l[i]?.getD default).b) (hxc:Arr G xac x.code) (hxo:Arr G xao x.outs) (hx1:x.code.length≤16384) (hx2:x.outs.length≤16384) (hxi:∀ i∈x.code,0≤i.c∧i.c≤65520) (hyc:Arr G yac y.code) (hyo:Arr G yao y.outs) (hy1:y.code.length≤16384) (hy2:y.outs.length≤16384) (hyi:∀ i∈y.code,0≤i.c∧i.c≤65520) (hzc:Arr G zac z.code) (hzo:Arr G zao z.outs) (hz1:z.code.length≤16384) (hz2:z.outs.length≤16384) (hzi:∀ i∈z.code,0≤i.c∧i.c≤65520) :
 Does Tryz.prog 32 [.agg #[.int .i64 k1,.int .i64 k2,.slice pa l.length pc,.int .i64 x.ins,.int .i64 x.regs,.slice xac x.code.length xcc,.slice xao x.outs.length xoc,.int .i64 y.ins,.int .i64 y.regs,.slice yac y.code.length ycc,.slice yao y.outs.length yoc,.int .i64 z.ins,.int .i64 z.regs,.slice zac z.code.length zcc,.slice zao z.outs.length zoc]] G [] (fun v G' Ho=>∃ a c,v=.slice a (JM ⟨k1,k2,l,x,y,z⟩).length c∧Arr G' a (JM ⟨k1,k2,l,x,y,z⟩)∧(JM ⟨k1,k2,l,x,y,z⟩).length≤c∧Ho=[]):=by
 refine gF Tryz.func32 U Tryz.ntmps32 U fun w=>?_;refine aI 2 [] ?_;refine nB 0 U U U fun b1=>?_;refine aL 7 [0] ?_;refine cD U (cP U T.u5 U) ?_;refine aC 2 [0] ?_;refine cD U (cP U T.u5 U) ?_;refine aC 3 [0] ?_;refine cD U (cP U T.u5 U) ?_;refine cZ (α:=U8) 1 (JN k1 k2 l.length) U T.sl38 T.el5 U U U U U fun b2=>?_;have ho0:A4 (some ⟨b2,0,none⟩) 7 (JN k1 k2 l.length) []:=fK (by simp [maxLen,JN]);refine bB 10 [] ?_;refine fT (ι:=Nat×List U8×(Option Addr×Nat×List Value)) (fun (i,r,(o,d,j))=>([(4,.int .i64 (i:Int)),(3,.slice o r.length d),(2,Go.Value.slice Option.none 0 0),(1,Go.Value.pointer (Option.some (Go.Addr.mk b1 0 Option.none)))],[(1,o.map (·.block),Row 5 r j),(0,Option.some b1,Go.Obj.cells #[Go.Value.int Go.IntKind.i64 k1,Go.Value.int Go.IntKind.i64 k2,Go.Value.slice pa (List.length l) pc,Go.Value.int Go.IntKind.i64 x.ins,Go.Value.int Go.IntKind.i64 x.regs,Go.Value.slice xac x.code.length xcc,Go.Value.slice xao x.outs.length xoc,Go.Value.int Go.IntKind.i64 y.ins,Go.Value.int Go.IntKind.i64 y.regs,Go.Value.slice yac y.code.length ycc,Go.Value.slice yao y.outs.length yoc,Go.Value.int Go.IntKind.i64 z.ins,Go.Value.int Go.IntKind.i64 z.regs,Go.Value.slice zac z.code.length zcc,Go.Value.slice zao z.outs.length zoc] 28)])) (fun (i,r,(o,d,j))=>i≤l.length∧r=JN k1 k2 l.length++(l.take i).flatMap WP∧A4 o d r j) (fun (i,r,(o,d,j))=>l.length - i) ((0,JN k1 k2 l.length,(some ⟨b2,0,none⟩,7,[]))) (⟨aM _,by rw [bR,fW,aY],ho0⟩) ⟨U,U,U,U,F9⟩ ⟨U,U,F9⟩ fun ⟨i,r,(o,d,j)⟩=>fun hk=>?_;obtain ⟨hi0,hr,hob⟩:=hk;have hrl:r.length=7+2*i:=by
  rw [hr,aB,OR,bG,cY hi0];rfl
 rcases aK i l.length with hil | hil
 · have hq:=hin i hil;unfold near at hq;have hq9:-16≤(l[(i:Int).toNat]?.getD default).a∧-16≤(l[(i:Int).toNat]?.getD default).b∧(l[(i:Int).toNat]?.getD default).a≤16∧(l[(i:Int).toNat]?.getD default).b≤16:=by
    rw [aE];omega
   refine bI 15 [0,1] ?_;refine gM [0,1] [(1,20)] T.mixed U ?_;refine gL 0 [] [] ?_;refine gL 1 [] [] ?_;refine gL 2 [0] [0] ?_;refine gL 3 [] [] ?_;refine dW 4 [] U (iI (α:=R2) T.sl22 U U sO sN) ?_;refine gL 5 [] [] ?_;refine dW 6 [0] U (bW T.one3 U (gB sO sN 0 U U)) ?_;refine gL 7 [] [] ?_;refine dW 8 [] U (nE U U sN) ?_;refine dW 9 [] U (cP U T.u5 U) ?_;refine gL 10 [] [] ?_;refine gL 11 [0] [0] ?_;refine gL 12 [] [] ?_;refine dW 13 [] U (iI (α:=R2) T.sl22 U U sO sN) ?_;refine gL 14 [] [] ?_;refine dW 15 [] U (bW T.one3 U (gB sO sN 1 U U)) ?_;refine gL 16 [] [] ?_;refine dW 17 [] U (nE U U sN) ?_;refine dW 18 [] U (cP U T.u5 U) ?_;refine bQ 19 ?_;refine cZ (α:=U8) 2 [wb (((l[(i:Int).toNat]?.getD default).a+256) % 256),wb (((l[(i:Int).toNat]?.getD default).b+256) % 256)] U T.sl38 T.el5 U U U U U fun b3=>?_;refine bC ?_;refine bQ 20 ?_;refine eH (α:=U8) 1 U T.sl38 T.el5 U U U yY (dT 2 U) uM uM fun a1 c1 junk1 ho1=>?_;refine bC ?_;refine gL 21 [] [] ?_;refine dG ?_;refine eE 7 [] ?_;refine eO ((i+1,r++[wb (((l[(i:Int).toNat]?.getD default).a+256) % 256),wb (((l[(i:Int).toNat]?.getD default).b+256) % 256)],(a1,c1,junk1))) ?_ ?_ U ⟨U,U,U,U,F9⟩ ⟨U,U,F9⟩
   · exact ⟨by omega,by rw [hr,OT hil,aR];rfl,ho1⟩
   show l.length - (i+1)<l.length - i;omega
 have hii:i=l.length:=sN;subst hii;rw [aZ] at hr;have hry:E2 r:=by rw [hr];exact (GI _ _ _).app (OS l)
 refine aI 20 [0,0] ?_;refine cD U (eF 0 T.agg26 U U U U) ?_;refine bV 9 U (kc _ x xac xao xcc xoc hxc hxo hx1 sN hxi) fun v1 G1 Ho1 hle1 hp=>?_;obtain ⟨s1,d1,rfl,hs1,rfl⟩:=hp;have hn1:=Wt x;replace hyc:=hyc.up hle1;replace hyo:=hyo.up hle1;replace hzc:=hzc.up hle1;replace hzo:=hzo.up hle1;refine eH (α:=U8) 1 U T.sl38 T.el5 U U U yY (lM sO) uM uM fun a1 c1 junk1 ho1=>?_;refine aL 7 [] ?_;refine cD U (eF 0 T.agg26 U U U U) ?_;refine bV 9 U (kc _ y yac yao ycc yoc hyc hyo hy1 sN hyi) fun v2 G2 Ho2 hle2 hp=>?_;obtain ⟨s2,d2,rfl,hs2,rfl⟩:=hp;have hn2:=Wt y;replace hzc:=hzc.up hle2;replace hzo:=hzo.up hle2;refine eH (α:=U8) 1 U T.sl38 T.el5 U U U yY (lM sO) uM uM fun a2 c2 junk2 ho2=>?_;refine aL 7 [] ?_;refine cD U (eF 0 T.agg26 U U U U) ?_;refine bV 9 U (kc _ z zac zao zcc zoc hzc hzo hz1 sN hzi) fun v3 G3 Ho3 hle3 hp=>?_;obtain ⟨s3,d3,rfl,hs3,rfl⟩:=hp;have hn3:=Wt z;have hBy:C6 (r++Sv x++Sv y++Sv z):=(((hry.app (Wq hx1 hxi)).app (Wq hy1 hyi)).app (Wq hz1 hzi)).bytes;have hln:(r++Sv x++Sv y++Sv z).length≤1048576:=by
  rw [aB,aB,aB];omega
 refine eH (α:=U8) 1 U T.sl38 T.el5 U U U yY (lM sO) uM uM fun a3 c3 junk3 ho3=>?_;refine aL 7 [] ?_;refine Ja 2 U T.fn65 U (fun Gx hGx hgx=>(c65 _ _ _ (r++Sv x++Sv y++Sv z) (by first | exact Arr.up sO hGx | exact kC _ | exact rI hgx 1 rfl KV) hBy hln)) fun v1 Gx1 G1 Ho1 hlx1 hp=>?_;obtain ⟨rfl,rfl,rfl⟩:=hp;refine bV 2 U (jx _ _ ⟨(Ey _).1,(Ey _).2⟩) fun v4 G4 Ho4 hle4 hp=>?_;obtain ⟨ta4,tC4,htC4,htl4,rfl,htA4,rfl⟩:=hp;replace hs3:=hs3.up hle4;refine eH (α:=U8) 1 U T.sl38 T.el5 U U U yY (lM sO) uM uM fun a4 c4 junk4 ho4=>?_;refine aS 4 [] ?_;refine cX 1 U ho4 fun G9 hle9 hA=>?_;refine cH (.inr U) (Ho:=[]) U (.tmp U) F9 ?_;have e:r++Sv x++Sv y++Sv z++tC4=JM ⟨k1,k2,l,x,y,z⟩:=by rw [htC4,hr];rfl
 rw [←e];exact ⟨_,_,U,hA,ho4.le,U⟩
def ev:List Int→Int→Int→Int
 | [],_,_=>0
 | c :: f,a,b=>c*b ^ f.length+a*ev f a b
theorem AJ (g a b:Int):∀ f:List Int,ev f (g*a) (g*b)*g=g ^ f.length*ev f a b
 | []=>by simp [ev]
 | c :: f=>by
   have ih:=AJ g a b f;show (c*(g*b) ^ f.length+g*a*ev f (g*a) (g*b))*g=g ^ (f.length+1)*(c*b ^ f.length+a*ev f a b);rw [Int.mul_pow,gP,mC,cU];congr 1
   · ac_rfl
   calc g*a*ev f (g*a) (g*b)*g=g*a*(ev f (g*a) (g*b)*g):=by ac_rfl
    _=g*a*(g ^ f.length*ev f a b):=by rw [ih]
    _=g ^ f.length*g*(a*ev f a b):=by ac_rfl
theorem UG {g:Int} (a b:Int) (c:Int) (f:List Int) (hg:g≠0):ev (c :: f) (g*a) (g*b)=g ^ f.length*ev (c :: f) a b:=by
 have h:=AJ g a b (c :: f);refine pC hg ?_;rw [h,bA,gP]
 ac_rfl
def zU (p q:Int):Int→List Int→List Int
 | last,[]=>[-(q*last)]
 | last,c :: f=>(p*c - q*last) :: zU p q c f
theorem Ln (p q:Int):∀ (last:Int) (f:List Int),(zU p q last f).length=f.length+1
 | _,[]=>rfl
 | _,c :: f=>by show (zU p q c f).length+1=f.length+1+1;rw [Ln]
theorem Qd (p q a b:Int):∀ (last:Int) (f:List Int),ev (zU p q last f) a b=(p*b - q*a)*ev f a b - q*last*b ^ f.length
 | last,[]=>by
   show -(q*last)*b ^ 0+a*0=(p*b - q*a)*0 - q*last*b ^ 0;rw [bS,bS,fI,gN];omega
 | last,c :: f=>by
   show (p*c - q*last)*b ^ (zU p q c f).length+a*ev (zU p q c f) a b=(p*b - q*a)*(c*b ^ f.length+a*ev f a b) - q*last*b ^ (f.length+1);rw [Ln,Qd p q a b c f,gP];generalize b ^ f.length=B;generalize ev f a b=E;have h1:(p*c - q*last)*(B*b)=p*c*(B*b) - q*last*(B*b):=kR ..;have h2:a*((p*b - q*a)*E - q*c*B)=a*((p*b - q*a)*E) - a*(q*c*B):=kS ..;have h3:(p*b - q*a)*(c*B+a*E)=(p*b - q*a)*(c*B)+(p*b - q*a)*(a*E):=cU ..;have h4:(p*b - q*a)*(c*B)=p*b*(c*B) - q*a*(c*B):=kR ..;have h5:a*((p*b - q*a)*E)=(p*b - q*a)*(a*E):=by ac_rfl
   have h6:p*c*(B*b)=p*b*(c*B):=by ac_rfl
   have h7:a*(q*c*B)=q*a*(c*B):=by ac_rfl
   rw [h1,h2,h3,h4,h5,h6,h7];omega
theorem UI {p q x:Int} (hc:Int.gcd p q=1) (k:Nat) (h:p ∣ x*q ^ k):p ∣ x:=by
 have h1:p.natAbs ∣ x.natAbs*q.natAbs ^ k:=by rw [←oZ,←fZ];exact Int.natAbs_dvd_natAbs.mpr h
 exact Int.natAbs_dvd_natAbs.mp ((Nat.Coprime.pow_right k (show Nat.Coprime p.natAbs q.natAbs from hc)).dvd_of_dvd_mul_right h1)
theorem GJ {p q:Int} (hc:Int.gcd p q=1):∀ (F:List Int) (last:Int) (m:Nat),F.length=m+1→ev F p q=-(q*last)*q ^ m→∃ f:List Int,f.length=m∧F=zU p q last f
 | [],_,_,h,_=>by simp at h
 | [c],last,m,h,he=>by
   have hm:m=0:=by simpa using h.symm
   subst hm;refine ⟨[],U,?_⟩;have e:c*q ^ 0+p*0=-(q*last)*q ^ 0:=he;rw [lA,gT,bS,fI,gT] at e;rw [e];rfl
 | c :: c' :: F,last,m,h,he=>by
   obtain ⟨k,rfl⟩:∃ k,m=k+1:=⟨F.length,by simp at h;omega⟩
   have hl:(c' :: F).length=k+1:=by simp at h ⊢;omega
   have e:c*q ^ (c' :: F).length+p*ev (c' :: F) p q=-(q*last)*q ^ (k+1):=he;rw [hl] at e;have e1:(c+q*last)*q ^ (k+1)=p*(-ev (c' :: F) p q):=by
    rw [mC,iY];rw [gN] at e;omega
   have hd:∃ d:Int,c=p*d - q*last∧ev (c' :: F) p q=-(q*d)*q ^ k:=by
    by_cases hp:p=0
    · subst hp;have hq:q.natAbs=1:=by simpa [Int.gcd] using hc
      have hq2:q*q=1:=by
       rcases Int.natAbs_eq q with h | h <;> rw [hq] at h <;> rw [h] <;> rfl
      have hqk:∀ n:Nat,q ^ n*q ^ n=1:=fun n=>by
       induction n with
       | zero=>simp
       | succ n ih=>rw [gP,show q ^ n*q*(q ^ n*q)=(q ^ n*q ^ n)*(q*q) by ac_rfl,ih,hq2];rfl
      refine ⟨-(ev (c' :: F) 0 q*q ^ (k+1)),?_,?_⟩
      · rw [eN] at e1;have:c+q*last=0:=by
         rcases Int.mul_eq_zero.mp e1 with h | h
         · exact h
         have:=hqk (k+1);rw [h] at this;simp at this
        rw [eN];omega
      have h2:-(q * -(ev (c' :: F) 0 q*q ^ (k+1)))*q ^ k=ev (c' :: F) 0 q*(q ^ (k+1)*q ^ (k+1)):=by
       rw [iY,Int.neg_neg,gP];ac_rfl
      rw [h2,hqk,gT]
    obtain ⟨d,hd⟩:=UI (x:=c+q*last) hc (k+1) ⟨_,e1⟩;refine ⟨d,by omega,?_⟩;refine Int.eq_of_mul_eq_mul_left hp ?_;rw [hd] at e1;have h3:p*(-(q*d)*q ^ k)=-(p*d*q ^ (k+1)):=by
     rw [gP,gN,iY];congr 1;ac_rfl
    rw [h3,e1,iY,Int.neg_neg]
   obtain ⟨d,hd1,hd2⟩:=hd;obtain ⟨f,hf1,hf2⟩:=GJ hc (c' :: F) d k hl hd2;refine ⟨d :: f,by rw [bA,hf1],?_⟩;show c :: c' :: F=(p*d - q*last) :: zU p q d f;rw [←hf2,←hd1]
def wL (u v:Int):Nat→List Int
 | 0=>[1]
 | e+1=>zU v (-u) 0 (wL u v e)
theorem Dn (u v:Int):∀ e,(wL u v e).length=e+1
 | 0=>rfl
 | e+1=>by show (zU v (-u) 0 (wL u v e)).length=_;rw [Ln,Dn]
theorem Lo (u v a b:Int):∀ e,ev (wL u v e) a b=(u*a+v*b) ^ e
 | 0=>by show (1:Int)*b ^ 0+a*0=_;simp
 | e+1=>by
   show ev (zU v (-u) 0 (wL u v e)) a b=_;rw [Qd,Lo,bS,eN,kZ,gP,gN,Int.sub_neg,cG,rZ (v*b)]
def Fa (t:Int) (F G:List Int):List Int:=List.zipWith (fun x y=>x - t*y) F G
theorem Qe (t a b:Int):∀ F G:List Int,F.length=G.length→ev (Fa t F G) a b=ev F a b - t*ev G a b
 | [],[],_=>by show (0:Int)=0 - t*0;simp
 | x :: F,y :: G,h=>by
   have hl:F.length=G.length:=by simpa using h
   show (x - t*y)*b ^ (Fa t F G).length+a*ev (Fa t F G) a b=(x*b ^ F.length+a*ev F a b) - t*(y*b ^ G.length+a*ev G a b);have hz:(Fa t F G).length=G.length:=by unfold Fa;rw [iU,hl,qE]
   rw [hz,Qe t a b F G hl,hl,kR,kS,cU];have h1:t*y*b ^ G.length=t*(y*b ^ G.length):=by ac_rfl
   have h2:a*(t*ev G a b)=t*(a*ev G a b):=by ac_rfl
   rw [h1,h2];omega
theorem JO {p q u v:Int} (hc:Int.gcd p q=1) (h1:u*p+v*q=1) (F:List Int) (e:Nat) (hF:F.length=e+1) :
 ∃ f:List Int,f.length=e∧Fa (ev F p q) F (wL u v e)=zU p q 0 f∧∀ a b:Int,ev F a b - ev F p q*(u*a+v*b) ^ e=(p*b - q*a)*ev f a b:=by
 have hl:F.length=(wL u v e).length:=by rw [hF,Dn]
 have hz:(Fa (ev F p q) F (wL u v e)).length=e+1:=by unfold Fa;rw [iU,Dn,hF,qE]
 obtain ⟨f,hf1,hf2⟩:=GJ hc (Fa (ev F p q) F (wL u v e)) 0 e hz (by
  rw [Qe _ _ _ _ _ hl,Lo,h1,Int.one_pow,gT,rV];simp)
 refine ⟨f,hf1,hf2,fun a b=>?_⟩;have h3:=Qd p q a b 0 f;rw [←hf2,Qe _ _ _ _ _ hl,Lo,bS,eN,kZ] at h3;exact h3
theorem AK (a b:Int):∀ n:Nat,ev (List.replicate n 0) a b=0
 | 0=>rfl
 | n+1=>by
   show (0:Int)*b ^ (List.replicate n (0:Int)).length+a*ev (List.replicate n 0) a b=0;rw [AK,eN,bS];rfl
theorem GK (a b:Int):∀ (n j:Nat),j<n→ev ((List.replicate n (0:Int)).set j 1) a b=a ^ j*b ^ (n - 1 - j)
 | n+1,0,_=>by
   show (1:Int)*b ^ (List.replicate n (0:Int)).length+a*ev (List.replicate n 0) a b=a ^ 0*b ^ (n+1 - 1 - 0);rw [AK,aJ,bS,fI,lA];rfl
 | n+1,j+1,h=>by
   show (0:Int)*b ^ ((List.replicate n (0:Int)).set j 1).length+a*ev ((List.replicate n (0:Int)).set j 1) a b=a ^ (j+1)*b ^ (n+1 - 1 - (j+1));rw [GK a b n j sN,eN,kY,gP,show n+1 - 1 - (j+1)=n - 1 - j by omega]
   ac_rfl
def idx (n:Nat):List Int:=(List.range n).map fun (k:Nat)=>(k:Int)
theorem Oc (n:Nat):(idx n).length=n:=by unfold idx;rw [aN,cC]
theorem Qf (n:Nat):idx (n+1)=idx n++[(n:Int)]:=by unfold idx;rw [oJ,jW];rfl
theorem c92 (G:A3) (n:Nat) (hn:n≤1048576) :
 Does Tryz.prog 92 [.int .i64 (n:Int)] G [] (fun v G' Ho=>∃ (s:Option Addr) (c:Nat),v=.slice s (idx n).length c∧Arr G' s (idx n)∧(idx n).length≤c∧Ho=[]):=by
 refine D0 Tryz.func92 Tryz.ntmps92 fun w=>?_;refine eJ 9 (Row 3 ([]:List Int) []) ?_;refine bI 18 [] ?_;refine fT (ι:=Nat×(Option Addr×Nat×List Value)) (fun (k,(o,d,j))=>([(6,.int .i64 (k:Int)),(3,.slice o (idx k).length d),(5,Go.Value.int Go.IntKind.i64 (↑n:Int)),(2,Go.Value.slice Option.none 0 0)],[(9,o.map (·.block),Row 3 (idx k) j)])) (fun (k,(o,d,j))=>k≤n∧A4 o d (idx k) j) (fun (k,(o,d,j))=>n - k) ((0,(none,0,[]))) (⟨aM _,eG⟩) ⟨U,U,U,U,F9⟩ ⟨U,F9⟩ fun ⟨k,(o,d,j)⟩=>fun hk=>?_;obtain ⟨hk1,hk2⟩:=hk;have hkl:=Oc k;rcases aK k n with hke | hke
 · refine aI 20 [1] ?_;refine cZ (α:=Int) 10 [((↑k:Int))] U T.sl24 T.el3 U U U U U fun b1=>?_;refine kH (α:=Int) 9 T.sl24 T.el3 (dT 10 U) fun a1 c1 junk1 ho1=>?_;refine aS 8 [] ?_;refine cJ 6 U (show _=Value.int .i64 ((k+1:Nat):Int) from U) ?_;refine cJ 3 U (show _=Value.slice a1 (idx (k+1)).length c1 by rw [Qf]) ?_;refine gC 9 (Row 3 (idx (k+1)) junk1) U (by rw [Qf]) ?_;refine cK ((k+1,(a1,c1,junk1))) ?_ ?_
   · exact ⟨hke,by rw [Qf];exact ho1⟩
   show n - (k+1)<n - k;omega
 have hke:k=n:=sN;subst hke;refine bE 19 [0] ?_;refine cX 9 U hk2 fun G8 hle8 hA8=>?_;refine cV ?_;exact ⟨_,_,U,hA8,hk2.le,U⟩
def Lp (l:List R2):Nat:=(l.filter fun p=>decide (Int.gcd p.a p.b≠1)).length
def AL (i:Sl.Instr):Prop:=i.op=6∨i.op=8
instance (i:Sl.Instr):Decidable (AL i):=inferInstanceAs (Decidable (_∨_))
def de (i:Sl.Instr):Prop:=(i.op=6∨i.op=5)∧(512<i.c∨i.c < -512)
instance (i:Sl.Instr):Decidable (de i):=inferInstanceAs (Decidable (_∧_))
def Wu (c:List Sl.Instr):Nat:=(c.filter fun i=>decide (AL i)).length
def ke (p:PV) (l:List R2):Prop:=(∀ i∈p.code,¬de i)∧(Wu p.code:Int)≤(l.length:Int)*((l.length:Int) - 1) / 2+((l.length:Int) - 1)*(Lp l:Int)
instance (p:PV) (l:List R2):Decidable (ke p l):=inferInstanceAs (Decidable (_∧_))
def Fb (a b s:Int):Bool:=((Int.gcd a b:Int) - s*a).tmod b == 0
def OU (a b:Int):Nat→Nat→Nat
 | 0,k=>k
 | n+1,k=>if Fb a b (k:Int) || Fb a b (-(k:Int)) then k else OU a b n (k+1)
def Cw (a b:Int):Nat:=OU a b 16 0
def bezS (a b:Int):Int:=if b=0 then a.tdiv (Int.gcd a b) else if Fb a b (Cw a b:Int) then (Cw a b:Int) else -(Cw a b:Int)
def bezT (a b:Int):Int:=if b=0 then 0 else ((Int.gcd a b:Int) - bezS a b*a).tdiv b
def OV (a b:Int):Bool:=(a == 0 && b == 0) || (bezS a b*a+bezT a b*b == (Int.gcd a b:Int) && decide ((bezS a b).natAbs+(bezT a b).natAbs≤17) && decide (Cw a b≤15) && (b == 0 || Fb a b (Cw a b:Int) || Fb a b (-(Cw a b:Int))))
theorem UJ:((List.range 33).all fun i=>(List.range 33).all fun j=>OV ((i:Int) - 16) ((j:Int) - 16))=true:=Mt
theorem YM {a b:Int} (h:near a b):OV a b=true:=by
 have h1:=List.all_eq_true.mp UJ (a+16).toNat (List.mem_range.mpr (by unfold near at h;omega));have h2:=List.all_eq_true.mp h1 (b+16).toNat (List.mem_range.mpr (by unfold near at h;omega));rw [show (((a+16).toNat:Nat):Int) - 16=a by unfold near at h;omega,show (((b+16).toNat:Nat):Int) - 16=b by unfold near at h;omega] at h2;exact h2
theorem Ft {a b:Int} (h:near a b) (h0:¬(a=0∧b=0)):bezS a b*a+bezT a b*b=Int.gcd a b∧(bezS a b).natAbs+(bezT a b).natAbs≤17∧Cw a b≤15∧(b=0∨Fb a b (Cw a b:Int)=true∨Fb a b (-(Cw a b:Int))=true):=by
 have h1:=YM h;unfold OV at h1;simp only [Bool.or_eq_true,aU,beq_iff_eq,aT] at h1;rcases h1 with h1 | ⟨⟨⟨e1,e2⟩,e3⟩,e4⟩
 · exact absurd h1 h0
 exact ⟨e1,e2,e3,e4.elim (fun h=>h.elim .inl (fun h=>.inr (.inl h))) (fun h=>.inr (.inr h))⟩
theorem Sw (G:A3) (b:Nat) (n:Int) (ac:Option Addr) (cc:Nat) (code:List Sl.Instr) (j:List Value) (wa:Option Addr) (wn wc:Nat) (op to x y c:Int) (ho:A4 ac cc code j) (hl:code.length≤1048576) :
 Does Tryz.prog 228 [.pointer (some ⟨b,0,none⟩),.int .i64 op,.int .i64 to,.int .i64 x,.int .i64 y,.int .i64 c] G [(0,some b,.cells #[.int .i64 n,.slice ac code.length cc,.slice wa wn wc] 267),(1,ac.map (·.block),Row 91 code j)]
  (fun v G' Ho=>v=.tuple #[]∧G'=G∧∃ (a':Option Addr) (c':Nat) (j':List Value),A4 a' c' (code++[⟨op,to,x,y,c⟩]) j'∧Ho=[(0,some b,.cells #[.int .i64 n,.slice a' (code++[(⟨op,to,x,y,c⟩:Sl.Instr)]).length c',.slice wa wn wc] 267),(1,a'.map (·.block),Row 91 (code++[⟨op,to,x,y,c⟩]) j')]):=by
 refine D0 Tryz.func228 Tryz.ntmps228 fun w=>?_;refine aI 11 [0] ?_;refine aQ (bP (cs:=[_,_,_,_,_]) T.st91 U U U) ?_;refine cZ (α:=Sl.Instr) 2 [⟨op,to,x,y,c⟩] U T.sl23 T.el91 U U U U U fun b1=>?_;refine kH (α:=Sl.Instr) 1 T.sl23 T.el91 (dT 2 U) fun a1 c1 junk1 ho1=>?_;refine aS 4 [0] ?_;refine kD (.inl U) (Ho:=[(0,some b,.cells #[.int .i64 n,.slice a1 (code++[(⟨op,to,x,y,c⟩:Sl.Instr)]).length c1,.slice wa wn wc] 267),(1,a1.map (·.block),Row 91 (code++[⟨op,to,x,y,c⟩]) junk1)]) U ⟨U,U,F9⟩ ?_;exact ⟨U,U,a1,c1,junk1,ho1,U⟩
def xR (to c:Int):List Sl.Instr:=if c=1 then [] else if c=-1 then [⟨2,to,to,0,0⟩] else [⟨6,to,to,0,c⟩]
theorem YN (G:A3) (b:Nat) (n:Int) (ac:Option Addr) (cc:Nat) (code:List Sl.Instr) (j:List Value) (wa:Option Addr) (wn wc:Nat) (to c:Int) (ho:A4 ac cc code j) (hl:code.length≤1048576) :
 Does Tryz.prog 193 [.pointer (some ⟨b,0,none⟩),.int .i64 to,.int .i64 c] G [(0,some b,.cells #[.int .i64 n,.slice ac code.length cc,.slice wa wn wc] 267),(1,ac.map (·.block),Row 91 code j)]
  (fun v G' Ho=>v=.tuple #[]∧G'=G∧∃ (a':Option Addr) (c':Nat) (j':List Value),A4 a' c' (code++xR to c) j'∧Ho=[(0,some b,.cells #[.int .i64 n,.slice a' (code++xR to c).length c',.slice wa wn wc] 267),(1,a'.map (·.block),Row 91 (code++xR to c) j')]):=by
 refine D0 Tryz.func193 Tryz.ntmps193 fun w=>?_;refine bI 12 [] ?_;refine cW (fun hc1=>?_) fun hc1=>?_;refine bE 2 [] ?_;rotate_left;refine bI 6 [] ?_;refine cW (fun hc2=>?_) fun hc2=>?_;refine aI 4 [] ?_;refine eL 0 U T.fn228 U (Sw _ b n ac cc code j wa wn wc _ _ _ _ _ ho hl) (sS ⟨U,U,F9⟩) fun v1 G1 Ho1 hle1 hp=>?_;obtain ⟨rfl,rfl,a1,d1,j1,ho1,rfl⟩:=hp;refine aS 2 [] ?_;rotate_left;refine aI 5 [] ?_;refine eL 0 U T.fn228 U (Sw _ b n ac cc code j wa wn wc _ _ _ _ _ ho hl) (sS ⟨U,U,F9⟩) fun v1 G1 Ho1 hle1 hp=>?_;obtain ⟨rfl,rfl,a1,d1,j1,ho1,rfl⟩:=hp;refine aS 2 [] ?_;rotate_left
 · have e:xR to c=[]:=by unfold xR;rw [aF hc1]
   rw [e,aY];refine kD zR (Ho:=[(0,some b,.cells #[.int .i64 n,.slice ac code.length cc,.slice wa wn wc] 267),(1,ac.map (·.block),Row 91 code j)]) U ⟨U,U,F9⟩ ?_;exact ⟨U,U,ac,cc,j,ho,U⟩
 · have e:xR to c=[⟨2,to,to,0,0⟩]:=by unfold xR;rw [aD hc1,aF hc2]
   rw [e];refine kD zR (Ho:=[(0,some b,.cells #[.int .i64 n,.slice a1 (code++[(⟨2,to,to,0,0⟩:Sl.Instr)]).length d1,.slice wa wn wc] 267),(1,a1.map (·.block),Row 91 (code++[⟨2,to,to,0,0⟩]) j1)]) U ⟨U,U,F9⟩ ?_;exact ⟨U,U,a1,d1,j1,ho1,U⟩
 have e:xR to c=[⟨6,to,to,0,c⟩]:=by unfold xR;rw [aD hc1,aD hc2]
 rw [e];refine kD zR (Ho:=[(0,some b,.cells #[.int .i64 n,.slice a1 (code++[(⟨6,to,to,0,c⟩:Sl.Instr)]).length d1,.slice wa wn wc] 267),(1,a1.map (·.block),Row 91 (code++[⟨6,to,to,0,c⟩]) j1)]) U ⟨U,U,F9⟩ ?_;exact ⟨U,U,a1,d1,j1,ho1,U⟩
def sW (to x c:Int):List Sl.Instr:=if c=0 then [⟨4,to,x,x,0⟩] else if c=1∧to=x then [] else if c=1 then [⟨1,to,x,0,0⟩] else if c=-1 then [⟨2,to,x,0,0⟩] else [⟨5,to,x,0,c⟩]
theorem Gq (G:A3) (b:Nat) (n:Int) (ac:Option Addr) (cc:Nat) (code:List Sl.Instr) (j:List Value) (wa:Option Addr) (wn wc:Nat) (to x c:Int) (ho:A4 ac cc code j) (hl:code.length≤1048576) :
 Does Tryz.prog 195 [.pointer (some ⟨b,0,none⟩),.int .i64 to,.int .i64 x,.int .i64 c] G [(0,some b,.cells #[.int .i64 n,.slice ac code.length cc,.slice wa wn wc] 267),(1,ac.map (·.block),Row 91 code j)]
  (fun v G' Ho=>v=.tuple #[]∧G'=G∧∃ (a':Option Addr) (c':Nat) (j':List Value),A4 a' c' (code++sW to x c) j'∧Ho=[(0,some b,.cells #[.int .i64 n,.slice a' (code++sW to x c).length c',.slice wa wn wc] 267),(1,a'.map (·.block),Row 91 (code++sW to x c) j')]):=by
 refine D0 Tryz.func195 Tryz.ntmps195 fun w=>?_;refine bI 8 [] ?_;refine cW (fun hc1=>?_) fun hc1=>?_;refine aI 5 [] ?_;refine eL 0 U T.fn228 U (Sw _ b n ac cc code j wa wn wc _ _ _ _ _ ho hl) (sS ⟨U,U,F9⟩) fun v1 G1 Ho1 hle1 hp=>?_;obtain ⟨rfl,rfl,a1,d1,j1,ho1,rfl⟩:=hp;refine aS 2 [] ?_;rotate_left;refine aI 5 [] ?_;apply bX 4 24 28 U;intro hg1;refine aC 7 [] ?_;exact dB 4 0;intro hg1;refine aC 4 [] ?_;exact dB 4 0;refine bB 3 [] ?_;refine cW (fun hc2=>?_) fun hc2=>?_;refine bE 2 [] ?_;rotate_left;refine bI 7 [] ?_;refine cW (fun hc3=>?_) fun hc3=>?_;refine aI 4 [] ?_;refine eL 0 U T.fn228 U (Sw _ b n ac cc code j wa wn wc _ _ _ _ _ ho hl) (sS ⟨U,U,F9⟩) fun v1 G1 Ho1 hle1 hp=>?_;obtain ⟨rfl,rfl,a1,d1,j1,ho1,rfl⟩:=hp;refine aS 2 [] ?_;rotate_left;refine bI 7 [] ?_;refine cW (fun hc4=>?_) fun hc4=>?_;refine aI 4 [] ?_;refine eL 0 U T.fn228 U (Sw _ b n ac cc code j wa wn wc _ _ _ _ _ ho hl) (sS ⟨U,U,F9⟩) fun v1 G1 Ho1 hle1 hp=>?_;obtain ⟨rfl,rfl,a1,d1,j1,ho1,rfl⟩:=hp;refine aS 2 [] ?_;rotate_left;refine aI 5 [] ?_;refine eL 0 U T.fn228 U (Sw _ b n ac cc code j wa wn wc _ _ _ _ _ ho hl) (sS ⟨U,U,F9⟩) fun v1 G1 Ho1 hle1 hp=>?_;obtain ⟨rfl,rfl,a1,d1,j1,ho1,rfl⟩:=hp;refine aS 2 [] ?_;rotate_left
 · have e:sW to x c=[⟨4,to,x,x,0⟩]:=by unfold sW;rw [aF hc1]
   rw [e];refine kD zR (Ho:=[(0,some b,.cells #[.int .i64 n,.slice a1 (code++[(⟨4,to,x,x,0⟩:Sl.Instr)]).length d1,.slice wa wn wc] 267),(1,a1.map (·.block),Row 91 (code++[⟨4,to,x,x,0⟩]) j1)]) U ⟨U,U,F9⟩ ?_;exact ⟨U,U,a1,d1,j1,ho1,U⟩
 · have e:sW to x c=[]:=by unfold sW;rw [aD hc1,aF hc2]
   rw [e,aY];refine kD zR (Ho:=[(0,some b,.cells #[.int .i64 n,.slice ac code.length cc,.slice wa wn wc] 267),(1,ac.map (·.block),Row 91 code j)]) U ⟨U,U,F9⟩ ?_;exact ⟨U,U,ac,cc,j,ho,U⟩
 · have e:sW to x c=[⟨1,to,x,0,0⟩]:=by unfold sW;rw [aD hc1,aD hc2,aF hc3]
   rw [e];refine kD zR (Ho:=[(0,some b,.cells #[.int .i64 n,.slice a1 (code++[(⟨1,to,x,0,0⟩:Sl.Instr)]).length d1,.slice wa wn wc] 267),(1,a1.map (·.block),Row 91 (code++[⟨1,to,x,0,0⟩]) j1)]) U ⟨U,U,F9⟩ ?_;exact ⟨U,U,a1,d1,j1,ho1,U⟩
 · have e:sW to x c=[⟨2,to,x,0,0⟩]:=by unfold sW;rw [aD hc1,aD hc2,aD hc3,aF hc4]
   rw [e];refine kD zR (Ho:=[(0,some b,.cells #[.int .i64 n,.slice a1 (code++[(⟨2,to,x,0,0⟩:Sl.Instr)]).length d1,.slice wa wn wc] 267),(1,a1.map (·.block),Row 91 (code++[⟨2,to,x,0,0⟩]) j1)]) U ⟨U,U,F9⟩ ?_;exact ⟨U,U,a1,d1,j1,ho1,U⟩
 have e:sW to x c=[⟨5,to,x,0,c⟩]:=by unfold sW;rw [aD hc1,aD hc2,aD hc3,aD hc4]
 rw [e];refine kD zR (Ho:=[(0,some b,.cells #[.int .i64 n,.slice a1 (code++[(⟨5,to,x,0,c⟩:Sl.Instr)]).length d1,.slice wa wn wc] 267),(1,a1.map (·.block),Row 91 (code++[⟨5,to,x,0,c⟩]) j1)]) U ⟨U,U,F9⟩ ?_;exact ⟨U,U,a1,d1,j1,ho1,U⟩
end Go.Proofs.YtkdelpdbjfpgmaaGreatDoor
end
