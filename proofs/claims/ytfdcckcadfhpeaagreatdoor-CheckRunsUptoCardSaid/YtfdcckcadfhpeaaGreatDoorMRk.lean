/- uN of the proof (part 11): what the rows' text needs of the texts that lead to it. -/
import Derived.Test.YtfdcckcadfhpeaaGreatDoorMRj
set_option linter.unusedVariables false
set_option linter.unusedSimpArgs false
set_option linter.unusedSectionVars false
set_option maxHeartbeats 4000000
noncomputable section
set_option maxRecDepth 100000
namespace Go.Proofs.YtfdcckcadfhpeaaGreatDoor
open Go Go.Sl
theorem XT (G:Imm) (b:Nat) (a:Option Addr) (c:Nat) (B:List U8) (s:RS) (hA:Arr G a B) (hB:Bytes B) (hk:s.k≤B.length) (hl:B.length≤1048576) :
 Does Tryz.prog 125 [.pointer (some ⟨b,0,none⟩)] G [(0,some b,Ww a B.length c s)] (fun v G' Ho=>∃ (p:PV) (t:RS) (ac ao:Option Addr) (cc co:Nat),uY B s=(p,t)∧t.k≤B.length∧v=.agg #[.int .i64 p.ins,.int .i64 p.regs,.slice ac p.code.length cc,.slice ao p.outs.length co]∧Arr G' ac p.code∧Arr G' ao p.outs∧p.code.length≤65535∧p.outs.length≤255∧Ho=[(0,some b,Ww a B.length c t)]):=by
 refine D0 Tryz.func125 Tryz.ntmps125 fun w=>?_
 refine dZ 9 (Row 91 ([]:List Sl.Instr) []) ?_
 refine dZ 8 (Row 3 ([]:List Int) []) ?_
 refine aJ 2 [] ?_
 refine aN 10 rfl T.zero26 fun b1=>?_
 refine aZ 2 [] ?_
 refine mH ?_
 refine aJ 3 [] ?_
 refine bX 0 rfl (Bp _ _ a c B _ _ _ hA hB sF hl) fun v1 G1 Ho1 hle1 hp=>?_
 obtain ⟨x1,t1,ht1,hk1,hx1,rfl,rfl⟩:=hp
 replace hA:=hA.up hle1
 refine aO (bO (cs:=[_,_,_,_]) T.st26 rfl rfl rfl) ?_
 refine aN 11 rfl T.zero26 fun b2=>?_
 refine aL 8 [11,11] ?_
 refine bX 0 rfl (Bp _ _ a c B _ _ _ hA hB sF hl) fun v2 G2 Ho2 hle2 hp=>?_
 obtain ⟨x2,t2,ht2,hk2,hx2,rfl,rfl⟩:=hp
 replace hA:=hA.up hle2
 refine aL 7 [11] ?_
 have hG1:Qm G2 172 [] (fun x=>decide (x*256≤16384)):=⟨T.fn172,fun G' x hle h0 h1=>(kf G' x ⟨h0,h1⟩).mono fun v G'' Ho _ h=>⟨h.1.trans (Cz _),h.2⟩⟩
 refine bX 0 rfl (JD _ b a c B t2 172 _ _ hG1 hA hB hk2 hl) fun v3 G3 Ho3 hle3 hp=>?_
 obtain ⟨rfl,rfl,rfl⟩:=hp
 have hh3:=Kc (B:=B) (s:=t2) (g:=fun x=>decide (x*256≤16384)) hB hk2
 have hk3:=Sg (B:=B) (s:=t2) (g:=fun x=>decide (x*256≤16384)) hk2
 obtain ⟨h,t3,e3⟩:∃ h t3,nx B t2 (fun x=>decide (x*256≤16384))=(h,t3):=⟨_,_,rfl⟩
 rw [e3] at hh3 hk3 ⊢
 dsimp only at hh3 hk3 ⊢
 refine aN 12 rfl T.zero3 fun b3=>?_
 refine aL 6 [12] ?_
 refine aO (gT rfl rfl) ?_
 refine lQ 12 rfl fun G4 hle4 hb4=>?_
 replace hA:=hA.up hle4
 have hG2:Qm G4 173 [.pointer (some ⟨b3,0,none⟩)] (fun x=>decide (h*256+x≤16384)):=⟨T.fn173,fun G' x hle h0 h1=>(kg G' h x b3 _ _ _ (hle _ _ hb4) rfl hh3 ⟨h0,h1⟩).mono fun v G'' Ho _ q=>⟨q.1.trans (Cz _),q.2⟩⟩
 refine bX 0 rfl (JD _ b a c B t3 173 _ _ hG2 hA hB hk3 hl) fun v5 G5 Ho5 hle5 hp=>?_
 obtain ⟨rfl,rfl,rfl⟩:=hp
 have hh4:=Kc (B:=B) (s:=t3) (g:=fun x=>decide (h*256+x≤16384)) hB hk3
 have hk4:=Sg (B:=B) (s:=t3) (g:=fun x=>decide (h*256+x≤16384)) hk3
 obtain ⟨l,t4,e4⟩:∃ l t4,nx B t3 (fun x=>decide (h*256+x≤16384))=(l,t4):=⟨_,_,rfl⟩
 rw [e4] at hh4 hk4 ⊢
 dsimp only at hh4 hk4 ⊢
 obtain ⟨N,hN,hN2⟩:∃ N:Nat,h*256+l=(N:Int)∧N≤65535:=⟨(h*256+l).toNat,by omega,by omega⟩
 refine aZ 6 [] ?_
 refine Hs (ι:=Imm×RS×List Sl.Instr×(Option Addr×Nat×List Value)) (fun (Gx,t,r,(o,d,j))=>([(0,.pointer (some ⟨b,0,none⟩)),(2,.pointer (some ⟨b1,0,none⟩)),(3,.pointer (some ⟨b2,0,none⟩))],[(0,some b,Ww a B.length c t),(10,some b1,.cells #[.int .i64 0,.int .i64 0,.slice none 0 0,.slice none 0 0] 26),(11,some b2,.cells #[.int .i64 x1,.int .i64 x2,.slice o r.length d,.slice none 0 0] 26),(9,o.map (·.block),Row 91 r j),(8,none,Row 3 ([]:List Int) [])])) (fun (Gx,t,r,(o,d,j))=>Gx) (fun (Gx,t,r,(o,d,j))=>G5.le Gx∧zB B x2 N t4 []=(r,t)∧t.k≤B.length∧OwnA o d r j∧r.length≤N) ?_ fun ⟨Gx,t,r,(o,d,j)⟩=>fun (hk:G5.le Gx∧zB B x2 N t4 []=(r,t)∧t.k≤B.length∧OwnA o d r j∧r.length≤N)=>?_
 · refine aJ 2 [] ?_
   refine aO (cJ T.one3 rfl (vO hb4 rfl)) ?_
   refine aO (Qy.shl rfl rfl sE) ?_
   refine aB 1 [] ?_
   refine aO (rV rfl rfl) ?_
   refine aZ 4 [] ?_
   refine iI 23 rfl (show _=Value.int .i64 (N:Int) by rw [UE sE,Qn hh3 hh4,hN]) ?_
   refine iZ (ι:=Nat×Imm×RS×List Sl.Instr×(Option Addr×Nat×List Value)) (fun (i,Gx,t,r,(o,d,j))=>([(24,.int .i64 (i:Int)),(23,.int .i64 (N:Int)),(0,.pointer (some ⟨b,0,none⟩)),(2,.pointer (some ⟨b1,0,none⟩)),(3,.pointer (some ⟨b2,0,none⟩))],[(0,some b,Ww a B.length c t),(10,some b1,.cells #[.int .i64 0,.int .i64 0,.slice none 0 0,.slice none 0 0] 26),(11,some b2,.cells #[.int .i64 x1,.int .i64 x2,.slice o r.length d,.slice none 0 0] 26),(9,o.map (·.block),Row 91 r j),(8,none,Row 3 ([]:List Int) [])])) (fun (i,Gx,t,r,(o,d,j))=>Gx) (fun (i,Gx,t,r,(o,d,j))=>i≤N∧G5.le Gx∧zB B x2 N t4 []=zB B x2 (N - i) t r∧t.k≤B.length∧OwnA o d r j∧r.length=i) (fun (i,Gx,t,r,(o,d,j))=>N - i) ((0,G5,t4,[],(none,0,[]))) (⟨aM _,bK _,rfl,hk4,eD,rfl⟩) rfl ⟨rfl,rfl,rfl,rfl,rfl,trivial⟩ ⟨rfl,rfl,rfl,rfl,rfl,trivial⟩ fun ⟨i,Gx,t,r,(o,d,j)⟩=>fun hk=>?_
   obtain ⟨hi,hgx,hcode,hkt,hown,hri⟩:=hk
   replace hA:=hA.up hgx
   rcases aK i N with hiN | hiN
   · refine bJ 11 [1] ?_
     refine Hs (ι:=Imm×Nat×(Int×RS)×(Int×RS)×(Int×RS)) (fun (Gy,b4,(y6,u6),(y7,u7),(y8,u8))=>([(0,.pointer (some ⟨b,0,none⟩)),(2,.pointer (some ⟨b1,0,none⟩)),(3,.pointer (some ⟨b2,0,none⟩)),(24,.int .i64 (i:Int)),(23,.int .i64 (N:Int)),(6,.pointer (some ⟨b4,0,none⟩))],[(0,some b,Ww a B.length c u8),(10,some b1,.cells #[.int .i64 0,.int .i64 0,.slice none 0 0,.slice none 0 0] 26),(11,some b2,.cells #[.int .i64 x1,.int .i64 x2,.slice o r.length d,.slice none 0 0] 26),(9,o.map (·.block),Row 91 r j),(8,none,Row 3 ([]:List Int) []),(12,some b4,.cells #[.int .i64 y6,.int .i64 y7,.int .i64 y8,.int .i64 0,.int .i64 0] 91)])) (fun (Gy,b4,(y6,u6),(y7,u7),(y8,u8))=>Gy) (fun (Gy,b4,(y6,u6),(y7,u7),(y8,u8))=>Gx.le Gy∧wi B t 1 8=(y6,u6)∧wi B u6 0 (x2 - 1)=(y7,u7)∧wi B u7 0 (x2 - 1)=(y8,u8)∧u8.k≤B.length) ?_ fun ⟨Gy,b4,(y6,u6),(y7,u7),(y8,u8)⟩=>fun (hk:Gx.le Gy∧wi B t 1 8=(y6,u6)∧wi B u6 0 (x2 - 1)=(y7,u7)∧wi B u7 0 (x2 - 1)=(y8,u8)∧u8.k≤B.length)=>?_
     · refine cX [8,9,11,10,0] [(0,11),(0,6),(0,1)] T.mixed [[0],[2],[3],[4,11],[5],[7],[8],[9,11],[10]] ?_
       refine nD 1 13 ?_ ?_
       refine bX 0 rfl (Bp _ _ a c B _ _ _ hA hB sF hl) fun v6 G6 Ho6 hle6 hp=>?_
       obtain ⟨x6,t6,ht6,hk6,hx6,rfl,rfl⟩:=hp
       replace hA:=hA.up hle6
       refine bD ?_
       refine nD 6 13 ?_ ?_
       refine bX 0 rfl (Bp _ _ a c B _ _ _ hA hB sF hl) fun v7 G7 Ho7 hle7 hp=>?_
       obtain ⟨x7,t7,ht7,hk7,hx7,rfl,rfl⟩:=hp
       replace hA:=hA.up hle7
       refine bD ?_
       refine nD 11 13 ?_ ?_
       refine bX 0 rfl (Bp _ _ a c B _ _ _ hA hB sF hl) fun v8 G8 Ho8 hle8 hp=>?_
       obtain ⟨x8,t8,ht8,hk8,hx8,rfl,rfl⟩:=hp
       replace hA:=hA.up hle8
       refine bD ?_
       refine dN 12 [] rfl (bO (cs:=[_,_,_,_,_]) T.st91 rfl rfl rfl) ?_
       refine bV 13 ?_
       refine aN 12 rfl T.zero91 fun b4=>?_
       refine cG 14 ?_
       refine aB 1 [12] ?_
       refine eZ ?_
       rotate_left
       refine aN 12 rfl T.zero91 fun b4=>?_
       refine cG 11 ?_
       refine bX 0 rfl (Bp _ _ a c B _ _ _ hA hB sF hl) fun v8 G8 Ho8 hle8 hp=>?_
       obtain ⟨x8,t8,ht8,hk8,hx8,rfl,rfl⟩:=hp
       replace hA:=hA.up hle8
       refine bD ?_
       refine dN 12 [] rfl (bO (cs:=[_,_,_,_,_]) T.st91 rfl rfl rfl) ?_
       refine bV 14 ?_
       refine aB 1 [12] ?_
       refine eZ ?_
       rotate_left
       refine aN 12 rfl T.zero91 fun b4=>?_
       refine cG 6 ?_
       refine bX 0 rfl (Bp _ _ a c B _ _ _ hA hB sF hl) fun v7 G7 Ho7 hle7 hp=>?_
       obtain ⟨x7,t7,ht7,hk7,hx7,rfl,rfl⟩:=hp
       replace hA:=hA.up hle7
       refine cG 11 ?_
       refine bX 0 rfl (Bp _ _ a c B _ _ _ hA hB sF hl) fun v8 G8 Ho8 hle8 hp=>?_
       obtain ⟨x8,t8,ht8,hk8,hx8,rfl,rfl⟩:=hp
       replace hA:=hA.up hle8
       refine bD ?_
       refine dN 12 [] rfl (bO (cs:=[_,_,_,_,_]) T.st91 rfl rfl rfl) ?_
       refine bV 14 ?_
       refine aB 1 [12] ?_
       refine eZ ?_
       rotate_left
       refine aN 12 rfl T.zero91 fun b4=>?_
       refine cG 1 ?_
       refine bX 0 rfl (Bp _ _ a c B _ _ _ hA hB sF hl) fun v6 G6 Ho6 hle6 hp=>?_
       obtain ⟨x6,t6,ht6,hk6,hx6,rfl,rfl⟩:=hp
       replace hA:=hA.up hle6
       refine cG 6 ?_
       refine bX 0 rfl (Bp _ _ a c B _ _ _ hA hB sF hl) fun v7 G7 Ho7 hle7 hp=>?_
       obtain ⟨x7,t7,ht7,hk7,hx7,rfl,rfl⟩:=hp
       replace hA:=hA.up hle7
       refine cG 11 ?_
       refine bX 0 rfl (Bp _ _ a c B _ _ _ hA hB sF hl) fun v8 G8 Ho8 hle8 hp=>?_
       obtain ⟨x8,t8,ht8,hk8,hx8,rfl,rfl⟩:=hp
       replace hA:=hA.up hle8
       refine bD ?_
       refine dN 12 [] rfl (bO (cs:=[_,_,_,_,_]) T.st91 rfl rfl rfl) ?_
       refine bV 14 ?_
       refine aB 1 [12] ?_
       refine eZ ?_
       rotate_left
       · refine mC ((G8,b4,(x6,t6),(x7,t7),(x8,t8))) ?_
         exact ⟨aQ hle6 (aQ hle7 hle8),ht6,ht7,ht8,hk8⟩
       · refine mC ((G8,b4,(x6,t6),(x7,t7),(x8,t8))) ?_
         exact ⟨aQ hle6 (aQ hle7 hle8),ht6,ht7,ht8,hk8⟩
       · refine mC ((G8,b4,(x6,t6),(x7,t7),(x8,t8))) ?_
         exact ⟨aQ hle6 (aQ hle7 hle8),ht6,ht7,ht8,hk8⟩
       refine mC ((G8,b4,(x6,t6),(x7,t7),(x8,t8))) ?_
       exact ⟨aQ hle6 (aQ hle7 hle8),ht6,ht7,ht8,hk8⟩
     obtain ⟨hgy,hu6,hu7,hu8,hk8⟩:=hk
     replace hA:=hA.up hgy
     have hNi:N - i=(N - i - 1)+1:=sE
     refine aJ 7 [12] ?_
     apply dP 4 42 46 rfl
     intro hg1
     refine aB 7 [12] ?_
     exact dA 4 0
     intro hg1
     refine aB 4 [] ?_
     exact dA 4 0
     refine aZ 2 [] ?_
     refine cT (fun hc1=>?_) fun hc1=>?_
     refine aJ 5 [11] ?_
     refine bX 0 rfl (Bp _ _ a c B _ _ _ hA hB sF hl) fun v6 G6 Ho6 hle6 hp=>?_
     obtain ⟨x6,t6,ht6,hk6,hx6,rfl,rfl⟩:=hp
     replace hA:=hA.up hle6
     refine aL 9 [12,12] ?_
     refine bX 0 rfl (bs _ _ a c B _ _ hA hB sF hl) fun v7 G7 Ho7 hle7 hp=>?_
     obtain ⟨x7,t7,ht7,hk7,rfl,rfl⟩:=hp
     replace hA:=hA.up hle7
     refine aZ 13 [12,0] ?_
     refine kZ rfl (fun hc2=>?_) fun hc2=>?_
     refine bE 6 [] ?_
     rotate_left
     refine aJ 6 [11,12] ?_
     refine dY (α:=Sl.Instr) 13 [⟨y6,y7,y8,x6,x7⟩] rfl T.sl23 T.el91 rfl rfl rfl rfl rfl fun b5=>?_
     refine jS (α:=Sl.Instr) 9 T.sl23 T.el91 (fE 13 rfl) fun a1 c1 junk1 ho1=>?_
     refine aR 9 [11] ?_
     rotate_left
     refine aJ 2 [] ?_
     refine bX 0 rfl (Bp _ _ a c B _ _ _ hA hB sF hl) fun v6 G6 Ho6 hle6 hp=>?_
     obtain ⟨x6,t6,ht6,hk6,hx6,rfl,rfl⟩:=hp
     replace hA:=hA.up hle6
     refine aL 7 [12] ?_
     refine bX 0 rfl (bs _ _ a c B _ _ hA hB sF hl) fun v7 G7 Ho7 hle7 hp=>?_
     obtain ⟨x7,t7,ht7,hk7,rfl,rfl⟩:=hp
     replace hA:=hA.up hle7
     refine aZ 13 [12,0] ?_
     refine kZ rfl (fun hc2=>?_) fun hc2=>?_
     refine bE 6 [] ?_
     rotate_left
     refine aJ 6 [11,12] ?_
     refine dY (α:=Sl.Instr) 13 [⟨y6,y7,y8,0,x7⟩] rfl T.sl23 T.el91 rfl rfl rfl rfl rfl fun b5=>?_
     refine jS (α:=Sl.Instr) 9 T.sl23 T.el91 (fE 13 rfl) fun a1 c1 junk1 ho1=>?_
     refine aR 9 [11] ?_
     rotate_left
     · refine mC ((G7,t7,r,(o,d,j))) ?_
       refine ⟨aQ hgx (aQ hgy (aQ hle6 hle7)),?_,hk7,hown,by omega⟩
       rw [hcode,hNi]
       exact Tw (Nb hu6 hu7 hu8 ((aF sF).trans ht6) ht7) sF
     · refine cN 24 rfl (show _=Value.int .i64 ((i+1:Nat):Int) from rfl) ?_
       refine cL ((i+1,G7,t7,r++[⟨y6,y7,y8,x6,x7⟩],(a1,c1,junk1))) ?_ ?_
       · refine ⟨by omega,aQ hgx (aQ hgy (aQ hle6 hle7)),?_,hk7,ho1,by rw [aC,hri];rfl⟩
         rw [hcode,hNi,show N - (i+1)=N - i - 1 by omega]
         exact BE (Nb hu6 hu7 hu8 ((aF sF).trans ht6) ht7) sF
       show N - (i+1)<N - i
       omega
     · refine mC ((G7,t7,r,(o,d,j))) ?_
       refine ⟨aQ hgx (aQ hgy (aQ hle6 hle7)),?_,hk7,hown,by omega⟩
       rw [hcode,hNi]
       exact Tw (Nb hu6 hu7 hu8 ((aD sF).trans (by rw [ht6])) ht7) sF
     refine cN 24 rfl (show _=Value.int .i64 ((i+1:Nat):Int) from rfl) ?_
     refine cL ((i+1,G7,t7,r++[⟨y6,y7,y8,0,x7⟩],(a1,c1,junk1))) ?_ ?_
     · refine ⟨by omega,aQ hgx (aQ hgy (aQ hle6 hle7)),?_,hk7,ho1,by rw [aC,hri];rfl⟩
       rw [hcode,hNi,show N - (i+1)=N - i - 1 by omega]
       exact BE (Nb hu6 hu7 hu8 ((aD sF).trans (by rw [ht6])) ht7) sF
     show N - (i+1)<N - i
     omega
   refine bE 11 [0] ?_
   have hz:N - i=0:=sE
   rw [hz] at hcode
   refine mC ((Gx,t,r,(o,d,j))) ?_
   exact ⟨hgx,hcode,hkt,hown,by omega⟩
 obtain ⟨hgx,hcode,hkt,hown,hrl⟩:=hk
 replace hA:=hA.up hgx
 refine aJ 4 [] ?_
 refine bX 0 rfl (Bp _ _ a c B _ _ _ hA hB sF hl) fun v6 G6 Ho6 hle6 hp=>?_
 obtain ⟨x6,t6,ht6,hk6,hx6,rfl,rfl⟩:=hp
 replace hA:=hA.up hle6
 refine aZ 4 [] ?_
 obtain ⟨M,hM,hM2⟩:∃ M:Nat,x6=(M:Int)∧M≤255:=⟨x6.toNat,by omega,by omega⟩
 refine iI 72 rfl (show _=Value.int .i64 (M:Int) by rw [hM]) ?_
 refine iZ (ι:=Nat×Imm×RS×List Int×(Option Addr×Nat×List Value)) (fun (i,Gy,u,q,(o2,d2,j2))=>([(73,.int .i64 (i:Int)),(72,.int .i64 (M:Int)),(0,.pointer (some ⟨b,0,none⟩)),(2,.pointer (some ⟨b1,0,none⟩)),(3,.pointer (some ⟨b2,0,none⟩))],[(0,some b,Ww a B.length c u),(10,some b1,.cells #[.int .i64 0,.int .i64 0,.slice none 0 0,.slice none 0 0] 26),(11,some b2,.cells #[.int .i64 x1,.int .i64 x2,.slice o r.length d,.slice o2 q.length d2] 26),(9,o.map (·.block),Row 91 r j),(8,o2.map (·.block),Row 3 q j2)])) (fun (i,Gy,u,q,(o2,d2,j2))=>Gy) (fun (i,Gy,u,q,(o2,d2,j2))=>i≤M∧G6.le Gy∧Ca B x2 M t6 []=Ca B x2 (M - i) u q∧u.k≤B.length∧OwnA o2 d2 q j2∧q.length=i) (fun (i,Gy,u,q,(o2,d2,j2))=>M - i) ((0,G6,t6,[],(none,0,[]))) (⟨aM _,bK _,rfl,hk6,eD,rfl⟩) rfl ⟨rfl,rfl,rfl,rfl,rfl,trivial⟩ ⟨rfl,rfl,rfl,rfl,rfl,trivial⟩ fun ⟨i,Gy,u,q,(o2,d2,j2)⟩=>fun hk=>?_
 obtain ⟨hi,hgy,houts,hku,hob,hqi⟩:=hk
 replace hA:=hA.up hgy
 rcases aK i M with hiM | hiM
 · refine bJ 11 [1] ?_
   refine cX [8,9,11,10,0] [(11,10),(9,8),(8,8),(0,6)] T.mixed [[0],[1,11],[2],[3],[4,11],[5]] ?_
   refine bV 6 ?_
   refine bX 0 rfl (Bp _ _ a c B _ _ _ hA hB sF hl) fun v7 G7 Ho7 hle7 hp=>?_
   obtain ⟨x7,t7,ht7,hk7,hx7,rfl,rfl⟩:=hp
   replace hA:=hA.up hle7
   refine cG 7 ?_
   refine dY (α:=Int) 12 [(x7)] rfl T.sl24 T.el3 rfl rfl rfl rfl rfl fun b4=>?_
   refine cG 8 ?_
   refine jS (α:=Int) 8 T.sl24 T.el3 (fE 12 rfl) fun a1 c1 junk1 ho1=>?_
   refine bD ?_
   refine dE [[9]] ?_
   refine bV 10 ?_
   refine aB 1 [11] ?_
   refine eZ ?_
   refine dX 6 [] ?_
   refine cN 73 rfl (show _=Value.int .i64 ((i+1:Nat):Int) from rfl) ?_
   refine cL ((i+1,G7,t7,q++[x7],(a1,c1,junk1))) ?_ ?_
   · refine ⟨by omega,aQ hgy hle7,?_,hk7,ho1,by rw [aC,hqi];rfl⟩
     rw [houts,show M - i=(M - (i+1))+1 by omega]
     exact PM ht7
   show M - (i+1)<M - i
   omega
 refine bE 19 [0,11,10] ?_
 refine iR ?_
 have hz:M - i=0:=sE
 rw [hz] at houts
 refine cQ 9 rfl hown fun G8 hle8 hA8=>?_
 refine cQ 8 rfl hob fun G9 hle9 hA9=>?_
 refine cK (.inr rfl) (Ho:=Hp.only _ [0]) rfl (.agg 10 rfl rfl T.agg26) (aT _ _) ?_
 refine ⟨⟨x1,x2,r,q⟩,u,o,o2,d,d2,?_,hku,rfl,hA8.up hle9,hA9,aV hrl hN2,by show q.length≤255;omega,rfl⟩
 unfold uY
 rw [ht1]
 dsimp only
 rw [ht2]
 dsimp only
 rw [e3]
 dsimp only
 rw [e4]
 dsimp only
 rw [show (h*256+l).toNat=N by omega,hcode]
 dsimp only
 rw [ht6]
 dsimp only
 rw [show x6.toNat=M by omega,houts]
 rfl
theorem FU (B:List U8) (k:Nat):0≤zC B k∧zC B k<65521:=by
 cases k with
 | zero=>exact ⟨kP _,(by decide:(0:Int)<65521)⟩
 | succ k =>
   unfold zC
   omega
theorem Qr {j v:Int} (hj:0≤j∧j≤1048577) (hv:0≤v∧v≤255):0≤j*v∧j*v≤267387135:=by
 refine ⟨kI hj.1 hv.1,?_⟩
 exact Int.le_trans (Int.mul_le_mul hj.2 hv.2 hv.1 sE) sE
theorem c65 (G:Imm) (a:Option Addr) (c:Nat) (B:List U8) (hA:Arr G a B) (hB:Bytes B) (hl:B.length≤1048576) :
 Does Tryz.prog 65 [.slice a B.length c] G [] (fun v G' Ho=>v=.int .i64 (zC B B.length)∧G'=G∧Ho=[]):=by
 refine D0 Tryz.func65 Tryz.ntmps65 fun w=>?_
 refine bJ 17 [] ?_
 refine gY (ι:=Nat) (fun j=>([(4,.int .i64 (j:Int)),(3,.int .i64 (zC B j)),(0,.slice a B.length c),(2,Go.Value.int Go.IntKind.i64 0)],[])) (fun j=>j≤B.length) (fun j=>B.length - j) (0) (aM _) fun j=>fun (hk:j≤B.length)=>?_
 rcases aK j B.length with hjl | hjl
 · have h8:=hB j hjl
   have ew:IntKind.i64.wrap (B[(j:Int).toNat]?.getD default).v=(B[j]?.getD default).v:=QB VB
   have hm:=Qr (j:=(j:Int)+1) sE h8
   rw [←ew] at hm
   have hc:=FU B j
   refine aJ 20 [1] ?_
   refine fP (α:=U8) T.sl38 ?_
   refine iY 0 T.one5 ?_
   refine aO (fN rfl T.u3 rfl) ?_
   refine aO (lM rfl rfl sE) ?_
   refine aB 1 [] ?_
   refine aO (mU rfl rfl sE) ?_
   refine aR 9 [] ?_
   refine cN 3 rfl (show _=Value.int .i64 (zC B (j+1)) by rw [ew];rfl) ?_
   refine cN 4 rfl (show _=Value.int .i64 ((j+1:Nat):Int) from rfl) ?_
   refine cL (j+1) ?_ ?_
   · exact hjl
   show B.length - (j+1)<B.length - j
   omega
 have hje:j=B.length:=sE
 subst hje
 refine bE 22 [0] ?_
 refine cP ?_
 exact ⟨rfl,rfl,rfl⟩
theorem kh (G:Imm) (a:Option Addr) (c:Nat) (B:List U8) (hA:Arr G a B) (hB:Bytes B) (hl:B.length≤65520) :
 Does Tryz.prog 126 [.slice a B.length c] G [] (fun v G' Ho=>v=.int .i64 (zC B B.length)∧G'=G∧Ho=[]):=by
 refine D0 Tryz.func126 Tryz.ntmps126 fun w=>?_
 refine bJ 19 [] ?_
 refine gY (ι:=Nat) (fun j=>([(8,.int .i64 (j:Int)),(3,.int .i64 (zC B j)),(7,Go.Value.int Go.IntKind.i64 (↑(List.length B):Int)),(6,Go.Value.slice a (List.length B) c),(2,Go.Value.int Go.IntKind.i64 0)],[])) (fun j=>j≤B.length) (fun j=>B.length - j) (0) (aM _) fun j=>fun (hk:j≤B.length)=>?_
 rcases aK j B.length with hjl | hjl
 · have h8:=hB j hjl
   have ew:IntKind.i64.wrap (B[(j:Int).toNat]?.getD default).v=(B[j]?.getD default).v:=QB VB
   have et:((j:Int)+1).tmod 65521=(j:Int)+1:=by rw [oQ sE];omega
   have hm2:=Qr (j:=(j:Int)+1) sE h8
   have hm:=hm2
   rw [←ew,←et] at hm
   have hc:=FU B j
   refine aJ 14 [1] ?_
   refine fP (α:=U8) T.sl38 ?_
   refine iY 0 T.one5 ?_
   refine aL 8 [] ?_
   refine aO (mU rfl rfl sE) ?_
   refine aB 1 [] ?_
   refine aO (fN rfl T.u3 rfl) ?_
   refine aO (lW rfl rfl) ?_
   refine aO (Uc rfl rfl) ?_
   refine aO (rU rfl rfl sE) ?_
   refine aR 8 [] ?_
   refine cN 3 rfl (show _=Value.int .i64 (zC B (j+1)) by rw [ew,rP (a:=(j:Int)+1) sE sE,QB (x:=((j:Int)+1)*(B[j]?.getD default).v) sE,QB sE,oQ sE];rfl) ?_
   refine cN 8 rfl (show _=Value.int .i64 ((j+1:Nat):Int) from rfl) ?_
   refine cL (j+1) ?_ ?_
   · exact hjl
   show B.length - (j+1)<B.length - j
   omega
 have hje:j=B.length:=sE
 subst hje
 refine bE 19 [0] ?_
 refine cP ?_
 exact ⟨rfl,rfl,rfl⟩
end Go.Proofs.YtfdcckcadfhpeaaGreatDoor
namespace Go.Sl.Ez
open Go Go.Sl
section
variable {P:Program} {w:World}
theorem run_mark {t e:TypeId} {b o n c:Nat} {cs:Array Value} {ty:TypeId} (ht:P.underlying t=some (.slice e)) (he:P.underlying e=some (.int .u8)) (hb:w.heap[b]?=some (.cells cs ty (0,0))) :
 (convert t t (.slice (some ⟨b,o,none⟩) n c)).run P w=.ok (.slice (some ⟨b,o,none⟩) n c) (w.freeze ⟨b,cs.size,none⟩ 1):=by
 have hsh:w.shape? b=some (ty,cs.size):=by unfold World.shape?;rw [hb]
 simp [convert,cW ht,cW he,markStringish,hsh]
theorem freeze_upd {b k:Nat}:Upd (·=b) w (w.freeze ⟨b,k,none⟩ 1):=⟨rfl,rfl,rfl,by simp [World.freeze],fun j _ hj=>by
 have hj':b≠j:=fun e=>hj e.symm
 simp [World.freeze,qK,hj']⟩
theorem freeze_at {b k:Nat} {cs:Array Value} {ty:TypeId} (hb:w.heap[b]?=some (.cells cs ty (0,0))):(w.freeze ⟨b,k,none⟩ 1).heap[b]?=some (.cells cs ty (k,k+1)):=by
 simp [World.freeze,qK,hb]
end
section
variable {P:Program} {e:Env} {H:Hp} {G:Imm} {ty T:TypeId}
theorem Qy.indexV {x i:Operand} {n E:Nat} {k:IntKind} {m:Int} {vs:List Value} {v:Value} (hu:P.underlying T=some (.array n E)) (h1:wL P E=true) (hs:(P.info? E).map (·.size)=some 1) (hx:e.ev x=some (.agg vs.toArray)) (hi:e.ev i=some (.int k m))
 (hb:0≤m∧m<n) (hv:vs[m.toNat]?=some v):Qy P (.index T x i) ty e H G v:=fun a w _ _ _ _ hh=>by
 simp [execOp,Instr.index,hh.eval hx,hh.eval hi,asIntOf,cW hu,hb,run_sizeOf w hs,part,yV w h1,hv]
end
end Go.Sl.Ez
namespace Go.Sl
open Go
section
variable {P:Program} {B:Bs} {e:Env} {D:List Deferred} {H:Hp} {G:Imm} {K:Act→World→Prop} {ops:Array Oper} {rest:List Oper} {d:Nat} {ty:TypeId} {pos:String} {after:Array Edge}
theorem Wl.mark {T E ty0:TypeId} {x:Operand} {b n c:Nat} {cs:List Value} (t:Nat) (hn:Nat.ble (d+1) B.n=true) (hT:P.underlying T=some (.slice E)) (hE:P.underlying E=some (.int .u8)) (hx:e.ev x=some (.slice (some ⟨b,0,none⟩) n c)) (ht:H.get t=some (some b,.cells cs.toArray ty0 (0,0)))
 (h:Wl P ops rest B ⟨(d,.slice (some ⟨b,0,none⟩) n c) :: e,D,(t,some b,.cells cs.toArray ty0 (cs.toArray.size,cs.toArray.size+1)) :: H,G⟩ K):Wl P ops (⟨some d,.convert T T x,ty,pos,after,none⟩ :: rest) B ⟨e,D,H,G⟩ K:=
 nF (v:=.slice (some ⟨b,0,none⟩) n c) (x:=.value (.slice (some ⟨b,0,none⟩) n c)) ht (.inr ⟨rfl,d,rfl,hn⟩) (fun a w hh=>by
  have hb:=hh.mem.own t b _ ht
  refine ⟨_,?_,Ez.freeze_upd,Ez.freeze_at (k:=cs.toArray.size) hb⟩
  simp only [execOp,hh.eval hx,dB,Ez.run_mark hT hE hb,bM,dS]) h
end
end Go.Sl
namespace Go.Proofs.YtfdcckcadfhpeaaGreatDoor
open Go Go.Sl
theorem c73 (G:Imm) (b:Nat):Does Tryz.prog 73 [.pointer (some ⟨b,0,none⟩)] G [] (fun v G' Ho=>v=.agg #[.pointer (some ⟨b,3,none⟩),.pointer (some ⟨b,7,none⟩),.pointer (some ⟨b,11,none⟩)]∧G'=G∧Ho=[]):=by
 refine D0 Tryz.func73 Tryz.ntmps73 fun w=>?_
 refine aJ 2 [] ?_
 refine aN 0 rfl T.zero119 fun b1=>?_
 refine aZ 3 [] ?_
 refine cX [0] [(0,10)] T.mixed [[0],[1],[2],[3],[4],[5],[6],[7],[8]] ?_
 refine dN 9 [] rfl (Jr (cs:=[_,_,_]) T.ar119 rfl rfl rfl) ?_
 refine bV 10 ?_
 refine aB 1 [0] ?_
 refine bD ?_
 refine jB sG trivial wJ ?_
 refine dX 2 [] ?_
 refine cK (.inr rfl) (Ho:=Hp.only _ []) rfl (.agg 0 rfl rfl T.agg119) (aT _ _) ?_
 exact ⟨rfl,rfl,rfl⟩
structure UH where
 k1:Int
 k2:Int
 pa:Option Addr
 pn:Nat
 pc:Nat
 x:PH
 y:PH
 z:PH
instance:Inhabited UH:=⟨⟨0,0,none,0,0,default,default,default⟩⟩
instance:Cells UH:=⟨15,fun u=>[.int .i64 u.k1,.int .i64 u.k2,.slice u.pa u.pn u.pc,.int .i64 u.x.ins,.int .i64 u.x.regs,.slice u.x.ac u.x.cn u.x.cc,.slice u.x.ao u.x.on u.x.oc,.int .i64 u.y.ins,.int .i64 u.y.regs,.slice u.y.ac u.y.cn u.y.cc,.slice u.y.ao u.y.on u.y.oc,.int .i64 u.z.ins,.int .i64 u.z.regs,.slice u.z.ac u.z.cn u.z.cc,.slice u.z.ao u.z.on u.z.oc],fun _=>rfl,fun _=>rfl⟩
section
attribute [local irreducible] sU sH tL wK sR sZ wI tP
theorem bu (G:Imm) (hT:TabOk G) (n1 n2:Nat) (a:Option Addr) (c:Nat) (l:List R2) (ha:Arr G a l) (hl:l.length≤1048576) (hlc:l.length≤c) (hW:sU (n1:Int) (n2:Int) l=0) :
 Does Tryz.prog 20 [.int .i64 (n1:Int),.int .i64 (n2:Int),.slice a l.length c] G [] (fun v G' Ho=>∃ (X Y Z:PV) (pa xc xo yc yo zc zo:Option Addr) (pd xcc xoc ycc yoc zcc zoc:Nat) (pj zk:List Value),v=.tuple #[.agg #[.int .i64 (n1:Int),.int .i64 (n2:Int),.slice pa l.length pd,.int .i64 X.ins,.int .i64 X.regs,.slice xc X.code.length xcc,.slice xo X.outs.length xoc,.int .i64 Y.ins,.int .i64 Y.regs,.slice yc Y.code.length ycc,.slice yo Y.outs.length yoc,.int .i64 Z.ins,.int .i64 Z.regs,.slice zc Z.code.length zcc,.slice zo Z.outs.length zoc],.int .i64 0]∧tP n1 n2 l X Y Z=(0,0)∧(sH X=true∧sH Y=true∧sH Z=true)∧
  OwnA pa pd l pj∧Arr G' xc X.code∧Arr G' xo X.outs∧Arr G' yc Y.code∧Arr G' yo Y.outs∧Arr G' zc Z.code∧OwnA zo zoc Z.outs zk∧Ho=[(2,pa.map (·.block),Row 52 l pj),(7,zo.map (·.block),Row 3 Z.outs zk)]):=
 (jy G hT n1 n2 a c l ha hl hlc hW).mono fun v G' Ho _ ⟨pa,xc,xo,yc,yo,zc,zo,pd,xcc,xoc,ycc,yoc,zcc,zoc,pj,zk,e,h⟩=>by
  obtain ⟨hP1,hP2,hL,hRL⟩:=vE hW
  have hn1:1≤n1∧n1≤8:=by have:=hP1.1;have:=hP1.2;omega
  have hn2:1≤n2∧n2≤8:=by have:=hP2.1;have:=hP2.2;omega
  exact ⟨_,_,_,pa,xc,xo,yc,yo,zc,zo,pd,xcc,xoc,ycc,yoc,zcc,zoc,pj,zk,e,Ri hW,⟨(zO (zN hRL hn1)).1,(zO (zN hRL hn2)).1,(zO (Hj hRL)).1⟩,h⟩
end
theorem PN {B:List U8} {s:RS} {lo hi x:Int} {t:RS} (h:wi B s lo hi=(x,t)) (hw:t.wr=false):lo≤x∧x≤hi∧s.wr=false:=by
 have:=ZM (B:=B) (s:=s) (lo:=lo) (hi:=hi) (by rw [h];exact hw)
 rw [h] at this
 exact this
theorem BF {B:List U8} {s t1 t2 t3 t4 t5 t6 t7:RS} {ins regs h l n:Int} {r:List Sl.Instr} {q:List Int} {N M:Nat} (e1:wi B s 1 128=(ins,t1)) (e2:wi B t1 ins 128=(regs,t2)) (e3:nx B t2 (fun x=>decide (x*256≤16384))=(h,t3)) (e4:nx B t3 (fun x=>decide (h*256+x≤16384))=(l,t4)) (hN:(h*256+l).toNat=N) (e5:zB B regs N t4 []=(r,t5)) (e6:wi B t5 1 128=(n,t6)) (hM:n.toNat=M) (e7:Ca B regs M t6 []=(q,t7)):uY B s=(⟨ins,regs,r,q⟩,t7):=by
 subst hN hM
 unfold uY
 rw [e1]
 dsimp only
 rw [e2]
 dsimp only
 rw [e3]
 dsimp only
 rw [e4]
 dsimp only
 rw [e5]
 dsimp only
 rw [e6]
 dsimp only
 rw [e7]
theorem Wq {G:Imm} {b:Nat} {ty:TypeId} {z:Nat×Nat} {xs:List U8} (h:G b=some (.cells (sY xs++[]).toArray ty z)):Arr G (some ⟨b,0,none⟩) xs:=by
 refine ⟨by rw [sV],.inr ⟨b,0,rfl,fun k hk=>?_⟩⟩
 unfold Imm.cell
 rw [h]
 simp
theorem UJ {B:List U8} {n:Nat} {s t u:RS} {x y:Int} {r:List R2} (h1:sg B s=(x,t)) (h2:sg B t=(y,u)):Kd B (n+1) s r=Kd B n u (r++[(⟨x,y⟩:R2)]):=by
 show (match sg B s with | (a,t)=>match sg B t with | (b,t')=>Kd B n t' (r++[(⟨a,b⟩:R2)]))=_
 rw [h1]
 dsimp only
 rw [h2]
theorem Bytes.take {B:List U8} (h:Bytes B) (n:Nat):Bytes (B.take n):=fun i hi=>by
 rw [bG] at hi
 rw [List.getElem?_take_of_lt sE]
 exact h i sE
theorem Tx {B:List U8} {n:Nat}:∀ k,k≤n→n≤B.length→zC (B.take n) k=zC B k
 | 0,_,_=>rfl
 | k+1,h,hn=>by
   show (zC (B.take n) k+((k:Int)+1)*((B.take n)[k]?.getD default).v) % 65521=(zC B k+((k:Int)+1)*(B[k]?.getD default).v) % 65521
   rw [Tx k sE hn,List.getElem?_take_of_lt sE]
def BG (k1 k2:Int) (pa:Option Addr) (pn pc:Nat) (x y z:PH):Value:=.agg #[.int .i64 k1,.int .i64 k2,.slice pa pn pc,.int .i64 x.ins,.int .i64 x.regs,.slice x.ac x.cn x.cc,.slice x.ao x.on x.oc,.int .i64 y.ins,.int .i64 y.regs,.slice y.ac y.cn y.cc,.slice y.ao y.on y.oc,.int .i64 z.ins,.int .i64 z.regs,.slice z.ac z.cn z.cc,.slice z.ao z.on z.oc]
theorem PO {x:Int}:x.fdiv (2 ^ min (Int.toNat 8) IntKind.i64.bits)=x / 256:=by
 rw [show (2:Int) ^ min (Int.toNat 8) IntKind.i64.bits=256 from sN]
 exact oS _ sN
theorem PP {x:Int} (h:0≤x∧x≤65535):bits .and .i64 x 255=x % 256:=by
 obtain ⟨a,rfl⟩:∃ a:Nat,x=(a:Int):=⟨x.toNat,by omega⟩
 have e:=(bits_nat .i64 16 sN (fun n h1 h2=>QB (by have:(2:Int) ^ 16=65536:=sN;omega)) a 255 sE sE).1
 rw [show (255:Nat)=2 ^ 8 - 1 from rfl,rW] at e
 exact e.trans sE
theorem Jk {B:List U8}:∀ k,0≤zC B k∧zC B k≤65520
 | 0=>by show (0:Int)≤0∧(0:Int)≤65520;omega
 | k+1=>by
   show 0≤(zC B k+((k:Int)+1)*(B[k]?.getD default).v) % 65521∧(zC B k+((k:Int)+1)*(B[k]?.getD default).v) % 65521≤65520
   omega
theorem FV {B:List U8} {s:RS} (h:s.wr=true):Ys B s=s:=aF h
theorem UK {B:List U8} {s t u:RS} {x y n:Int} (h:s.wr=false) (hn:n=zC B s.k) (h1:wi B s (n / 256) (n / 256)=(x,t)) (h2:wi B t (n % 256) (n % 256)=(y,u)):Ys B s=u:=by
 unfold Ys
 rw [aD (by rw [h];exact Bool.false_ne_true),←hn,h1,h2]
def FW (B:List U8) (s:RS):Nat→RS
 | 0=>s
 | i+1=>(uY B (FW B s i)).2
theorem c66 (G:Imm) (a:Option Addr) (c:Nat) (B:List U8) (hA:Arr G a B) (hc:B.length≤c) (hB:Bytes B) (hl:B.length≤65520) :
 Does Tryz.prog 66 [.slice a B.length c] G [] (fun v G' Ho=>∃ (u:UV) (t:RS),uQ B=(u,t)∧t.k≤B.length∧Ho=[]∧(((t.wr=true∨t.k<B.length)∧v=.tuple #[BG 0 0 none 0 0 ⟨0,0,none,0,0,none,0,0⟩ ⟨0,0,none,0,0,none,0,0⟩ ⟨0,0,none,0,0,none,0,0⟩,.agg #[.int .i64 170,.int .i64 (t.k:Int)]])∨
  (t.wr=false∧t.k=B.length∧∃ (pa:Option Addr) (pc:Nat) (h0 h1 h2:PH),v=.tuple #[BG u.k1 u.k2 pa u.pl.length pc h0 h1 h2,.agg #[.int .i64 0,.int .i64 0]]∧u.pl.length≤pc∧Arr G' pa u.pl∧PHof G' u.x h0∧PHof G' u.y h1∧PHof G' u.z h2))):=by
 have hl0:=hl
 replace hl:B.length≤1048576:=sE
 refine D0 Tryz.func66 Tryz.ntmps66 fun w=>?_
 refine aJ 2 [] ?_
 refine aN 0 rfl T.zero28 fun b1=>?_
 refine aN 1 rfl T.zero42 fun b2=>?_
 refine aL 5 [] ?_
 refine aO (bO (cs:=[_,_,_]) T.st198 rfl rfl rfl) ?_
 refine dQ 2 fun b3=>?_
 refine aL 6 [] ?_
 refine dY (α:=U8) 3 [⟨65⟩,⟨78⟩,⟨86⟩,⟨49⟩] rfl T.sl38 T.el5 rfl rfl rfl rfl rfl fun b4=>?_
 refine Wl.mark 3 rfl T.sl38.1 T.u5 rfl rfl ?_
 refine lQ 3 rfl fun G1 hle1 hm1=>?_
 replace hA:=hA.up hle1
 obtain ⟨M,hMe,hM⟩:∃ M:List U8,M=[(⟨65⟩:U8),⟨78⟩,⟨86⟩,⟨49⟩]∧Arr G1 (some ⟨b4,0,none⟩) M:=⟨_,rfl,Wq hm1⟩
 have hM4:M.length=4:=by rw [hMe];rfl
 refine aZ 5 [] ?_
 refine iI 16 rfl (show _=Value.slice (some ⟨b4,0,none⟩) M.length 4 by rw [hM4];rfl) ?_
 refine Wc.lg (ι:=Nat×Imm×RS) (fun (i,Gx,tm)=>([(18,.int .i64 (i:Int)),(17,.int .i64 4),(16,.slice (some ⟨b4,0,none⟩) M.length 4),(4,.pointer (some ⟨b3,0,none⟩)),(0,.slice a B.length c),(3,Go.Value.pointer (Option.some (Go.Addr.mk b2 0 Option.none))),(2,Go.Value.pointer (Option.some (Go.Addr.mk b1 0 Option.none)))],[(0,some b1,.cells #[.int .i64 0,.int .i64 0,.slice none 0 0,.int .i64 0,.int .i64 0,.slice none 0 0,.slice none 0 0,.int .i64 0,.int .i64 0,.slice none 0 0,.slice none 0 0,.int .i64 0,.int .i64 0,.slice none 0 0,.slice none 0 0] 28),(1,some b2,.cells #[.int .i64 0,.int .i64 0] 42),(2,some b3,Ww a B.length c tm)])) (fun (i,Gx,tm)=>Gx) (fun (i,Gx,tm)=>i≤4∧G1.le Gx∧tm=Yr B i∧tm.k≤B.length) (fun (i,Gx,tm)=>4 - i) ((0,G1,⟨0,false⟩)) (⟨aM _,bK _,rfl,aM _⟩) fun ⟨i,Gx,tm⟩=>fun hk=>?_
 obtain ⟨hi,hgx,ht0,hk0⟩:=hk
 replace hA:=hA.up hgx
 replace hM:=hM.up hgx
 rcases aK i 4 with hi4 | hi4
 · refine aJ 13 [1] ?_
   refine fP (α:=U8) T.sl38 ?_
   refine iY 0 T.one5 ?_
   refine aL 6 [] ?_
   refine aO (fN rfl T.u3 rfl) ?_
   refine aB 1 [] ?_
   refine aO (fN rfl T.u3 rfl) ?_
   refine bX 2 rfl (Bp _ _ a c B _ _ _ hA hB sF hl) fun v2 G2 Ho2 hle2 hp=>?_
   obtain ⟨x2,t2,ht2,hk2,hx2,rfl,rfl⟩:=hp
   replace hA:=hA.up hle2
   replace hM:=hM.up hle2
   refine aR 7 [] ?_
   refine cL ((i+1,G2,t2)) ?_ ?_
   · refine ⟨by omega,aQ hgx hle2,?_,hk2⟩
     refine (congrArg Prod.snd ht2).symm.trans ?_
     rw [ht0,hMe]
     rcases (show i=0∨i=1∨i=2∨i=3 by omega) with rfl | rfl | rfl | rfl <;> rfl
   show 4 - (i+1)<4 - i
   omega
 obtain rfl:i=4:=sE
 refine aJ 15 [0] ?_
 refine bX 2 rfl (Bp _ _ a c B _ _ _ hA hB sF hl) fun v2 G2 Ho2 hle2 hp=>?_
 obtain ⟨x2,t2,ht2,hk2,hx2,rfl,rfl⟩:=hp
 replace hA:=hA.up hle2
 replace hM:=hM.up hle2
 refine aB 1 [] ?_
 refine bX 2 rfl (Bp _ _ a c B _ _ _ hA hB sF hl) fun v3 G3 Ho3 hle3 hp=>?_
 obtain ⟨x3,t3,ht3,hk3,hx3,rfl,rfl⟩:=hp
 replace hA:=hA.up hle3
 replace hM:=hM.up hle3
 refine aO (bO (cs:=[_,_,_,_,_,_,_,_,_,_,_,_,_,_,_]) T.st28 rfl rfl rfl) ?_
 refine aN 3 rfl T.zero28 fun b5=>?_
 refine aL 7 [3] ?_
 refine bX 2 rfl (Bp _ _ a c B _ _ _ hA hB sF hl) fun v4 G4 Ho4 hle4 hp=>?_
 obtain ⟨x4,t4,ht4,hk4,hx4,rfl,rfl⟩:=hp
 replace hA:=hA.up hle4
 replace hM:=hM.up hle4
 refine aZ 4 [] ?_
 obtain ⟨N,hN,hN2⟩:∃ N:Nat,x4=(N:Int)∧N≤255:=⟨x4.toNat,by omega,by omega⟩
 refine iI 35 rfl (show _=Value.int .i64 (N:Int) by rw [hN]) ?_
 refine dZ 9 (Row 52 ([]:List R2) []) ?_
 refine iZ (ι:=Nat×Imm×RS×List R2×(Option Addr×Nat×List Value)) (fun (i,Gx,t,r,(o,d,j))=>([(36,.int .i64 (i:Int)),(35,.int .i64 (N:Int)),(7,.pointer (some ⟨b5,0,none⟩)),(4,.pointer (some ⟨b3,0,none⟩)),(0,.slice a B.length c),(3,Go.Value.pointer (Option.some (Go.Addr.mk b2 0 Option.none))),(2,Go.Value.pointer (Option.some (Go.Addr.mk b1 0 Option.none)))],[(0,some b1,.cells #[.int .i64 0,.int .i64 0,.slice none 0 0,.int .i64 0,.int .i64 0,.slice none 0 0,.slice none 0 0,.int .i64 0,.int .i64 0,.slice none 0 0,.slice none 0 0,.int .i64 0,.int .i64 0,.slice none 0 0,.slice none 0 0] 28),(1,some b2,.cells #[.int .i64 0,.int .i64 0] 42),(2,some b3,Ww a B.length c t),(3,some b5,.cells #[.int .i64 x2,.int .i64 x3,.slice o r.length d,.int .i64 0,.int .i64 0,.slice none 0 0,.slice none 0 0,.int .i64 0,.int .i64 0,.slice none 0 0,.slice none 0 0,.int .i64 0,.int .i64 0,.slice none 0 0,.slice none 0 0] 28),(9,o.map (·.block),Row 52 r j)])) (fun (i,Gx,t,r,(o,d,j))=>Gx) (fun (i,Gx,t,r,(o,d,j))=>i≤N∧G4.le Gx∧Kd B N t4 []=Kd B (N - i) t r∧t.k≤B.length∧OwnA o d r j∧r.length=i) (fun (i,Gx,t,r,(o,d,j))=>N - i) ((0,G4,t4,[],(none,0,[]))) (⟨aM _,bK _,rfl,hk4,eD,rfl⟩) rfl ⟨rfl,rfl,rfl,rfl,rfl,rfl,rfl,trivial⟩ ⟨rfl,rfl,rfl,rfl,rfl,trivial⟩ fun ⟨i,Gx,t,r,(o,d,j)⟩=>fun hk=>?_
 obtain ⟨hi,hgy,hpts,hkt,hown,hri⟩:=hk
 replace hA:=hA.up hgy
 rcases aK i N with hiN | hiN
 · refine aJ 14 [1] ?_
   refine bX 2 rfl (bq _ _ a c B _ hA hB sF hl) fun v5 G5 Ho5 hle5 hp=>?_
   obtain ⟨x5,t5,ht5,hk5,hx5,rfl,rfl⟩:=hp
   replace hA:=hA.up hle5
   refine aZ 3 [] ?_
   refine cX [9,3,1,0,2] [(3,9),(9,7),(2,4)] T.mixed [[0],[1,3],[2],[3]] ?_
   refine bV 4 ?_
   refine bX 2 rfl (bq _ _ a c B _ hA hB sF hl) fun v6 G6 Ho6 hle6 hp=>?_
   obtain ⟨x6,t6,ht6,hk6,hx6,rfl,rfl⟩:=hp
   replace hA:=hA.up hle6
   refine bD ?_
   refine dN 5 [] rfl (bO (cs:=[_,_]) T.st52 rfl rfl rfl) ?_
   refine bV 6 ?_
   refine dY (α:=R2) 10 [⟨x5,x6⟩] rfl T.sl22 T.el52 rfl rfl rfl rfl rfl fun b6=>?_
   refine cG 7 ?_
   refine jS (α:=R2) 9 T.sl22 T.el52 (fE 10 rfl) fun a1 c1 junk1 ho1=>?_
   refine bD ?_
   refine dE [[8]] ?_
   refine bV 9 ?_
   refine aB 1 [3] ?_
   refine eZ ?_
   refine dX 6 [] ?_
   refine cN 36 rfl (show _=Value.int .i64 ((i+1:Nat):Int) from rfl) ?_
   refine cL ((i+1,G6,t6,r++[⟨x5,x6⟩],(a1,c1,junk1))) ?_ ?_
   · refine ⟨by omega,aQ hgy (aQ hle5 hle6),?_,hk6,ho1,by rw [aC,hri];rfl⟩
     rw [hpts,show N - i=(N - (i+1))+1 by omega]
     exact UJ ht5 ht6
   show N - (i+1)<N - i
   omega
 have hz:N - i=0:=sE
 rw [hz] at hpts
 refine pT 9 rfl hown fun G5 hle5 hpl=>?_
 replace hA:=hA.up hle5
 refine aJ 15 [0] ?_
 refine cI rfl (c73 _ _) ?_
 refine aZ 4 [] ?_
 refine Wc.lg (ι:=Nat×Imm×RS×PH×PH×PH) (fun (i,Gx,s,h0,h1,h2)=>([(51,.int .i64 (i:Int)),(50,.agg #[.pointer (some ⟨b5,3,none⟩),.pointer (some ⟨b5,7,none⟩),.pointer (some ⟨b5,11,none⟩)]),(7,.pointer (some ⟨b5,0,none⟩)),(4,.pointer (some ⟨b3,0,none⟩)),(0,.slice a B.length c),(3,Go.Value.pointer (Option.some (Go.Addr.mk b2 0 Option.none))),(2,Go.Value.pointer (Option.some (Go.Addr.mk b1 0 Option.none)))],[(0,some b1,.cells #[.int .i64 0,.int .i64 0,.slice none 0 0,.int .i64 0,.int .i64 0,.slice none 0 0,.slice none 0 0,.int .i64 0,.int .i64 0,.slice none 0 0,.slice none 0 0,.int .i64 0,.int .i64 0,.slice none 0 0,.slice none 0 0] 28),(1,some b2,.cells #[.int .i64 0,.int .i64 0] 42),(2,some b3,Ww a B.length c s),(3,some b5,.cells #[.int .i64 x2,.int .i64 x3,.slice o r.length d,.int .i64 h0.ins,.int .i64 h0.regs,.slice h0.ac h0.cn h0.cc,.slice h0.ao h0.on h0.oc,.int .i64 h1.ins,.int .i64 h1.regs,.slice h1.ac h1.cn h1.cc,.slice h1.ao h1.on h1.oc,.int .i64 h2.ins,.int .i64 h2.regs,.slice h2.ac h2.cn h2.cc,.slice h2.ao h2.on h2.oc] 28)])) (fun (i,Gx,s,h0,h1,h2)=>Gx) (fun (i,Gx,s,h0,h1,h2)=>i≤3∧G5.le Gx∧s=FW B t i∧s.k≤B.length∧(0<i→PHof Gx (uY B (FW B t 0)).1 h0)∧(1<i→PHof Gx (uY B (FW B t 1)).1 h1)∧(2<i→PHof Gx (uY B (FW B t 2)).1 h2)) (fun (i,Gx,s,h0,h1,h2)=>3 - i) ((0,G5,t,⟨0,0,none,0,0,none,0,0⟩,⟨0,0,none,0,0,none,0,0⟩,⟨0,0,none,0,0,none,0,0⟩)) (⟨aM _,bK _,rfl,hkt,fun h=>absurd h sE,fun h=>absurd h sE,fun h=>absurd h sE⟩) fun ⟨i,Gx,s,h0,h1,h2⟩=>fun hk=>?_
 obtain ⟨hi3,hgz,hs,hks,hp0,hp1,hp2⟩:=hk
 replace hA:=hA.up hgz
 rcases aK i 3 with hi3' | hi3'
 · rcases (show i=0∨i=1∨i=2 by omega) with rfl | rfl | rfl
   · refine aJ 13 [1] ?_
     refine aO (Ez.Qy.indexV (n:=3) (E:=85) sG sG sG rfl rfl sN rfl) ?_
     refine aL 6 [] ?_
     refine bX 2 rfl (XT _ _ a c B _ hA hB sF hl) fun v6 G6 Ho6 hle6 hp=>?_
     obtain ⟨p6,t6,ac6,ao6,cc6,co6,ht6,hk6,rfl,hac6,hao6,hcn6,hon6,rfl⟩:=hp
     replace hA:=hA.up hle6
     refine aB 1 [] ?_
     refine lP 3 T.size26 rfl rfl rfl rfl rfl rfl ?_
     refine aR 7 [] ?_
     have hq:uY B (FW B t 0)=(p6,t6):=by rw [←hs];exact ht6
     refine cL ((1,G6,t6,⟨p6.ins,p6.regs,ac6,p6.code.length,cc6,ao6,p6.outs.length,co6⟩,h1,h2)) ?_ ?_
     · exact ⟨by omega,aQ hgz hle6,by show t6=(uY B (FW B t 0)).2;rw [hq],hk6,fun _=>by rw [hq];exact ⟨rfl,rfl,rfl,rfl,hac6,hao6⟩,fun h=>absurd h sE,fun h=>absurd h sE⟩
     show 3 - 1<3 - 0
     omega
   · refine aJ 13 [1] ?_
     refine aO (Ez.Qy.indexV (n:=3) (E:=85) sG sG sG rfl rfl sN rfl) ?_
     refine aL 6 [] ?_
     refine bX 2 rfl (XT _ _ a c B _ hA hB sF hl) fun v6 G6 Ho6 hle6 hp=>?_
     obtain ⟨p6,t6,ac6,ao6,cc6,co6,ht6,hk6,rfl,hac6,hao6,hcn6,hon6,rfl⟩:=hp
     replace hA:=hA.up hle6
     refine aB 1 [] ?_
     refine lP 3 T.size26 rfl rfl rfl rfl rfl rfl ?_
     refine aR 7 [] ?_
     have hq:uY B (FW B t 1)=(p6,t6):=by rw [←hs];exact ht6
     refine cL ((2,G6,t6,h0,⟨p6.ins,p6.regs,ac6,p6.code.length,cc6,ao6,p6.outs.length,co6⟩,h2)) ?_ ?_
     · exact ⟨by omega,aQ hgz hle6,by show t6=(uY B (FW B t 1)).2;rw [hq],hk6,fun _=>(hp0 sE).up hle6,fun _=>by rw [hq];exact ⟨rfl,rfl,rfl,rfl,hac6,hao6⟩,fun h=>absurd h sE⟩
     show 3 - 2<3 - 1
     omega
   refine aJ 13 [1] ?_
   refine aO (Ez.Qy.indexV (n:=3) (E:=85) sG sG sG rfl rfl sN rfl) ?_
   refine aL 6 [] ?_
   refine bX 2 rfl (XT _ _ a c B _ hA hB sF hl) fun v6 G6 Ho6 hle6 hp=>?_
   obtain ⟨p6,t6,ac6,ao6,cc6,co6,ht6,hk6,rfl,hac6,hao6,hcn6,hon6,rfl⟩:=hp
   replace hA:=hA.up hle6
   refine aB 1 [] ?_
   refine lP 3 T.size26 rfl rfl rfl rfl rfl rfl ?_
   refine aR 7 [] ?_
   have hq:uY B (FW B t 2)=(p6,t6):=by rw [←hs];exact ht6
   refine cL ((3,G6,t6,h0,h1,⟨p6.ins,p6.regs,ac6,p6.code.length,cc6,ao6,p6.outs.length,co6⟩)) ?_ ?_
   · exact ⟨by omega,aQ hgz hle6,by show t6=(uY B (FW B t 2)).2;rw [hq],hk6,fun _=>(hp0 sE).up hle6,fun _=>(hp1 sE).up hle6,fun _=>by rw [hq];exact ⟨rfl,rfl,rfl,rfl,hac6,hao6⟩⟩
   show 3 - 3<3 - 2
   omega
 obtain rfl:i=3:=sE
 refine bJ 12 [0] ?_
 refine Hs (ι:=Imm×RS) (fun (Gy,u)=>([(7,.pointer (some ⟨b5,0,none⟩)),(4,.pointer (some ⟨b3,0,none⟩)),(0,.slice a B.length c),(3,.pointer (some ⟨b2,0,none⟩)),(2,.pointer (some ⟨b1,0,none⟩))],[(0,some b1,.cells #[.int .i64 0,.int .i64 0,.slice none 0 0,.int .i64 0,.int .i64 0,.slice none 0 0,.slice none 0 0,.int .i64 0,.int .i64 0,.slice none 0 0,.slice none 0 0,.int .i64 0,.int .i64 0,.slice none 0 0,.slice none 0 0] 28),(1,some b2,.cells #[.int .i64 0,.int .i64 0] 42),(2,some b3,Ww a B.length c u),(3,some b5,.cells #[.int .i64 x2,.int .i64 x3,.slice o r.length d,.int .i64 h0.ins,.int .i64 h0.regs,.slice h0.ac h0.cn h0.cc,.slice h0.ao h0.on h0.oc,.int .i64 h1.ins,.int .i64 h1.regs,.slice h1.ac h1.cn h1.cc,.slice h1.ao h1.on h1.oc,.int .i64 h2.ins,.int .i64 h2.regs,.slice h2.ac h2.cn h2.cc,.slice h2.ao h2.on h2.oc] 28)])) (fun (Gy,u)=>Gy) (fun (Gy,u)=>Gx.le Gy∧u=Ys B s∧u.k≤B.length) ?_ fun ⟨Gy,u⟩=>fun (hk:Gx.le Gy∧u=Ys B s∧u.k≤B.length)=>?_
 · refine bJ 9 [2] ?_
   refine kZ rfl (fun hc1=>?_) fun hc1=>?_
   refine aJ 7 [2] ?_
   refine aO (pU T.sl38 rfl rfl sE) ?_
   rotate_left
   refine kC ?_
   rotate_left
   · refine gK 69 rfl (show _=Value.slice (subA a c 0 1) (B.take s.k).length c by congr 1;rw [bG];omega) ?_
     refine cI rfl (kh _ _ _ (B.take s.k) (Hw hA _) (hB.take _) (by rw [bG];omega)) ?_
     refine aL 7 [] ?_
     refine aO (nV rfl rfl sE) ?_
     refine aB 1 [] ?_
     refine aO (nV rfl rfl sE) ?_
     refine bX 2 rfl (Bp _ _ a c B _ _ _ hA hB sF hl) fun v6 G6 Ho6 hle6 hp=>?_
     obtain ⟨x6,t6,ht6,hk6,hx6,rfl,rfl⟩:=hp
     replace hA:=hA.up hle6
     refine aL 5 [] ?_
     refine aO (lD rfl rfl) ?_
     refine aB 1 [] ?_
     refine aO (lD rfl rfl) ?_
     refine bX 2 rfl (Bp _ _ a c B _ _ _ hA hB sF hl) fun v7 G7 Ho7 hle7 hp=>?_
     obtain ⟨x7,t7,ht7,hk7,hx7,rfl,rfl⟩:=hp
     replace hA:=hA.up hle7
     refine eM ?_
     have hcs:zC (List.take s.k B) (List.take s.k B).length=zC B s.k:=by rw [bG,dG hks];exact Tx s.k (aH _) hks
     rw [PO,hcs] at ht6
     rw [hcs,PP ⟨(Jk _).1,by have:=(Jk (B:=B) s.k).2;omega⟩] at ht7
     refine mC ((G7,t7)) ?_
     exact ⟨aQ hle6 hle7,(UK (by have:=hc1;cases hw:s.wr <;> simp_all) rfl ht6 ht7).symm,hk7⟩
   refine mC ((Gx,s)) ?_
   exact ⟨bK _,(FV (by have:=hc1;cases hw:s.wr <;> simp_all)).symm,hks⟩
 obtain ⟨hgw,hu,hku⟩:=hk
 have hdec:uQ B=(⟨x2,x3,r,(uY B (FW B t 0)).1,(uY B (FW B t 1)).1,(uY B (FW B t 2)).1⟩,u):=by
  unfold uQ
  rw [←ht0,ht2]
  dsimp only
  rw [ht3]
  dsimp only
  rw [ht4]
  dsimp only
  rw [show x4.toNat=N by omega,hpts,hu,hs]
  rfl
 refine aJ 8 [2] ?_
 refine Rp 87 rfl (fun hg1=>?_) fun hg1=>?_
 refine aZ 12 [1] ?_
 refine gQ [3,2,1,0] [(1,7),(0,6)] T.mixed rfl ?_
 refine dN 0 [] rfl (bO (cs:=[_,_,_,_,_,_,_,_,_,_,_,_,_,_,_]) T.st28 rfl rfl rfl) ?_
 refine dE [[1],[2],[3],[4,2]] ?_
 refine dN 5 [] rfl (bO (cs:=[_,_]) T.st42 rfl rfl rfl) ?_
 refine bV 6 ?_
 refine aB 1 [0] ?_
 refine cG 7 ?_
 refine aB 1 [1] ?_
 refine eZ ?_
 refine dX 3 [] ?_
 rotate_left
 refine aZ 17 [2] ?_
 refine cT (fun hc1=>?_) fun hc1=>?_
 refine dF ?_
 refine gQ [3,2,1,0] [(1,7),(0,6)] T.mixed rfl ?_
 refine dN 0 [] rfl (bO (cs:=[_,_,_,_,_,_,_,_,_,_,_,_,_,_,_]) T.st28 rfl rfl rfl) ?_
 refine dE [[1],[2],[3],[4,2]] ?_
 refine dN 5 [] rfl (bO (cs:=[_,_]) T.st42 rfl rfl rfl) ?_
 refine bV 6 ?_
 refine aB 1 [0] ?_
 refine cG 7 ?_
 refine aB 1 [1] ?_
 refine eZ ?_
 refine dX 3 [] ?_
 rotate_left
 refine aJ 5 [3] ?_
 refine aO (bO (cs:=[_,_]) T.st42 rfl rfl rfl) ?_
 refine aR 5 [0,1] ?_
 rotate_left
 · refine fS (.inr rfl) (Ho:=Hp.only _ []) rfl (.agg 0 rfl rfl T.agg28) (.agg 1 rfl rfl T.agg42) (aT _ _) ?_
   exact ⟨_,u,hdec,hku,rfl,.inl ⟨.inl sF,rfl⟩⟩
 · refine fS (.inr rfl) (Ho:=Hp.only _ []) rfl (.agg 0 rfl rfl T.agg28) (.agg 1 rfl rfl T.agg42) (aT _ _) ?_
   exact ⟨_,u,hdec,hku,rfl,.inl ⟨.inr sE,rfl⟩⟩
 refine fS (.inr rfl) (Ho:=Hp.only _ []) rfl (.agg 0 rfl rfl T.agg28) (.agg 1 rfl rfl T.agg42) (aT _ _) ?_
 exact ⟨_,u,hdec,hku,rfl,.inr ⟨by assumption,by omega,o,d,h0,h1,h2,rfl,hown.le,(hpl.up hgz).up hgw,(hp0 sE).up hgw,(hp1 sE).up hgw,(hp2 sE).up hgw⟩⟩
theorem XU {α β:Type} {p:α×β} {b:β} (h:p.2=b):p=(p.1,b):=by rw [←h]
theorem PQ {B:List U8} {s:RS} (h:s.wr=true):(uY B s).2=s:=
 congrArg Prod.snd (BF (Qo h) (Qo h) (Qp h) (Qp h) rfl (BD _ _ _ h) (Qo h) rfl (XU (Qq _ _ _ h)))
theorem Qs {B:List U8} {s t:RS} (h:(uY B s).2=t) (hw:t.wr=false):s.wr=false:=by
 cases hs:s.wr with
 | false=>rfl
 | true=>rw [PQ hs] at h;rw [←h,hs] at hw;cases hw
theorem UL {B:List U8} {t1 t2 t3 t t4 t6 t7:RS} {k1 k2 n:Int} {N:Nat} {pl:List R2} {x y z:PV} (e1:wi B (Yr B 4) 1 8=(k1,t1)) (e2:wi B t1 1 8=(k2,t2)) (e3:wi B t2 0 255=(n,t3)) (hN:n.toNat=N) (e4:Kd B N t3 []=(pl,t)) (e5:uY B t=(x,t4)) (e6:uY B t4=(y,t6)) (e7:uY B t6=(z,t7)):uQ B=(⟨k1,k2,pl,x,y,z⟩,Ys B t7):=by
 subst hN
 unfold uQ
 rw [e1]
 dsimp only
 rw [e2]
 dsimp only
 rw [e3]
 dsimp only
 rw [e4]
 dsimp only
 rw [e5]
 dsimp only
 rw [e6]
 dsimp only
 rw [e7]
theorem ki {x:Int}:IntKind.u8.wrap x=x % 256:=by
 simp [IntKind.wrap,IntKind.bits,IntKind.signed]
theorem kj (G:Imm) (n:Int) (hn:0≤n∧n≤65520):Does Tryz.prog 64 [.int .i64 n] G [] (fun v G' Ho=>∃ (a:Option Addr) (C:List U8),C=[⟨n / 256⟩,⟨n % 256⟩]∧C.length=2∧v=.slice a C.length 2∧Arr G' a C∧Ho=[]):=by
 refine D0 Tryz.func64 Tryz.ntmps64 fun w=>?_
 refine aJ 9 [] ?_
 refine aO (mU rfl rfl sE) ?_
 refine aL 6 [] ?_
 refine aO (rB rfl rfl sE) ?_
 refine aO (fN rfl T.u5 rfl) ?_
 refine aB 1 [] ?_
 refine aO (mU rfl rfl sE) ?_
 refine aO (fN rfl T.u5 rfl) ?_
 refine gK 8 rfl (show _=Value.int .u8 (n / 256) by rw [ki];congr 1;omega) ?_
 refine gK 11 rfl (show _=Value.int .u8 (n % 256) by rw [ki];congr 1;omega) ?_
 refine dY (α:=U8) 0 [⟨n / 256⟩,⟨n % 256⟩] rfl T.sl38 T.el5 rfl rfl rfl rfl rfl fun b1=>?_
 refine aR 4 [] ?_
 refine cQ 0 rfl (fM (xs:=[(⟨n / 256⟩:U8),⟨n % 256⟩]) Dd) fun G9 hle9 hA=>?_
 refine cP ?_
 exact ⟨_,_,rfl,rfl,rfl,hA,rfl⟩
section
attribute [local irreducible] uE tQ sU sH tL
theorem kl (G:Imm) (k1 k2:Int) (pl:List R2) (pa:Option Addr) (pc:Nat) (xp yp zp:PV) (xac xao yac yao zac zao:Option Addr) (xcc xoc ycc yoc zcc zoc:Nat) (hpa:Arr G pa pl) (hpc:pl.length≤pc) (hpl:pl.length≤1048576) (hxc:Arr G xac xp.code) (hxo:Arr G xao xp.outs) (hx1:xp.code.length≤16384) (hx2:xp.outs.length≤1048576) (hyc:Arr G yac yp.code) (hyo:Arr G yao yp.outs) (hy1:yp.code.length≤16384) (hy2:yp.outs.length≤1048576) (hzc:Arr G zac zp.code) (hzo:Arr G zao zp.outs) (hz1:zp.code.length≤16384) (hz2:zp.outs.length≤1048576) :
 Does Tryz.prog 13 [.agg #[.int .i64 k1,.int .i64 k2,.slice pa pl.length pc,.int .i64 xp.ins,.int .i64 xp.regs,.slice xac xp.code.length xcc,.slice xao xp.outs.length xoc,.int .i64 yp.ins,.int .i64 yp.regs,.slice yac yp.code.length ycc,.slice yao yp.outs.length yoc,.int .i64 zp.ins,.int .i64 zp.regs,.slice zac zp.code.length zcc,.slice zao zp.outs.length zoc]] G [] (fun v G' Ho=>v=.tuple #[.int .i64 (tP k1 k2 pl xp yp zp).1,.int .i64 (tP k1 k2 pl xp yp zp).2]∧Ho=[]):=by
 refine D0 Tryz.func13 Tryz.ntmps13 fun w=>?_
 by_cases hW:sU k1 k2 pl=0
 case neg =>
  refine aJ 2 [] ?_
  refine dQ 0 fun b1=>?_
  refine aL 12 [0,0,0] ?_
  refine bX 1 rfl (ck _ _ _ _ _ _ sF sE sE) fun v1 G1 Ho1 hle1 hp=>?_
  obtain ⟨pv1,rfl,rfl⟩:=hp
  replace hpa:=hpa.up hle1
  replace hxc:=hxc.up hle1
  replace hxo:=hxo.up hle1
  replace hyc:=hyc.up hle1
  replace hyo:=hyo.up hle1
  replace hzc:=hzc.up hle1
  replace hzo:=hzo.up hle1
  refine aR 24 [1] ?_
  refine gR ?_
  exact ⟨by rw [XF hW],rfl⟩
 obtain ⟨hP1,hP2,hL,hRL⟩:=vE hW
 obtain ⟨n1,rfl⟩:∃ n:Nat,k1=(n:Int):=⟨k1.toNat,by have:=hP1.1;omega⟩
 obtain ⟨n2,rfl⟩:∃ n:Nat,k2=(n:Int):=⟨k2.toNat,by have:=hP2.1;omega⟩
 have hn1:1≤n1∧n1≤8:=by have:=hP1.1;have:=hP1.2;omega
 have hn2:1≤n2∧n2≤8:=by have:=hP2.1;have:=hP2.2;omega
 refine aJ 2 [] ?_
 refine dQ 0 fun b1=>?_
 refine aL 12 [0,0,0] ?_
 refine bX 1 rfl (ck _ _ _ _ _ _ sF sE sE) fun v1 G1 Ho1 hle1 hp=>?_
 obtain ⟨pv1,rfl,rfl⟩:=hp
 replace hpa:=hpa.up hle1
 replace hxc:=hxc.up hle1
 replace hxo:=hxo.up hle1
 replace hyc:=hyc.up hle1
 replace hyo:=hyo.up hle1
 replace hzc:=hzc.up hle1
 replace hzo:=hzo.up hle1
 refine aL 21 [0,0] ?_
 refine bX 1 rfl (c55 _ _ _ _ _ _ xp yp zp _ _ _ _ _ _ _ _ _ _ _ _) fun v2 G2 Ho2 hle2 hp=>?_
 obtain ⟨sp2,bp2,rfl,hpA2,hpB2,rfl⟩:=hp
 replace hpa:=hpa.up hle2
 replace hxc:=hxc.up hle2
 replace hxo:=hxo.up hle2
 replace hyc:=hyc.up hle2
 replace hyo:=hyo.up hle2
 replace hzc:=hzc.up hle2
 replace hzo:=hzo.up hle2
 refine aZ 5 [] ?_
 refine Wc.lg (ι:=Nat×Imm) (fun (i,Gx)=>([(27,.int .i64 (i:Int)),(26,.int .i64 3),(25,.slice sp2 (List.length [PF.mk (PH.mk xp.ins xp.regs xac xp.code.length xcc xao xp.outs.length xoc) 107 bp2,PF.mk (PH.mk yp.ins yp.regs yac yp.code.length ycc yao yp.outs.length yoc) 109 bp2,PF.mk (PH.mk zp.ins zp.regs zac zp.code.length zcc zao zp.outs.length zoc) 110 bp2]) 3)],[(0,some b1,.cells #[.int .i64 (↑n1:Int),.int .i64 (↑n2:Int),.slice pa (List.length pl) pc,.int .i64 xp.ins,.int .i64 xp.regs,.slice xac xp.code.length xcc,.slice xao xp.outs.length xoc,.int .i64 yp.ins,.int .i64 yp.regs,.slice yac yp.code.length ycc,.slice yao yp.outs.length yoc,.int .i64 zp.ins,.int .i64 zp.regs,.slice zac zp.code.length zcc,.slice zao zp.outs.length zoc] 28)])) (fun (i,Gx)=>Gx) (fun (i,Gx)=>i≤3∧G2.le Gx∧(0<i→sH xp=true∧uE xp (n1:Int) pl)∧(1<i→sH yp=true∧uE yp (n2:Int) pl)∧(2<i→sH zp=true∧tQ zp pl)) (fun (i,Gx)=>3 - i) ((0,G2)) (⟨aM _,bK _,fun h=>absurd h sE,fun h=>absurd h sE,fun h=>absurd h sE⟩) fun ⟨i,Gx⟩=>fun hk=>?_
 obtain ⟨hi0,hgx,hx9,hy9,hz9⟩:=hk
 have hB:=hgx _ _ hpB2
 replace hpA2:=hpA2.up hgx
 replace hpa:=hpa.up hgx
 replace hxc:=hxc.up hgx
 replace hxo:=hxo.up hgx
 replace hyc:=hyc.up hgx
 replace hyo:=hyo.up hgx
 replace hzc:=hzc.up hgx
 replace hzo:=hzo.up hgx
 have hi4:i=0∨i=1∨i=2∨i=3:=sE
 rcases hi4 with rfl | rfl | rfl | rfl
 · refine aJ 14 [1] ?_
   refine aO (jA (α:=PF) T.sl96 rfl rfl hpA2 (show 0≤((0:Nat):Int)∧((0:Nat):Int)<((3:Nat):Int) by omega)) ?_
   refine aO (gZ T.agg100 rfl (jY hpA2 (show 0≤((0:Nat):Int)∧((0:Nat):Int)<((3:Nat):Int) by omega)) rfl) ?_
   refine gK 31 rfl (show _=Value.agg #[.int .i64 xp.ins,.int .i64 xp.regs,.slice xac xp.code.length xcc,.slice xao xp.outs.length xoc,.func (.func 107) #[] #[.pointer (some ⟨bp2,0,none⟩)]] from rfl) ?_
   by_cases hr:sH xp=true
   · skip
     refine aN 1 rfl T.zero100 fun b2=>?_
     refine aL 7 [1] ?_
     refine aO (fU 1 T.agg26 rfl rfl rfl rfl) ?_
     refine cI rfl (Va _ xp _ _ _ _ sF sF sE sE hr) ?_
     refine aL 22 [0,1] ?_
     refine aO (fU 1 T.agg26 rfl rfl rfl rfl) ?_
     refine eC (fst:=[]) (cap:=[.pointer (some ⟨bp2,0,none⟩)]) 2 rfl T.fn107 rfl rfl (gn _ n1 bp2 _ _ _ xp xac xao pa xcc xoc pc pl hB rfl rfl hxc hxo hpa hpc hpl hx1 sE hRL hr sE sE) (sJ trivial) fun v9 G9 Ho9 hle9 hp=>?_
     obtain ⟨rfl,rfl⟩:=hp
     refine aL 12 [] ?_
     refine oM 53 ?_
     refine aB 3 [] ?_
     refine aO (fF rfl) ?_
     refine aZ 3 [] ?_
     refine cT (fun hc1=>?_) fun hc1=>?_
     refine bE 14 [] ?_
     rotate_left
     refine bE 7 [] ?_
     rotate_left
     · refine gR ?_
       exact ⟨by rw [TA hW hr sF];rfl,rfl⟩
     refine cN 27 rfl (show _=Value.int .i64 ((1:Nat):Int) from rfl) ?_
     refine cL ((1,G9)) ?_ ?_
     · exact ⟨by omega,aQ hgx hle9,fun _=>⟨hr,eP.1 sF⟩,fun h=>absurd h sE,fun h=>absurd h sE⟩
     show 3 - 1<3 - 0
     omega
   skip
   refine aN 1 rfl T.zero100 fun b2=>?_
   refine aL 7 [1] ?_
   refine aO (fU 1 T.agg26 rfl rfl rfl rfl) ?_
   refine cI rfl (XE _ xp _ _ _ _ sF sF sE sE hr) ?_
   refine aR 31 [1] ?_
   refine gR ?_
   exact ⟨by rw [SZ hW sF];rfl,rfl⟩
 · refine aJ 14 [1] ?_
   refine aO (jA (α:=PF) T.sl96 rfl rfl hpA2 (show 0≤((1:Nat):Int)∧((1:Nat):Int)<((3:Nat):Int) by omega)) ?_
   refine aO (gZ T.agg100 rfl (jY hpA2 (show 0≤((1:Nat):Int)∧((1:Nat):Int)<((3:Nat):Int) by omega)) rfl) ?_
   refine gK 31 rfl (show _=Value.agg #[.int .i64 yp.ins,.int .i64 yp.regs,.slice yac yp.code.length ycc,.slice yao yp.outs.length yoc,.func (.func 109) #[] #[.pointer (some ⟨bp2,0,none⟩)]] from rfl) ?_
   by_cases hr:sH yp=true
   · skip
     refine aN 1 rfl T.zero100 fun b2=>?_
     refine aL 7 [1] ?_
     refine aO (fU 1 T.agg26 rfl rfl rfl rfl) ?_
     refine cI rfl (Va _ yp _ _ _ _ sF sF sE sE hr) ?_
     refine aL 22 [0,1] ?_
     refine aO (fU 1 T.agg26 rfl rfl rfl rfl) ?_
     refine eC (fst:=[]) (cap:=[.pointer (some ⟨bp2,0,none⟩)]) 2 rfl T.fn109 rfl rfl (gp _ n2 bp2 _ _ _ yp yac yao pa ycc yoc pc pl hB rfl rfl hyc hyo hpa hpc hpl hy1 sE hRL hr sE sE) (sJ trivial) fun v9 G9 Ho9 hle9 hp=>?_
     obtain ⟨rfl,rfl⟩:=hp
     refine aL 12 [] ?_
     refine oM 53 ?_
     refine aB 3 [] ?_
     refine aO (fF rfl) ?_
     refine aZ 3 [] ?_
     refine cT (fun hc1=>?_) fun hc1=>?_
     refine bE 14 [] ?_
     rotate_left
     refine bE 7 [] ?_
     rotate_left
     · refine gR ?_
       exact ⟨by rw [TC hW (hx9 sE).1 (hx9 sE).2 hr sF];rfl,rfl⟩
     refine cN 27 rfl (show _=Value.int .i64 ((2:Nat):Int) from rfl) ?_
     refine cL ((2,G9)) ?_ ?_
     · exact ⟨by omega,aQ hgx hle9,fun _=>hx9 sE,fun _=>⟨hr,eP.1 sF⟩,fun h=>absurd h sE⟩
     show 3 - 2<3 - 1
     omega
   skip
   refine aN 1 rfl T.zero100 fun b2=>?_
   refine aL 7 [1] ?_
   refine aO (fU 1 T.agg26 rfl rfl rfl rfl) ?_
   refine cI rfl (XE _ yp _ _ _ _ sF sF sE sE hr) ?_
   refine aR 31 [1] ?_
   refine gR ?_
   exact ⟨by rw [TB hW (hx9 sE).1 (hx9 sE).2 sF];rfl,rfl⟩
 · refine aJ 14 [1] ?_
   refine aO (jA (α:=PF) T.sl96 rfl rfl hpA2 (show 0≤((2:Nat):Int)∧((2:Nat):Int)<((3:Nat):Int) by omega)) ?_
   refine aO (gZ T.agg100 rfl (jY hpA2 (show 0≤((2:Nat):Int)∧((2:Nat):Int)<((3:Nat):Int) by omega)) rfl) ?_
   refine gK 31 rfl (show _=Value.agg #[.int .i64 zp.ins,.int .i64 zp.regs,.slice zac zp.code.length zcc,.slice zao zp.outs.length zoc,.func (.func 110) #[] #[.pointer (some ⟨bp2,0,none⟩)]] from rfl) ?_
   by_cases hr:sH zp=true
   · skip
     refine aN 1 rfl T.zero100 fun b2=>?_
     refine aL 7 [1] ?_
     refine aO (fU 1 T.agg26 rfl rfl rfl rfl) ?_
     refine cI rfl (Va _ zp _ _ _ _ sF sF sE sE hr) ?_
     refine aL 22 [0,1] ?_
     refine aO (fU 1 T.agg26 rfl rfl rfl rfl) ?_
     refine eC (fst:=[]) (cap:=[.pointer (some ⟨bp2,0,none⟩)]) 2 rfl T.fn110 rfl rfl (gq _ bp2 _ _ _ zp zac zao pa zcc zoc pc pl hB rfl hzc hzo hpa hpc hpl hz1 sE hRL hr) (sJ trivial) fun v9 G9 Ho9 hle9 hp=>?_
     obtain ⟨rfl,rfl⟩:=hp
     refine aL 12 [] ?_
     refine oM 53 ?_
     refine aB 3 [] ?_
     refine aO (fF rfl) ?_
     refine aZ 3 [] ?_
     refine cT (fun hc1=>?_) fun hc1=>?_
     refine bE 14 [] ?_
     rotate_left
     refine bE 7 [] ?_
     rotate_left
     · refine gR ?_
       exact ⟨by rw [TE hW (hx9 sE).1 (hx9 sE).2 (hy9 sE).1 (hy9 sE).2 hr sF];rfl,rfl⟩
     refine cN 27 rfl (show _=Value.int .i64 ((3:Nat):Int) from rfl) ?_
     refine cL ((3,G9)) ?_ ?_
     · exact ⟨by omega,aQ hgx hle9,fun _=>hx9 sE,fun _=>hy9 sE,fun _=>⟨hr,eP.1 sF⟩⟩
     show 3 - 3<3 - 2
     omega
   skip
   refine aN 1 rfl T.zero100 fun b2=>?_
   refine aL 7 [1] ?_
   refine aO (fU 1 T.agg26 rfl rfl rfl rfl) ?_
   refine cI rfl (XE _ zp _ _ _ _ sF sF sE sE hr) ?_
   refine aR 31 [1] ?_
   refine gR ?_
   exact ⟨by rw [TD hW (hx9 sE).1 (hx9 sE).2 (hy9 sE).1 (hy9 sE).2 sF];rfl,rfl⟩
 refine bE 19 [0] ?_
 refine gR ?_
 exact ⟨by rw [Vq hW (hx9 sE).1 (hx9 sE).2 (hy9 sE).1 (hy9 sE).2 (hz9 sE).1 (hz9 sE).2],rfl⟩
end
theorem Ty {B:List U8} {regs:Int}:∀ (n:Nat) (s:RS) (acc:List Sl.Instr),(zB B regs n s acc).1.length≤acc.length+n
 | 0,s,acc=>aH _
 | n+1,s,acc=>by
   rw [zB]
   cases Uz B s regs with
   | mk i t =>
     dsimp only
     split
     · show acc.length≤_;omega
     have:=Ty (B:=B) (regs:=regs) n t (acc++[i])
     rw [aC] at this
     have e:[i].length=1:=rfl
     omega
theorem Tz {B:List U8} {regs:Int}:∀ (n:Nat) (s:RS) (acc:List Int),(Ca B regs n s acc).1.length≤acc.length+n
 | 0,s,acc=>aH _
 | n+1,s,acc=>by
   rw [Ca]
   cases wi B s 0 (regs - 1) with
   | mk i t =>
     dsimp only
     have:=Tz (B:=B) (regs:=regs) n t (acc++[i])
     rw [aC] at this
     have e:[i].length=1:=rfl
     omega
theorem BH {B:List U8}:∀ (n:Nat) (s:RS) (acc:List R2),(Kd B n s acc).1.length≤acc.length+n
 | 0,s,acc=>aH _
 | n+1,s,acc=>by
   rw [Kd]
   cases sg B s with
   | mk i t =>
     dsimp only
     cases sg B t with
     | mk j u =>
       dsimp only
       have:=BH (B:=B) n u (acc++[⟨i,j⟩])
       rw [aC] at this
       have e:[(⟨i,j⟩:R2)].length=1:=rfl
       omega
def Hk (p:PV):Prop:=p.code.length≤16384∧p.outs.length≤255
theorem Lh {B:List U8} {s:RS} (h:(uY B s).2.wr=false):Hk (uY B s).1:=by
 obtain ⟨ins,t1,e1⟩:∃ x t,wi B s 1 128=(x,t):=⟨_,_,rfl⟩
 obtain ⟨regs,t2,e2⟩:∃ x t,wi B t1 ins 128=(x,t):=⟨_,_,rfl⟩
 obtain ⟨x,t3,e3⟩:∃ x t,nx B t2 (fun x=>decide (x*256≤16384))=(x,t):=⟨_,_,rfl⟩
 obtain ⟨l,t4,e4⟩:∃ y t,nx B t3 (fun y=>decide (x*256+y≤16384))=(y,t):=⟨_,_,rfl⟩
 obtain ⟨r,t5,e5⟩:∃ r t,zB B regs (x*256+l).toNat t4 []=(r,t):=⟨_,_,rfl⟩
 obtain ⟨n,t6,e6⟩:∃ x t,wi B t5 1 128=(x,t):=⟨_,_,rfl⟩
 obtain ⟨q,t7,e7⟩:∃ r t,Ca B regs n.toNat t6 []=(r,t):=⟨_,_,rfl⟩
 rw [BF e1 e2 e3 e4 rfl e5 e6 rfl e7] at h ⊢
 replace h:t7.wr=false:=h
 have h6:t6.wr=false:=by
  cases hw:t6.wr with
  | false=>rfl
  | true =>
    have e:=Qq (B:=B) (regs:=regs) n.toNat t6 [] hw
    rw [e7] at e
    replace e:t7=t6:=e
    rw [e,hw] at h;cases h
 have h5:=PN e6 h6
 have h4:t4.wr=false:=by
  cases hw:t4.wr with
  | false=>rfl
  | true =>
    rw [BD _ _ _ hw] at e5
    have e:=(Prod.mk.inj e5).2
    have:=h5.2.2
    rw [←e,hw] at this;cases this
 have h3:=EI (B:=B) (s:=t3) (g:=fun y=>decide (x*256+y≤16384)) (by rw [e4];exact h4)
 have e9:=h3.2.2.2
 rw [e4] at e9
 have h9:=gP h3.2.2.1
 have hl:=(Prod.mk.inj e9).1
 rw [←hl] at h9
 have l1:=Ty (B:=B) (regs:=regs) (x*256+l).toNat t4 []
 have l2:=Tz (B:=B) (regs:=regs) n.toNat t6 []
 rw [e5] at l1
 rw [e7] at l2
 refine ⟨?_,?_⟩
 · show r.length≤16384
   have:r.length≤0+(x*256+l).toNat:=l1
   omega
 show q.length≤255
 have:q.length≤0+n.toNat:=l2
 omega
theorem FX {B:List U8} (h:(uQ B).2.wr=false):(uQ B).1.pl.length≤255∧Hk (uQ B).1.x∧Hk (uQ B).1.y∧Hk (uQ B).1.z:=by
 obtain ⟨k1,t1,e1⟩:∃ x t,wi B (Yr B 4) 1 8=(x,t):=⟨_,_,rfl⟩
 obtain ⟨k2,t2,e2⟩:∃ x t,wi B t1 1 8=(x,t):=⟨_,_,rfl⟩
 obtain ⟨n,t3,e3⟩:∃ x t,wi B t2 0 255=(x,t):=⟨_,_,rfl⟩
 obtain ⟨pl,t,e4⟩:∃ x u,Kd B n.toNat t3 []=(x,u):=⟨_,_,rfl⟩
 obtain ⟨x,t4,e5⟩:∃ x u,uY B t=(x,u):=⟨_,_,rfl⟩
 obtain ⟨y,t6,e6⟩:∃ x u,uY B t4=(x,u):=⟨_,_,rfl⟩
 obtain ⟨z,t7,e7⟩:∃ x u,uY B t6=(x,u):=⟨_,_,rfl⟩
 rw [UL e1 e2 e3 rfl e4 e5 e6 e7] at h ⊢
 replace h:(Ys B t7).wr=false:=h
 have h7:t7.wr=false:=by
  cases hw:t7.wr with
  | false=>rfl
  | true=>rw [FV hw,hw] at h;cases h
 have h6:=Qs (congrArg Prod.snd e7) h7
 have h4:=Qs (congrArg Prod.snd e6) h6
 have h3:=Qs (congrArg Prod.snd e5) h4
 have hn:t3.wr=false:=by
  cases hw:t3.wr with
  | false=>rfl
  | true =>
    have e:=FT (B:=B) n.toNat t3 [] hw
    rw [e4] at e
    replace e:t=t3:=e
    rw [e,hw] at h3;cases h3
 have hn2:=PN e3 hn
 have l1:=BH (B:=B) n.toNat t3 []
 rw [e4] at l1
 have px:=Lh (B:=B) (s:=t) (by rw [e5];exact h4)
 have py:=Lh (B:=B) (s:=t4) (by rw [e6];exact h6)
 have pz:=Lh (B:=B) (s:=t6) (by rw [e7];exact h7)
 rw [e5] at px
 rw [e6] at py
 rw [e7] at pz
 refine ⟨?_,px,py,pz⟩
 show pl.length≤255
 have:pl.length≤0+n.toNat:=l1
 omega
def YC:UV:=⟨0,0,[],⟨0,0,[],[]⟩,⟨0,0,[],[]⟩,⟨0,0,[],[]⟩⟩
def zP (B:List U8):UV×Int×Int:=
 if (uQ B).2.wr=true∨(uQ B).2.k<B.length then (YC,170,(uQ B).2.k)
 else if (tP (uQ B).1.k1 (uQ B).1.k2 (uQ B).1.pl (uQ B).1.x (uQ B).1.y (uQ B).1.z).2≠0 then (YC,(tP (uQ B).1.k1 (uQ B).1.k2 (uQ B).1.pl (uQ B).1.x (uQ B).1.y (uQ B).1.z).2,(tP (uQ B).1.k1 (uQ B).1.k2 (uQ B).1.pl (uQ B).1.x (uQ B).1.y (uQ B).1.z).1)
 else ((uQ B).1,0,0)
def UnitIn (G:Imm) (u:UV) (pa:Option Addr) (pc:Nat) (x y z:PH):Prop:=u.pl.length≤pc∧Arr G pa u.pl∧PHof G u.x x∧PHof G u.y y∧PHof G u.z z
theorem UnitIn.up {G G':Imm} {u:UV} {pa:Option Addr} {pc:Nat} {x y z:PH} (h:UnitIn G u pa pc x y z) (hle:G.le G'):UnitIn G' u pa pc x y z:=⟨h.1,h.2.1.up hle,h.2.2.1.up hle,h.2.2.2.1.up hle,h.2.2.2.2.up hle⟩
theorem UnitIn.no (G:Imm):UnitIn G YC none 0 ⟨0,0,none,0,0,none,0,0⟩ ⟨0,0,none,0,0,none,0,0⟩ ⟨0,0,none,0,0,none,0,0⟩:=
 ⟨aH _,kE _,⟨rfl,rfl,rfl,rfl,kE _,kE _⟩,⟨rfl,rfl,rfl,rfl,kE _,kE _⟩,rfl,rfl,rfl,rfl,kE _,kE _⟩
def UM (B:List U8) (v:Value) (G':Imm):Prop:=∃ (pa:Option Addr) (pc:Nat) (x y z:PH),v=.tuple #[BG (zP B).1.k1 (zP B).1.k2 pa (zP B).1.pl.length pc x y z,.agg #[.int .i64 (zP B).2.1,.int .i64 (zP B).2.2]]∧UnitIn G' (zP B).1 pa pc x y z
def Ws (u:UV):Prop:=u.pl.length≤255∧Hk u.x∧Hk u.y∧Hk u.z
theorem JE (B:List U8):Ws (zP B).1:=by
 have hno:Ws YC:=⟨by decide,⟨by decide,by decide⟩,⟨by decide,by decide⟩,by decide,by decide⟩
 unfold zP
 split
 · exact hno
 rename_i h
 split
 · exact hno
 exact FX (lG.2 fun h'=>h (.inl h'))
theorem km (G:Imm) (u:UV) (pa:Option Addr) (pc:Nat) (x y z:PH) (h:UnitIn G u pa pc x y z) (hs:Ws u) :
 Does Tryz.prog 13 [BG u.k1 u.k2 pa u.pl.length pc x y z] G [] (fun v G' Ho=>v=.tuple #[.int .i64 (tP u.k1 u.k2 u.pl u.x u.y u.z).1,.int .i64 (tP u.k1 u.k2 u.pl u.x u.y u.z).2]∧Ho=[]):=by
 obtain ⟨k1,k2,pl,xp,yp,zp⟩:=u
 obtain ⟨hpc,hpa,⟨e1,e2,e3,e4,hxc,hxo⟩,⟨f1,f2,f3,f4,hyc,hyo⟩,g1,g2,g3,g4,hzc,hzo⟩:=h
 obtain ⟨h1,⟨h2,h3⟩,⟨h4,h5⟩,h6,h7⟩:=hs
 dsimp only at *
 obtain ⟨xi,xr,xac,xcn,xcc,xao,xon,xoc⟩:=x
 obtain ⟨yi,yr,yac,ycn,ycc,yao,yon,yoc⟩:=y
 obtain ⟨zi,zr,zac,zcn,zcc,zao,zon,zoc⟩:=z
 dsimp only at *
 subst e1 e2 e3 e4 f1 f2 f3 f4 g1 g2 g3 g4
 exact kl G k1 k2 pl pa pc xp yp zp xac xao yac yao zac zao xcc xoc ycc yoc zcc zoc hpa hpc sE hxc hxo h2 sE hyc hyo h4 sE hzc hzo h6 sE
theorem UN {B:List U8} (h:(uQ B).2.wr=true∨(uQ B).2.k<B.length):zP B=(YC,170,((uQ B).2.k:Int)):=aF h
theorem XV {B:List U8} {u:UV} {t:RS} (e:uQ B=(u,t)) (h1:t.wr=false) (h2:t.k=B.length) (h3:(tP u.k1 u.k2 u.pl u.x u.y u.z).2≠0):zP B=(YC,(tP u.k1 u.k2 u.pl u.x u.y u.z).2,(tP u.k1 u.k2 u.pl u.x u.y u.z).1):=by
 unfold zP
 rw [e]
 rw [aD (fun h=>h.elim (fun h=>absurd (h1.symm.trans h) (by decide)) (fun h=>absurd h2 (Nat.ne_of_lt h))),aF h3]
theorem PR {B:List U8} {u:UV} {t:RS} (e:uQ B=(u,t)) (h1:t.wr=false) (h2:t.k=B.length) (h3:(tP u.k1 u.k2 u.pl u.x u.y u.z).2=0):zP B=(u,0,0):=by
 unfold zP
 rw [e]
 rw [aD (fun h=>h.elim (fun h=>absurd (h1.symm.trans h) (by decide)) (fun h=>absurd h2 (Nat.ne_of_lt h))),aD (not_not_intro h3)]
section
attribute [local irreducible] tP uQ
theorem c17 (G:Imm) (a:Option Addr) (c:Nat) (B:List U8) (hA:Arr G a B) (hc:B.length≤c) (hB:Bytes B) (hl:B.length≤65520) :
 Does Tryz.prog 17 [.slice a B.length c] G [] (fun v G' Ho=>UM B v G'∧Ho=[]):=by
 refine D0 Tryz.func17 Tryz.ntmps17 fun w=>?_
 refine aJ 2 [] ?_
 refine aN 0 rfl T.zero28 fun b1=>?_
 refine aN 1 rfl T.zero42 fun b2=>?_
 refine aL 5 [] ?_
 refine bX 9 rfl (c66 _ a c B hA hc hB hl) fun v1 G1 Ho1 hle1 hp=>?_
 obtain ⟨u,t,hd,htk,rfl,⟨hbad,rfl⟩ | ⟨hw,hte,pa,pc,h0,h1,h2,rfl,hpc,hpa,hx,hy,hz⟩⟩:=hp
 · refine aB 3 [] ?_
   refine aN 2 rfl T.zero28 fun b3=>?_
   refine aN 3 rfl T.zero42 fun b4=>?_
   refine aZ 14 [2,3,3,1] ?_
   refine gQ [0,1,2,3] [(1,3),(0,2)] T.mixed rfl ?_
   refine dN 0 [] rfl (bO (cs:=[_,_,_,_,_,_,_,_,_,_,_,_,_,_,_]) T.st28 rfl rfl rfl) ?_
   refine dE [[1,3]] ?_
   refine bV 2 ?_
   refine aB 1 [0] ?_
   refine cG 3 ?_
   refine aB 1 [1] ?_
   refine eZ ?_
   refine dX 3 [] ?_
   refine fS (.inr rfl) (Ho:=Hp.only _ []) rfl (.agg 0 rfl rfl T.agg28) (.agg 1 rfl rfl T.agg42) (aT _ _) ?_
   refine ⟨?_,rfl⟩
   unfold UM
   rw [UN (by rw [hd];exact hbad),hd]
   exact ⟨none,0,_,_,_,rfl,UnitIn.no _⟩
 have hU:UnitIn G1 u pa pc h0 h1 h2:=⟨hpc,hpa,hx,hy,hz⟩
 have hsh:Ws u:=by have:=FX (B:=B) (by rw [hd];exact hw);rw [hd] at this;exact this
 refine aB 3 [] ?_
 refine aN 2 rfl T.zero28 fun b3=>?_
 refine aN 3 rfl T.zero42 fun b4=>?_
 refine aL 18 [2,3,3,0,2] ?_
 refine bX 4 rfl (km _ u pa pc h0 h1 h2 sF hsh) fun v2 G2 Ho2 hle2 hp=>?_
 obtain ⟨rfl,rfl⟩:=hp
 replace hpa:=hpa.up hle2
 refine aZ 14 [] ?_
 refine cT (fun hc1=>?_) fun hc1=>?_
 refine aJ 2 [] ?_
 refine aO (bO (cs:=[_,_,_,_,_,_,_,_,_,_,_,_,_,_,_]) T.st28 rfl rfl rfl) ?_
 refine aB 2 [] ?_
 refine aO (bO (cs:=[_,_]) T.st42 rfl rfl rfl) ?_
 refine aR 6 [0,1] ?_
 rotate_left
 refine aJ 5 [2] ?_
 refine aO (bO (cs:=[_,_]) T.st42 rfl rfl rfl) ?_
 refine aR 5 [0,1] ?_
 rotate_left
 · refine fS (.inr rfl) (Ho:=Hp.only _ []) rfl (.agg 0 rfl rfl T.agg28) (.agg 1 rfl rfl T.agg42) (aT _ _) ?_
   refine ⟨?_,rfl⟩
   unfold UM
   rw [XV hd hw hte sF]
   exact ⟨none,0,_,_,_,rfl,UnitIn.no _⟩
 refine fS (.inr rfl) (Ho:=Hp.only _ []) rfl (.agg 0 rfl rfl T.agg28) (.agg 1 rfl rfl T.agg42) (aT _ _) ?_
 refine ⟨?_,rfl⟩
 unfold UM
 rw [PR hd hw hte (eP.1 sF)]
 exact ⟨pa,pc,h0,h1,h2,rfl,hU.up hle2⟩
end
theorem bv (G:Imm) (k1 k2:Int) (pa:Option Addr) (pn pc:Nat) (x y z:PH) (hx:x.cn≤1099511627776) (hy:y.cn≤1099511627776) (hz:z.cn≤1099511627776) :
 Does Tryz.prog 11 [BG k1 k2 pa pn pc x y z] G [] (fun v G' Ho=>v=.bool (decide (Bz pn [x,y,z]=true))∧G'=G∧Ho=[]):=
 (c11 G k1 k2 pa pn pc x y z hx hy hz).mono fun v G' Ho _ h=>⟨h.1.trans (by cases Bz pn [x,y,z] <;> rfl),h.2⟩
section
attribute [local irreducible] tP uQ Bz
end
theorem PS {B:List U8} (h:(zP B).2.1=0):(tP (zP B).1.k1 (zP B).1.k2 (zP B).1.pl (zP B).1.x (zP B).1.y (zP B).1.z).2=0:=by
 by_cases h1:(uQ B).2.wr=true∨(uQ B).2.k<B.length
 · unfold zP at h
   rw [aF h1] at h
   exact absurd h (show ¬((170:Int)=0) by decide)
 by_cases h2:(tP (uQ B).1.k1 (uQ B).1.k2 (uQ B).1.pl (uQ B).1.x (uQ B).1.y (uQ B).1.z).2≠0
 · unfold zP at h
   rw [aD h1,aF h2] at h
   exact absurd h h2
 unfold zP
 rw [aD h1,aD h2]
 exact eP.1 h2
theorem kn (G:Imm) (a:Option Addr) (c:Nat) (B:List U8) (hA:Arr G a B) (hc:B.length≤c) (hB:Bytes B) (hl:B.length≤65520) :
 Does Tryz.prog 17 [.slice a B.length c] G [] (fun v G' Ho=>∃ (k1 k2 e at':Int) (pa:Option Addr) (pc:Nat) (l:List R2) (x y z:PV) (xac xao yac yao zac zao:Option Addr) (xcc xoc ycc yoc zcc zoc:Nat),v=.tuple #[.agg #[.int .i64 k1,.int .i64 k2,.slice pa l.length pc,.int .i64 x.ins,.int .i64 x.regs,.slice xac x.code.length xcc,.slice xao x.outs.length xoc,.int .i64 y.ins,.int .i64 y.regs,.slice yac y.code.length ycc,.slice yao y.outs.length yoc,.int .i64 z.ins,.int .i64 z.regs,.slice zac z.code.length zcc,.slice zao z.outs.length zoc],.agg #[.int .i64 e,.int .i64 at']]∧(e=0→(tP k1 k2 l x y z).2=0)∧(Arr G' xac x.code∧Arr G' xao x.outs∧Arr G' yac y.code∧Arr G' yao y.outs∧Arr G' zac z.code∧Arr G' zao z.outs)∧(x.code.length≤16384∧y.code.length≤16384∧z.code.length≤16384)∧Ho=[]):=
 (c17 G a c B hA hc hB hl).mono fun v G' Ho _ ⟨⟨pa,pc,⟨xi,xr,xac,xn,xcc,xao,xm,xoc⟩,⟨yi,yr,yac,yn,ycc,yao,ym,yoc⟩,⟨zi,zr,zac,zn,zcc,zao,zm,zoc⟩,e,hu⟩,e0⟩=>by
  have hs:=JE B
  have hz:=@PS B
  obtain ⟨h1,h2,h3,h4,h5⟩:=hu
  obtain ⟨rfl,rfl,rfl,rfl,q1,q2⟩:=h3
  obtain ⟨rfl,rfl,rfl,rfl,q3,q4⟩:=h4
  obtain ⟨rfl,rfl,rfl,rfl,q5,q6⟩:=h5
  exact ⟨_,_,_,_,pa,pc,_,_,_,_,xac,xao,yac,yao,zac,zao,xcc,xoc,ycc,yoc,zcc,zoc,e,hz,⟨q1,q2,q3,q4,q5,q6⟩,⟨hs.2.1.1,hs.2.2.1.1,hs.2.2.2.1⟩,e0⟩
theorem JF {k1 k2:Int} {l:List R2} (h:¬sU k1 k2 l=0):sU k1 k2 l=70∨sU k1 k2 l=71:=by
 unfold sU at h ⊢
 repeat' split
 all_goals first | exact .inl rfl | exact .inr rfl | skip
 all_goals (rename_i h1 h2 h3 h4;rw [aD h1,aD h2,aD h3,aD h4] at h;exact absurd rfl h)
theorem Ck {l:List Int} (h:∀ x∈l,-9223372036854775808≤x∧x≤9223372036854775807) (n:Nat):∀ x∈l.take n,-9223372036854775808≤x∧x≤9223372036854775807:=fun x hx=>h x (nQ hx)
section
attribute [local irreducible] sI pb tY tF p2 cst wA xH sH tP vN ev sU tL uE tQ zP uQ Bz
theorem ko (G:Imm) (u1 u2:Int) (pa:Option Addr) (pd:Nat) (ul:List R2) (x y z:PV) (xac xao yac yao zac zao:Option Addr) (xcc xoc ycc yoc zcc zoc:Nat) (lx:x.code.length≤16384) (ly:y.code.length≤16384) (lz:z.code.length≤16384) (hL:Bz ul.length [⟨x.ins,x.regs,xac,x.code.length,xcc,xao,x.outs.length,xoc⟩,⟨y.ins,y.regs,yac,y.code.length,ycc,yao,y.outs.length,yoc⟩,⟨z.ins,z.regs,zac,z.code.length,zcc,zao,z.outs.length,zoc⟩]=true) :
 Does Tryz.prog 11 [.agg #[.int .i64 u1,.int .i64 u2,.slice pa ul.length pd,.int .i64 x.ins,.int .i64 x.regs,.slice xac x.code.length xcc,.slice xao x.outs.length xoc,.int .i64 y.ins,.int .i64 y.regs,.slice yac y.code.length ycc,.slice yao y.outs.length yoc,.int .i64 z.ins,.int .i64 z.regs,.slice zac z.code.length zcc,.slice zao z.outs.length zoc]] G [] (fun v G' Ho=>v=.bool (decide (1=1))∧G'=G∧Ho=[]):=
 (bv G u1 u2 pa ul.length pd ⟨x.ins,x.regs,xac,x.code.length,xcc,xao,x.outs.length,xoc⟩ ⟨y.ins,y.regs,yac,y.code.length,ycc,yao,y.outs.length,yoc⟩ ⟨z.ins,z.regs,zac,z.code.length,zcc,zao,z.outs.length,zoc⟩ (aV lx (show 16384≤1099511627776 by decide)) (aV ly (show 16384≤1099511627776 by decide)) (aV lz (show 16384≤1099511627776 by decide))).mono fun v G' Ho _ h=>⟨h.1.trans (by rw [cA hL,cA rfl]),h.2⟩
theorem kp (G:Imm) (u1 u2:Int) (pa:Option Addr) (pd:Nat) (ul:List R2) (x y z:PV) (xac xao yac yao zac zao:Option Addr) (xcc xoc ycc yoc zcc zoc:Nat) (lx:x.code.length≤16384) (ly:y.code.length≤16384) (lz:z.code.length≤16384) (hL:¬Bz ul.length [⟨x.ins,x.regs,xac,x.code.length,xcc,xao,x.outs.length,xoc⟩,⟨y.ins,y.regs,yac,y.code.length,ycc,yao,y.outs.length,yoc⟩,⟨z.ins,z.regs,zac,z.code.length,zcc,zao,z.outs.length,zoc⟩]=true) :
 Does Tryz.prog 11 [.agg #[.int .i64 u1,.int .i64 u2,.slice pa ul.length pd,.int .i64 x.ins,.int .i64 x.regs,.slice xac x.code.length xcc,.slice xao x.outs.length xoc,.int .i64 y.ins,.int .i64 y.regs,.slice yac y.code.length ycc,.slice yao y.outs.length yoc,.int .i64 z.ins,.int .i64 z.regs,.slice zac z.code.length zcc,.slice zao z.outs.length zoc]] G [] (fun v G' Ho=>v=.bool (decide (1=2))∧G'=G∧Ho=[]):=
 (bv G u1 u2 pa ul.length pd ⟨x.ins,x.regs,xac,x.code.length,xcc,xao,x.outs.length,xoc⟩ ⟨y.ins,y.regs,yac,y.code.length,ycc,yao,y.outs.length,yoc⟩ ⟨z.ins,z.regs,zac,z.code.length,zcc,zao,z.outs.length,zoc⟩ (aV lx (show 16384≤1099511627776 by decide)) (aV ly (show 16384≤1099511627776 by decide)) (aV lz (show 16384≤1099511627776 by decide))).mono fun v G' Ho _ h=>⟨h.1.trans (by rw [bQ hL];rfl),h.2⟩
theorem UO (G:Imm) (p:Option Addr) (pc:Nat) (xs:List Int) (hp:Arr G p xs) (n:Nat) (hn:n≤xs.length) (h1:n≤1048576) (hxf:∀ x∈xs,-9223372036854775808≤x∧x≤9223372036854775807) :
 Does Tryz.prog 38 [.slice (subA p pc 0 1) n pc] G [] (fun v G' Ho=>∃ (b:Option Addr) (r:List IV) (c':Nat),v=.slice b r.length c'∧Arr G' b r∧Bigs G' r (xs.take n)∧r.length≤c'∧Ho=[]):=by
 have h:=c38 G (subA p pc 0 1) pc (xs.take n) (SC hp n) (by rw [bG];omega) (Ck hxf n)
 rwa [bG,dG hn] at h
theorem c7G (hWorks:∀ G,TabOk G→Does Tryz.prog 10 [] G [] (fun v G' Ho=>v=.bool (decide (1=1))∧G'=G∧Ho=[])) (G:Imm) (hT:TabOk G) (B:List U8) (k1 k2:Int) (l:List R2) (xs ys:List Int) (a b p q:Option Addr) (c d pc qc:Nat) (hgo:¬(B.length≤4000∧8≤xs.length∧8≤ys.length∧l.length≤300)) :
 Does Tryz.prog 7 [.slice a B.length c,.int .i64 k1,.int .i64 k2,.slice b l.length d,.slice p xs.length pc,.slice q ys.length qc] G [] (fun v G' Ho=>v=.bool true∧Ho=[]):=by
 refine fK Tryz.func7 rfl Tryz.ntmps7 rfl fun w=>?_
 by_cases h1:4000<B.length
 · refine aJ 8 [] ?_
   refine cI rfl (hWorks _ hT) ?_
   refine eG rfl (fF rfl) ?_
   refine aL 12 [0] ?_
   refine mE 21 rfl tJ ?_
   refine aR 24 [1] ?_
   refine cP ?_
   all_goals exact ⟨rfl,rfl⟩
 by_cases h2:xs.length<8
 · refine aJ 8 [] ?_
   refine cI rfl (hWorks _ hT) ?_
   refine eG rfl (fF rfl) ?_
   refine aL 12 [0] ?_
   refine mA 21 rfl tJ ?_
   refine aB 8 [] ?_
   refine mE 26 rfl tJ ?_
   refine aR 19 [1] ?_
   refine cP ?_
   all_goals exact ⟨rfl,rfl⟩
 by_cases h3:ys.length<8
 · refine aJ 8 [] ?_
   refine cI rfl (hWorks _ hT) ?_
   refine eG rfl (fF rfl) ?_
   refine aL 12 [0] ?_
   refine mA 21 rfl tJ ?_
   refine aB 8 [] ?_
   refine mA 26 rfl tJ ?_
   refine aB 8 [] ?_
   refine mE 31 rfl tJ ?_
   refine aR 14 [1] ?_
   refine cP ?_
   all_goals exact ⟨rfl,rfl⟩
 have h4:300<l.length:=sE
 refine aJ 8 [] ?_
 refine cI rfl (hWorks _ hT) ?_
 refine eG rfl (fF rfl) ?_
 refine aL 12 [0] ?_
 refine mA 21 rfl tJ ?_
 refine aB 8 [] ?_
 refine mA 26 rfl tJ ?_
 refine aB 8 [] ?_
 refine mA 31 rfl tJ ?_
 refine aR 17 [1] ?_
 refine cP ?_
 all_goals exact ⟨rfl,rfl⟩
theorem c7Y (hWorks:∀ G,TabOk G→Does Tryz.prog 10 [] G [] (fun v G' Ho=>v=.bool (decide (1=1))∧G'=G∧Ho=[])) (G:Imm) (hT:TabOk G) (B:List U8) (k1 k2:Int) (l:List R2) (xs ys:List Int) (a b p q:Option Addr) (c d pc qc:Nat) (hA:Arr G a B) (hc:B.length≤c) (hB:Bytes B) (hl:Arr G b l) (hld:l.length≤d) (hp:Arr G p xs) (hq:Arr G q ys) (hxl:xs.length≤1048576) (hyl:ys.length≤1048576) (hpc:xs.length≤pc) (hqc:ys.length≤qc) (hxf:∀ x∈xs,-9223372036854775808≤x∧x≤9223372036854775807) (hyf:∀ x∈ys,-9223372036854775808≤x∧x≤9223372036854775807) (g1:B.length≤4000) (g2:8≤xs.length) (g3:8≤ys.length) (g4:l.length≤300) :
 Does Tryz.prog 7 [.slice a B.length c,.int .i64 k1,.int .i64 k2,.slice b l.length d,.slice p xs.length pc,.slice q ys.length qc] G [] (fun v G' Ho=>v=.bool true∧Ho=[]):=by
 refine fK Tryz.func7 rfl Tryz.ntmps7 rfl fun w=>?_
 refine aJ 8 [] ?_
 refine cI rfl (hWorks _ hT) ?_
 refine eG rfl (fF rfl) ?_
 refine aL 12 [0] ?_
 refine mA 21 rfl tJ ?_
 refine aB 8 [] ?_
 refine mA 26 rfl tJ ?_
 refine aB 8 [] ?_
 refine mA 31 rfl tJ ?_
 refine aL 15 [0] ?_
 refine bX 9 rfl (kn _ a c B hA hc hB sE) fun v1 G1 Ho1 hle1 hpp=>?_
 obtain ⟨u1,u2,e,at',pa,pd,ul,x,y,z,xac,xao,yac,yao,zac,zao,xcc,xoc,ycc,yoc,zcc,zoc,rfl,hz0,⟨hxc,hxo,hyc,hyo,hzc,hzo⟩,⟨lx,ly,lz⟩,rfl⟩:=hpp
 replace hl:=hl.up hle1
 replace hp:=hp.up hle1
 replace hq:=hq.up hle1
 refine aB 3 [] ?_
 refine aN 0 rfl T.zero28 fun b1=>?_
 refine aN 1 rfl T.zero42 fun b2=>?_
 refine aZ 4 [0,1] ?_
 refine Hs (ι:=Imm) (fun Gx=>([(1,.int .i64 k1),(2,.int .i64 k2),(3,.slice b l.length d),(4,.slice p xs.length pc),(5,.slice q ys.length qc),(13,.pointer (some ⟨b1,0,none⟩))],[(0,some b1,.cells #[.int .i64 u1,.int .i64 u2,.slice pa ul.length pd,.int .i64 x.ins,.int .i64 x.regs,.slice xac x.code.length xcc,.slice xao x.outs.length xoc,.int .i64 y.ins,.int .i64 y.regs,.slice yac y.code.length ycc,.slice yao y.outs.length yoc,.int .i64 z.ins,.int .i64 z.regs,.slice zac z.code.length zcc,.slice zao z.outs.length zoc] 28)])) (fun Gx=>Gx) (fun Gx=>G1.le Gx) ?_ fun Gx=>fun (hk:G1.le Gx)=>?_
 · by_cases hz1:e=0∧at'=0
   · obtain ⟨rfl,rfl⟩:=hz1
     have hU:=hz0 rfl
     obtain ⟨hP1,hP2,_,_⟩:=vE (Cw hU).1
     unfold uN at hP1 hP2
     obtain ⟨n1,rfl⟩:=kK (show 0≤u1 by omega)
     obtain ⟨n2,rfl⟩:=kK (show 0≤u2 by omega)
     have hU2:(tP ((xs.take n1).length:Int) ((ys.take n2).length:Int) ul x y z).2=0:=by
      rw [bG,bG,dG sE,dG sE];exact hU
     have hz3:([0,0]:List Int)=[0,0]:=rfl
     by_cases hL:Bz ul.length [⟨x.ins,x.regs,xac,x.code.length,xcc,xao,x.outs.length,xoc⟩,⟨y.ins,y.regs,yac,y.code.length,ycc,yao,y.outs.length,yoc⟩,⟨z.ins,z.regs,zac,z.code.length,zcc,zao,z.outs.length,zoc⟩]=true
     · refine dF ?_
       refine gQ [0,1] [] T.mixed rfl ?_
       refine gO 0 [1] [1] ?_
       refine dN 1 [] rfl (bO (cs:=[_,_]) T.st42 rfl rfl rfl) ?_
       refine dN 2 [] rfl (rJ [_,_] [_,_] T.ai42 rfl rfl rfl rfl) ?_
       refine gO 3 [] [] ?_
       refine oA 44 rfl tJ ?_
       refine gG 4 [0] sG rfl rfl rfl rfl (oN 0 T.agg28 rfl rfl rfl) ?_
       refine bV 5 ?_
       refine aB 1 [] ?_
       refine cI rfl (ko _ (n1:Int) (n2:Int) pa pd ul x y z xac xao yac yao zac zao xcc xoc ycc yoc zcc zoc lx ly lz hL) ?_
       refine bD ?_
       refine gG 6 [] sG rfl rfl rfl rfl (fF rfl) ?_
       refine gO 7 [] [] ?_
       refine gO 8 [] [] ?_
       refine Gm.no 49 rfl tJ ?_
       refine iO 9 sG rfl rfl rfl rfl ?_
       refine iO 10 sG rfl rfl rfl rfl ?_
       refine iO 11 sG rfl rfl rfl rfl ?_
       refine iO 12 sG rfl rfl rfl rfl ?_
       refine iO 13 sG rfl rfl rfl rfl ?_
       refine iO 14 sG rfl rfl rfl rfl ?_
       refine iO 15 sG rfl rfl rfl rfl ?_
       refine iO 16 sG rfl rfl rfl rfl ?_
       refine iO 17 sG rfl rfl rfl rfl ?_
       refine iO 18 sG rfl rfl rfl rfl ?_
       refine iO 19 sG rfl rfl rfl rfl ?_
       refine iO 20 sG rfl rfl rfl rfl ?_
       refine iO 21 sG rfl rfl rfl rfl ?_
       refine gO 22 [] [] ?_
       refine cZ ?_
       refine dX 3 [0] ?_
       refine lZ (G1) ?_ rfl ⟨rfl,rfl,rfl,rfl,rfl,rfl,trivial⟩ ⟨rfl,trivial⟩
       exact bK _
     refine dF ?_
     refine gQ [0,1] [] T.mixed rfl ?_
     refine gO 0 [1] [1] ?_
     refine dN 1 [] rfl (bO (cs:=[_,_]) T.st42 rfl rfl rfl) ?_
     refine dN 2 [] rfl (rJ [_,_] [_,_] T.ai42 rfl rfl rfl rfl) ?_
     refine gO 3 [] [] ?_
     refine oA 44 rfl tJ ?_
     refine gG 4 [0] sG rfl rfl rfl rfl (oN 0 T.agg28 rfl rfl rfl) ?_
     refine bV 5 ?_
     refine aB 1 [] ?_
     refine cI rfl (kp _ (n1:Int) (n2:Int) pa pd ul x y z xac xao yac yao zac zao xcc xoc ycc yoc zcc zoc lx ly lz hL) ?_
     refine bD ?_
     refine gG 6 [] sG rfl rfl rfl rfl (fF rfl) ?_
     refine gO 7 [] [] ?_
     refine gO 8 [] [] ?_
     refine oA 49 rfl tJ ?_
     refine gG 9 [0] sG rfl rfl rfl rfl (oN 0 T.agg28 rfl rfl rfl) ?_
     refine gG 10 [] sG rfl rfl rfl rfl (cV rfl) ?_
     refine gG 11 [] sG rfl rfl rfl rfl (fI T.fa28_0 rfl) ?_
     refine gG 12 [0] sG rfl rfl rfl rfl (jT 0 T.one3 rfl rfl rfl) ?_
     refine gG 13 [] sG rfl rfl rfl rfl (pU T.sl66 rfl rfl sE) ?_
     refine gG 15 [] sG rfl rfl rfl rfl (cV rfl) ?_
     refine gG 16 [] sG rfl rfl rfl rfl (fI T.fa28_1 rfl) ?_
     refine gG 17 [0] sG rfl rfl rfl rfl (jT 0 T.one3 rfl rfl rfl) ?_
     refine gG 18 [] sG rfl rfl rfl rfl (pU T.sl66 rfl rfl sE) ?_
     refine bV 14 ?_
     refine aB 1 [] ?_
     refine bX 9 rfl (UO _ p pc xs hp n1 sE sE hxf) fun v2 G2 Ho2 hle2 hpp=>?_
     obtain ⟨s2,r2,d2,rfl,hs2,hB2,hd2,rfl⟩:=hpp
     refine bD ?_
     refine bV 19 ?_
     refine aB 1 [] ?_
     refine bX 9 rfl (UO _ q qc ys (hq.up hle2) n2 sE sE hyf) fun v3 G3 Ho3 hle3 hpp=>?_
     obtain ⟨s3,r3,d3,rfl,hs3,hB3,hd3,rfl⟩:=hpp
     have h13:=aQ hle2 hle3
     refine bD ?_
     refine bV 20 ?_
     refine aB 1 [] ?_
     refine bX 9 rfl (c37 _ (n1:Int) (n2:Int) pa pd ul x y z xac xao yac yao zac zao xcc xoc ycc yoc zcc zoc (xs.take n1) (ys.take n2) _ _ _ _ _ _ (hxc.up h13) (hxo.up h13) (hyc.up h13) (hyo.up h13) (hzc.up h13) (hzo.up h13) (hs2.up hle3) (hB2.up hle3) hs3 hB3 hU2 (Ck hxf _) (Ck hyf _)) fun v4 G4 Ho4 hle4 hpp=>?_
     obtain ⟨rfl,rfl⟩:=hpp
     refine bD ?_
     refine gG 21 [] sG rfl rfl rfl rfl (fF rfl) ?_
     refine gO 22 [] [] ?_
     refine cZ ?_
     refine dX 3 [0] ?_
     refine lZ (G4) ?_ rfl ⟨rfl,rfl,rfl,rfl,rfl,rfl,trivial⟩ ⟨rfl,trivial⟩
     exact aQ h13 hle4
   have hz2:¬([e,at']=[0,0]):=fun h=>hz1 (by simpa using h)
   refine dF ?_
   refine gQ [0,1] [] T.mixed rfl ?_
   refine gO 0 [1] [1] ?_
   refine dN 1 [] rfl (bO (cs:=[_,_]) T.st42 rfl rfl rfl) ?_
   refine dN 2 [] rfl (rJ [_,_] [_,_] T.ai42 rfl rfl rfl rfl) ?_
   refine gO 3 [] [] ?_
   refine Gm.no 44 rfl tJ ?_
   refine iO 4 sG rfl rfl rfl rfl ?_
   refine iO 5 sG rfl rfl rfl rfl ?_
   refine iO 6 sG rfl rfl rfl rfl ?_
   refine gO 7 [] [] ?_
   refine gO 8 [] [] ?_
   refine iO 9 sG rfl rfl rfl rfl ?_
   refine iO 10 sG rfl rfl rfl rfl ?_
   refine iO 11 sG rfl rfl rfl rfl ?_
   refine iO 12 sG rfl rfl rfl rfl ?_
   refine iO 13 sG rfl rfl rfl rfl ?_
   refine iO 14 sG rfl rfl rfl rfl ?_
   refine iO 15 sG rfl rfl rfl rfl ?_
   refine iO 16 sG rfl rfl rfl rfl ?_
   refine iO 17 sG rfl rfl rfl rfl ?_
   refine iO 18 sG rfl rfl rfl rfl ?_
   refine iO 19 sG rfl rfl rfl rfl ?_
   refine iO 20 sG rfl rfl rfl rfl ?_
   refine iO 21 sG rfl rfl rfl rfl ?_
   refine gO 22 [] [] ?_
   refine cZ ?_
   refine dX 3 [0] ?_
   refine lZ (G1) ?_ rfl ⟨rfl,rfl,rfl,rfl,rfl,rfl,trivial⟩ ⟨rfl,trivial⟩
   exact bK _
 replace hl:=hl.up hk
 replace hp:=hp.up hk
 replace hq:=hq.up hk
 by_cases hW:sU k1 k2 l=0
 · obtain ⟨hP1,hP2,hln,_⟩:=vE hW
   unfold uN at hP1 hP2
   obtain ⟨n1,rfl⟩:=kK (show 0≤k1 by omega)
   obtain ⟨n2,rfl⟩:=kK (show 0≤k2 by omega)
   refine aJ 5 [] ?_
   refine bX 9 rfl (bu _ (hT.up (aQ hle1 hk)) n1 n2 _ _ l hl sE hld hW) fun v5 G5 Ho5 hle5 hpp=>?_
   obtain ⟨X,Y,Z,ta,xc,xo,yc,yo,zc,zo,td,xcc',xoc',ycc',yoc',zcc',zoc',tj,zk,rfl,hU,⟨hRx,hRy,hRz⟩,hto,hXc,hXo,hYc,hYo,hZc,hZo,rfl⟩:=hpp
   refine gB 16 rfl hZo fun G6 hle6 hZoA=>?_
   have h56:=aQ hle5 hle6
   replace hp:=hp.up h56
   replace hq:=hq.up h56
   have hU2:(tP ((xs.take n1).length:Int) ((ys.take n2).length:Int) l X Y Z).2=0:=by
    rw [bG,bG,dG sE,dG sE,hU]
   refine aZ 18 [0,0] ?_
   refine gQ [11,0] [] T.mixed rfl ?_
   refine gO 0 [0] [0] ?_
   refine gO 1 [] [] ?_
   refine gO 2 [] [] ?_
   refine dN 3 [] rfl (pU T.sl66 rfl rfl sE) ?_
   refine gO 5 [] [] ?_
   refine gO 6 [] [] ?_
   refine dN 7 [] rfl (pU T.sl66 rfl rfl sE) ?_
   refine bV 4 ?_
   refine bX 9 rfl (UO _ p pc xs hp n1 sE sE hxf) fun v7 G7 Ho7 hle7 hpp=>?_
   obtain ⟨s2,r2,d2,rfl,hs2,hB2,hd2,rfl⟩:=hpp
   refine bD ?_
   refine bV 8 ?_
   refine bX 9 rfl (UO _ q qc ys (hq.up hle7) n2 sE sE hyf) fun v8 G8 Ho8 hle8 hpp=>?_
   obtain ⟨s3,r3,d3,rfl,hs3,hB3,hd3,rfl⟩:=hpp
   have h68:=aQ hle6 (aQ hle7 hle8)
   have h78:=aQ hle7 hle8
   refine bD ?_
   refine bV 9 ?_
   refine bX 9 rfl (c37 _ (n1:Int) (n2:Int) ta td l X Y Z xc xo yc yo zc zo xcc' xoc' ycc' yoc' zcc' zoc' (xs.take n1) (ys.take n2) _ _ _ _ _ _ (hXc.up h68) (hXo.up h68) (hYc.up h68) (hYo.up h68) (hZc.up h68) (hZoA.up h78) (hs2.up hle8) (hB2.up hle8) hs3 hB3 hU2 (Ck hxf _) (Ck hyf _)) fun v9 G9 Ho9 hle9 hpp=>?_
   obtain ⟨rfl,rfl⟩:=hpp
   refine bD ?_
   refine gO 10 [] [] ?_
   refine cZ ?_
   refine dX 2 [] ?_
   refine cP ?_
   all_goals exact ⟨by rw [cA rfl],rfl⟩
 have hw2:=JF hW
 refine aJ 5 [] ?_
 refine bX 9 rfl (jx _ k1 k2 _ _ l hl sE hld hW) fun v5 G5 Ho5 hle5 hpp=>?_
 obtain ⟨rfl,rfl⟩:=hpp
 refine aL 20 [0,1] ?_
 apply dP 3 75 78 rfl
 intro hg1
 refine aB 5 [] ?_
 exact iF 3 0 rfl rfl rfl rfl rfl
 intro hg1
 refine aB 3 [] ?_
 exact iF 3 0 rfl rfl rfl rfl rfl
 refine aR 5 [] ?_
 refine cP ?_
 exact ⟨by rw [cA hw2],rfl⟩
theorem c7 (hWorks:∀ G,TabOk G→Does Tryz.prog 10 [] G [] (fun v G' Ho=>v=.bool (decide (1=1))∧G'=G∧Ho=[])) (G:Imm) (hT:TabOk G) (B:List U8) (k1 k2:Int) (l:List R2) (xs ys:List Int) (a b p q:Option Addr) (c d pc qc:Nat) (hA:Arr G a B) (hc:B.length≤c) (hB:Bytes B) (hl:Arr G b l) (hld:l.length≤d) (hp:Arr G p xs) (hq:Arr G q ys) (hl1:B.length≤1048576) (hxl:xs.length≤1048576) (hyl:ys.length≤1048576) (hpc:xs.length≤pc) (hqc:ys.length≤qc) (hxf:∀ x∈xs,-9223372036854775808≤x∧x≤9223372036854775807) (hyf:∀ x∈ys,-9223372036854775808≤x∧x≤9223372036854775807) :
 Does Tryz.prog 7 [.slice a B.length c,.int .i64 k1,.int .i64 k2,.slice b l.length d,.slice p xs.length pc,.slice q ys.length qc] G [] (fun v G' Ho=>v=.bool true∧Ho=[]):=by
 by_cases hgo:B.length≤4000∧8≤xs.length∧8≤ys.length∧l.length≤300
 · exact c7Y hWorks G hT B k1 k2 l xs ys a b p q c d pc qc hA hc hB hl hld hp hq hxl hyl hpc hqc hxf hyf hgo.1 hgo.2.1 hgo.2.2.1 hgo.2.2.2
 exact c7G hWorks G hT B k1 k2 l xs ys a b p q c d pc qc hgo
end
def wb (x:Int):U8:=⟨IntKind.u8.wrap x⟩
def XW (n:Int):List U8:=[⟨n / 256⟩,⟨n % 256⟩]
def QC (i:Sl.Instr):List U8:=[wb i.op,wb i.to,wb i.a,wb i.b]++XW i.c
def Rj (p:PV):List U8:=[wb p.ins,wb p.regs]++XW p.code.length++p.code.flatMap QC++[wb p.outs.length]++p.outs.map wb
theorem UP (i:Sl.Instr):(QC i).length=6:=rfl
theorem BI (l:List Sl.Instr):(l.flatMap QC).length=6*l.length:=by
 induction l with
 | nil=>rfl
 | cons i l ih=>rw [pC,aC,ih,UP,aW];omega
theorem JG {l:List Sl.Instr} {i:Nat} (h:i<l.length):(l.take (i+1)).flatMap QC=(l.take i).flatMap QC++QC (l[((i:Nat):Int).toNat]?.getD default):=by
 rw [cB,List.flatMap_append,aE,aA h]
 show _++([l[i]].flatMap QC)=_
 rw [pC,pO,bR];rfl
theorem UQ {l:List Int} {i:Nat} (h:i<l.length):(l.take (i+1)).map wb=(l.take i).map wb++[wb (l[((i:Nat):Int).toNat]?.getD default)]:=by
 rw [cB,jP,aE,aA h];rfl
theorem kq (G:Imm) (p:PV) (ac ao:Option Addr) (cc co:Nat) (hc:Arr G ac p.code) (ho:Arr G ao p.outs) (h1:p.code.length≤16384) (h2:p.outs.length≤1048576) (hi:∀ i∈p.code,0≤i.c∧i.c≤65520) :
 Does Tryz.prog 68 [.agg #[.int .i64 p.ins,.int .i64 p.regs,.slice ac p.code.length cc,.slice ao p.outs.length co]] G [] (fun v G' Ho=>∃ a c,v=.slice a (Rj p).length c∧Arr G' a (Rj p)∧Ho=[]):=by
 have hn64:0≤(p.code.length:Int)∧(p.code.length:Int)≤65520:=sE
 refine fK Tryz.func68 rfl Tryz.ntmps68 rfl fun w=>?_
 refine aJ 2 [] ?_
 refine qM 0 rfl rfl rfl fun b1=>?_
 refine aL 7 [0] ?_
 refine eG rfl (fN rfl T.u5 rfl) ?_
 refine aB 2 [0] ?_
 refine eG rfl (fN rfl T.u5 rfl) ?_
 refine dY (α:=U8) 1 [wb p.ins,wb p.regs] rfl T.sl38 T.el5 rfl rfl rfl rfl rfl fun b2=>?_
 have ho0:OwnA (some ⟨b2,0,none⟩) 2 [wb p.ins,wb p.regs] []:=fM Dd
 refine aL 9 [0] ?_
 refine bX 2 rfl (kj _ _ (by first | exact hn64 | exact hn65)) fun v1 G1 Ho1 hle1 hp=>?_
 obtain ⟨ta1,tC1,htC1,htl1,rfl,htA1,rfl⟩:=hp
 replace hc:=hc.up hle1
 replace ho:=ho.up hle1
 refine gM (α:=U8) 1 rfl T.sl38 T.el5 rfl rfl rfl Ff (lC sF) xF xF fun a1 c1 junk1 ho1=>?_
 refine aZ 10 [] ?_
 subst htC1
 refine iZ (ι:=Nat×Imm×List U8×(Option Addr×Nat×List Value)) (fun (i,Gx,r,(o,d,j))=>([(4,.int .i64 (i:Int)),(3,.slice o r.length d),(2,Go.Value.slice Option.none 0 0),(1,Go.Value.pointer (Option.some (Go.Addr.mk b1 0 Option.none)))],[(1,o.map (·.block),Row 5 r j),(0,Option.some b1,Go.Obj.cells #[Go.Value.int Go.IntKind.i64 p.ins,Go.Value.int Go.IntKind.i64 p.regs,Go.Value.slice ac p.code.length cc,Go.Value.slice ao p.outs.length co] 26)])) (fun (i,Gx,r,(o,d,j))=>Gx) (fun (i,Gx,r,(o,d,j))=>i≤p.code.length∧G1.le Gx∧r=[wb p.ins,wb p.regs]++XW p.code.length++(p.code.take i).flatMap QC∧OwnA o d r j) (fun (i,Gx,r,(o,d,j))=>p.code.length - i) ((0,G1,[wb p.ins,wb p.regs]++XW p.code.length,(a1,c1,junk1))) (⟨aM _,bK _,by rw [cM,pO,bR],ho1⟩) rfl ⟨rfl,rfl,rfl,rfl,trivial⟩ ⟨rfl,rfl,trivial⟩ fun ⟨i,Gx,r,(o,d,j)⟩=>fun hk=>?_
 obtain ⟨hi0,hgx,hr,hob⟩:=hk
 replace hc:=hc.up hgx
 replace ho:=ho.up hgx
 have hrl:r.length=4+6*i:=by
  rw [hr,aC,BI,bG,dG hi0];rfl
 rcases aK i p.code.length with hil | hil
 · have hn65:0≤(p.code[(i:Int).toNat]?.getD default).c∧(p.code[(i:Int).toNat]?.getD default).c≤65520:=by
    rw [aE,aA hil];exact hi _ (bI hil)
   refine aJ 20 [0,1,0] ?_
   refine eG rfl (jA (α:=Sl.Instr) T.sl23 rfl rfl sF sE) ?_
   refine eG rfl (gZ T.agg91 rfl (jY sF sE) rfl) ?_
   refine aN 2 rfl T.zero91 fun b3=>?_
   refine aL 8 [2,2] ?_
   refine eG rfl (fN rfl T.u5 rfl) ?_
   refine aB 2 [2] ?_
   refine eG rfl (fN rfl T.u5 rfl) ?_
   refine aB 2 [2] ?_
   refine eG rfl (fN rfl T.u5 rfl) ?_
   refine aB 2 [2] ?_
   refine eG rfl (fN rfl T.u5 rfl) ?_
   refine dY (α:=U8) 3 [wb (p.code[(i:Int).toNat]?.getD default).op,wb (p.code[(i:Int).toNat]?.getD default).to,wb (p.code[(i:Int).toNat]?.getD default).a,wb (p.code[(i:Int).toNat]?.getD default).b] rfl T.sl38 T.el5 rfl rfl rfl rfl rfl fun b4=>?_
   refine gM (α:=U8) 1 rfl T.sl38 T.el5 rfl rfl rfl Ff (fE 3 rfl) xF xF fun a2 c2 junk2 ho2=>?_
   refine aL 7 [2] ?_
   refine bX 4 rfl (kj _ _ (by first | exact hn64 | exact hn65)) fun v2 G2 Ho2 hle2 hp=>?_
   obtain ⟨ta2,tC2,htC2,htl2,rfl,htA2,rfl⟩:=hp
   replace hc:=hc.up hle2
   replace ho:=ho.up hle2
   refine gM (α:=U8) 1 rfl T.sl38 T.el5 rfl rfl rfl Ff (lC sF) xF xF fun a3 c3 junk3 ho3=>?_
   refine aR 9 [] ?_
   refine fR ((i+1,G2,r++[wb (p.code[(i:Int).toNat]?.getD default).op,wb (p.code[(i:Int).toNat]?.getD default).to,wb (p.code[(i:Int).toNat]?.getD default).a,wb (p.code[(i:Int).toNat]?.getD default).b]++tC2,(a3,c3,junk3))) ?_ ?_ rfl ⟨rfl,rfl,rfl,rfl,trivial⟩ ⟨rfl,rfl,trivial⟩
   · exact ⟨by omega,aQ hgx hle2,by rw [htC2,hr,JG hil];simp only [bA,QC,XW],ho3⟩
   show p.code.length - (i+1)<p.code.length - i
   omega
 have hii:i=p.code.length:=sE
 subst hii
 rw [bC] at hr
 refine aJ 22 [0,0,0] ?_
 refine eG rfl (fN rfl T.u5 rfl) ?_
 refine dY (α:=U8) 2 [wb p.outs.length] rfl T.sl38 T.el5 rfl rfl rfl rfl rfl fun b3=>?_
 refine gM (α:=U8) 1 rfl T.sl38 T.el5 rfl rfl rfl Ff (fE 2 rfl) xF xF fun a2 c2 junk2 ho2=>?_
 refine aZ 10 [] ?_
 refine iZ (ι:=Nat×Imm×List U8×(Option Addr×Nat×List Value)) (fun (i,Gy,r2,(o,d,j))=>([(6,.int .i64 (i:Int)),(3,.slice o r2.length d),(2,Go.Value.slice Option.none 0 0),(1,Go.Value.pointer (Option.some (Go.Addr.mk b1 0 Option.none)))],[(1,o.map (·.block),Row 5 r2 j),(2,Option.some b3,Go.Sl.Row (α:=Go.Proofs.YtfdcckcadfhpeaaGreatDoor.U8) 5 ([Go.Proofs.YtfdcckcadfhpeaaGreatDoor.wb (↑p.outs.length:Int)]) ([])),(0,Option.some b1,Go.Obj.cells #[Go.Value.int Go.IntKind.i64 p.ins,Go.Value.int Go.IntKind.i64 p.regs,Go.Value.slice ac p.code.length cc,Go.Value.slice ao p.outs.length co] 26)])) (fun (i,Gy,r2,(o,d,j))=>Gy) (fun (i,Gy,r2,(o,d,j))=>i≤p.outs.length∧Gx.le Gy∧r2=r++[wb p.outs.length]++(p.outs.take i).map wb∧OwnA o d r2 j) (fun (i,Gy,r2,(o,d,j))=>p.outs.length - i) ((0,Gx,r++[wb p.outs.length],(a2,c2,junk2))) (⟨aM _,bK _,by rw [cM,pY,bR],ho2⟩) rfl ⟨rfl,rfl,rfl,rfl,trivial⟩ ⟨rfl,rfl,rfl,trivial⟩ fun ⟨i,Gy,r2,(o,d,j)⟩=>fun hk=>?_
 obtain ⟨hi0,hgy,hr2,hob⟩:=hk
 replace ho:=ho.up hgy
 have hrl2:r2.length=r.length+1+i:=by
  rw [hr2,aC,aC,aP,bG,dG hi0];rfl
 rcases aK i p.outs.length with hil | hil
 · refine aJ 20 [0,1,0] ?_
   refine eG rfl (jA (α:=Int) T.sl24 rfl rfl sF sE) ?_
   refine eG rfl (cJ T.one3 rfl (iC sF sE 0 rfl rfl)) ?_
   refine eG rfl (fN rfl T.u5 rfl) ?_
   refine dY (α:=U8) 3 [wb (p.outs[(i:Int).toNat]?.getD default)] rfl T.sl38 T.el5 rfl rfl rfl rfl rfl fun b3=>?_
   refine gM (α:=U8) 1 rfl T.sl38 T.el5 rfl rfl rfl Ff (fE 3 rfl) xF xF fun a3 c3 junk3 ho3=>?_
   refine aR 9 [] ?_
   refine fR ((i+1,Gy,r2++[wb (p.outs[(i:Int).toNat]?.getD default)],(a3,c3,junk3))) ?_ ?_ rfl ⟨rfl,rfl,rfl,rfl,trivial⟩ ⟨rfl,rfl,rfl,trivial⟩
   · exact ⟨by omega,hgy,by rw [hr2,UQ hil,bA _ _ [_]],ho3⟩
   show p.outs.length - (i+1)<p.outs.length - i
   omega
 have hii:i=p.outs.length:=sE
 subst hii
 rw [bC] at hr2
 refine bE 23 [0,0] ?_
 refine cQ 1 rfl hob fun G9 hle9 hA=>?_
 refine cK (.inr rfl) (Ho:=[]) rfl (.tmp rfl) trivial ?_
 have e:r2=Rj p:=by rw [hr2,hr];rfl
 rw [←e]
 exact ⟨_,_,rfl,hA,rfl⟩
def UR (l:List Int) (n:Nat):List R2:=(List.range n).map fun j=>⟨l[2*j]?.getD 0,l[2*j+1]?.getD 0⟩
theorem US (l:List Int) (n:Nat):(UR l n).length=n:=by unfold UR;rw [aP,bS]
theorem PT (l:List Int) (n:Nat):UR l (n+1)=UR l n++[⟨l[2*n]?.getD 0,l[2*n+1]?.getD 0⟩]:=by
 unfold UR;rw [nY,jP];rfl
theorem c21 (G:Imm) (a:Option Addr) (c:Nat) (l:List Int) (n:Nat) (ha:Arr G a l) (hn:l.length=2*n) (h1:n≤100) :
 Does Tryz.prog 21 [.slice a l.length c] G [] (fun v G' Ho=>∃ b d,v=.slice b (UR l n).length d∧Arr G' b (UR l n)∧(UR l n).length≤d∧Ho=[]):=by
 refine fK Tryz.func21 rfl Tryz.ntmps21 rfl fun w=>?_
 refine dZ 9 (Row 52 ([]:List R2) []) ?_
 refine bJ 17 [] ?_
 refine gL (ι:=Nat×List R2×(Option Addr×Nat×List Value)) (fun (i,r,(o,d,j))=>([(4,.int .i64 ((2*i:Nat):Int)),(3,.slice o r.length d),(2,Go.Value.slice Option.none 0 0),(0,Go.Value.slice a (List.length l) c)],[(9,o.map (·.block),Row 52 r j)])) (fun (i,r,(o,d,j))=>i≤n∧r=UR l i∧OwnA o d r j) (fun (i,r,(o,d,j))=>n - i) ((0,[],(none,0,[]))) (⟨aM _,rfl,eD⟩) ⟨rfl,rfl,rfl,rfl,trivial⟩ ⟨rfl,trivial⟩ fun ⟨i,r,(o,d,j)⟩=>fun hk=>?_
 obtain ⟨hi,hr,hob⟩:=hk
 have hrl:r.length=i:=by rw [hr,US]
 rcases aK i n with hin | hin
 · refine bJ 15 [1] ?_
   refine gQ [9] [(9,12)] T.mixed rfl ?_
   refine gO 0 [] [] ?_
   refine gO 1 [] [] ?_
   refine gO 2 [] [] ?_
   refine dN 3 [] rfl (jA (α:=Int) T.sl24 rfl rfl sF sE) ?_
   refine dN 4 [] rfl (cJ T.one3 rfl (iC sF sE 0 rfl rfl)) ?_
   refine gO 5 [] [] ?_
   refine gO 6 [] [] ?_
   refine gO 7 [] [] ?_
   refine dN 8 [] rfl (jA (α:=Int) T.sl24 rfl rfl sF sE) ?_
   refine dN 9 [] rfl (cJ T.one3 rfl (iC sF sE 0 rfl rfl)) ?_
   refine dN 10 [] rfl (bO (cs:=[_,_]) T.st52 rfl rfl rfl) ?_
   refine bV 11 ?_
   refine dY (α:=R2) 10 [⟨Option.getD l[Int.toNat (↑(2*i):Int)]? Inhabited.default,Option.getD l[Int.toNat ((↑(2*i):Int)+1)]? Inhabited.default⟩] rfl T.sl22 T.el52 rfl rfl rfl rfl rfl fun b1=>?_
   refine bD ?_
   refine bV 12 ?_
   refine gM (α:=R2) 9 rfl T.sl22 T.el52 rfl rfl rfl Ff (fE 10 rfl) xF xF fun a1 c1 junk1 ho1=>?_
   refine bD ?_
   refine gO 13 [] [] ?_
   refine jB sG trivial wJ ?_
   refine dX 7 [] ?_
   refine cN 4 rfl (show _=Value.int .i64 ((2*(i+1):Nat):Int) by congr 1) ?_
   refine fR ((i+1,r++[⟨l[((2*i:Nat):Int).toNat]?.getD default,l[(((2*i:Nat):Int)+1).toNat]?.getD default⟩],(a1,c1,junk1))) ?_ ?_ rfl ⟨rfl,rfl,rfl,rfl,trivial⟩ ⟨rfl,trivial⟩
   · exact ⟨by omega,by rw [hr,PT,aE,show (((2*i:Nat):Int)+1).toNat=2*i+1 by omega];rfl,ho1⟩
   show n - (i+1)<n - i
   omega
 have hii:i=n:=sE
 subst hii
 refine bE 23 [0] ?_
 refine cQ 9 rfl hob fun G9 hle9 hA=>?_
 refine cK (.inr rfl) (Ho:=[]) rfl (.tmp rfl) trivial ?_
 rw [←hr]
 exact ⟨_,_,rfl,hA,hob.le,rfl⟩
def VQ (q:R2):List U8:=[wb ((q.a+256) % 256),wb ((q.b+256) % 256)]
def kr (u:UV):List U8:=[⟨65⟩,⟨78⟩,⟨86⟩,⟨49⟩,wb u.k1,wb u.k2,wb u.pl.length]++u.pl.flatMap VQ++Rj u.x++Rj u.y++Rj u.z
def JH (u:UV):List U8:=kr u++XW (zC (kr u) (kr u).length)
def Byt (B:List U8):Prop:=∀ b∈B,0≤b.v∧b.v≤255
theorem Byt.bytes {B:List U8} (h:Byt B):Bytes B:=fun i hi=>by
 rw [aA hi];exact h _ (bI hi)
theorem Byt.app {A B:List U8} (h:Byt A) (k:Byt B):Byt (A++B):=fun b hb=>by
 rcases gW.1 hb with g | g
 · exact h b g
 exact k b g
theorem Byt.nil:Byt []:=fun b hb=>by cases hb
theorem Byt.cons {b:U8} {B:List U8} (h:0≤b.v∧b.v≤255) (k:Byt B):Byt (b :: B):=fun c hc=>by
 rcases iG.1 hc with rfl | g
 · exact h
 exact k c g
theorem Cl (x:Int):0≤(wb x).v∧(wb x).v≤255:=by
 show 0≤IntKind.u8.wrap x∧IntKind.u8.wrap x≤255
 rw [ki];omega
theorem FY {n:Int} (h:0≤n∧n≤65535):Byt (XW n):=.cons (by show 0≤n / 256∧n / 256≤255;omega) (.cons (by show 0≤n % 256∧n % 256≤255;omega) .nil)
theorem PU {l:List Sl.Instr} (h:∀ i∈l,0≤i.c∧i.c≤65520):Byt (l.flatMap QC):=fun b hb=>by
 obtain ⟨i,hi,hb⟩:=List.mem_flatMap.1 hb
 have:=h i hi
 exact (Byt.app (.cons (Cl _) (.cons (Cl _) (.cons (Cl _) (.cons (Cl _) .nil)))) (FY sE)) b hb
theorem UT (l:List Int):Byt (l.map wb):=fun b hb=>by
 obtain ⟨i,_,rfl⟩:=dJ.1 hb
 exact Cl i
theorem Wt {p:PV} (h1:p.code.length≤16384) (h:∀ i∈p.code,0≤i.c∧i.c≤65520):Byt (Rj p):=
 ((((Byt.cons (Cl _) (.cons (Cl _) .nil)).app (FY sE)).app (PU h)).app (.cons (Cl _) .nil)).app (UT _)
theorem Wu (p:PV):(Rj p).length=5+6*p.code.length+p.outs.length:=by
 unfold Rj
 rw [aC,aC,aC,aC,BI,aP]
 show 2+2+6*p.code.length+1+p.outs.length=_
 omega
theorem PW (l:List R2):(l.flatMap VQ).length=2*l.length:=by
 induction l with
 | nil=>rfl
 | cons i l ih=>rw [pC,aC,ih,aW];show 2+2*l.length=_;omega
theorem PX (l:List R2):Byt (l.flatMap VQ):=fun b hb=>by
 obtain ⟨i,hi,hb⟩:=List.mem_flatMap.1 hb
 exact (Byt.cons (Cl _) (.cons (Cl _) .nil)) b hb
theorem PY {l:List R2} {i:Nat} (h:i<l.length):(l.take (i+1)).flatMap VQ=(l.take i).flatMap VQ++VQ (l[((i:Nat):Int).toNat]?.getD default):=by
 rw [cB,List.flatMap_append,aE,aA h]
 show _++([l[i]].flatMap VQ)=_
 rw [pC,pO,bR];rfl
def YD (k1 k2 n:Int):List U8:=[⟨65⟩,⟨78⟩,⟨86⟩,⟨49⟩,wb k1,wb k2,wb n]
theorem UU (k1 k2 n:Int):Byt (YD k1 k2 n):=.cons sN (.cons sN (.cons sN (.cons sN (.cons (Cl _) (.cons (Cl _) (.cons (Cl _) .nil))))))
theorem c32 (G:Imm) (k1 k2:Int) (l:List R2) (pa:Option Addr) (pc:Nat) (x y z:PV) (xac xao yac yao zac zao:Option Addr) (xcc xoc ycc yoc zcc zoc:Nat) (hl:Arr G pa l) (hl1:l.length≤300) (hin:∀ i:Nat,i<l.length→near (l[i]?.getD default).a (l[i]?.getD default).b) (hxc:Arr G xac x.code) (hxo:Arr G xao x.outs) (hx1:x.code.length≤16384) (hx2:x.outs.length≤16384) (hxi:∀ i∈x.code,0≤i.c∧i.c≤65520) (hyc:Arr G yac y.code) (hyo:Arr G yao y.outs) (hy1:y.code.length≤16384) (hy2:y.outs.length≤16384) (hyi:∀ i∈y.code,0≤i.c∧i.c≤65520) (hzc:Arr G zac z.code) (hzo:Arr G zao z.outs) (hz1:z.code.length≤16384) (hz2:z.outs.length≤16384) (hzi:∀ i∈z.code,0≤i.c∧i.c≤65520) :
 Does Tryz.prog 32 [.agg #[.int .i64 k1,.int .i64 k2,.slice pa l.length pc,.int .i64 x.ins,.int .i64 x.regs,.slice xac x.code.length xcc,.slice xao x.outs.length xoc,.int .i64 y.ins,.int .i64 y.regs,.slice yac y.code.length ycc,.slice yao y.outs.length yoc,.int .i64 z.ins,.int .i64 z.regs,.slice zac z.code.length zcc,.slice zao z.outs.length zoc]] G [] (fun v G' Ho=>∃ a c,v=.slice a (JH ⟨k1,k2,l,x,y,z⟩).length c∧Arr G' a (JH ⟨k1,k2,l,x,y,z⟩)∧(JH ⟨k1,k2,l,x,y,z⟩).length≤c∧Ho=[]):=by
 refine fK Tryz.func32 rfl Tryz.ntmps32 rfl fun w=>?_
 refine aJ 2 [] ?_
 refine qM 0 rfl rfl rfl fun b1=>?_
 refine aL 7 [0] ?_
 refine eG rfl (fN rfl T.u5 rfl) ?_
 refine aB 2 [0] ?_
 refine eG rfl (fN rfl T.u5 rfl) ?_
 refine aB 3 [0] ?_
 refine eG rfl (fN rfl T.u5 rfl) ?_
 refine dY (α:=U8) 1 (YD k1 k2 l.length) rfl T.sl38 T.el5 rfl rfl rfl rfl rfl fun b2=>?_
 have ho0:OwnA (some ⟨b2,0,none⟩) 7 (YD k1 k2 l.length) []:=fM (by simp [maxLen,YD])
 refine aZ 10 [] ?_
 refine gL (ι:=Nat×List U8×(Option Addr×Nat×List Value)) (fun (i,r,(o,d,j))=>([(4,.int .i64 (i:Int)),(3,.slice o r.length d),(2,Go.Value.slice Option.none 0 0),(1,Go.Value.pointer (Option.some (Go.Addr.mk b1 0 Option.none)))],[(1,o.map (·.block),Row 5 r j),(0,Option.some b1,Go.Obj.cells #[Go.Value.int Go.IntKind.i64 k1,Go.Value.int Go.IntKind.i64 k2,Go.Value.slice pa (List.length l) pc,Go.Value.int Go.IntKind.i64 x.ins,Go.Value.int Go.IntKind.i64 x.regs,Go.Value.slice xac x.code.length xcc,Go.Value.slice xao x.outs.length xoc,Go.Value.int Go.IntKind.i64 y.ins,Go.Value.int Go.IntKind.i64 y.regs,Go.Value.slice yac y.code.length ycc,Go.Value.slice yao y.outs.length yoc,Go.Value.int Go.IntKind.i64 z.ins,Go.Value.int Go.IntKind.i64 z.regs,Go.Value.slice zac z.code.length zcc,Go.Value.slice zao z.outs.length zoc] 28)])) (fun (i,r,(o,d,j))=>i≤l.length∧r=YD k1 k2 l.length++(l.take i).flatMap VQ∧OwnA o d r j) (fun (i,r,(o,d,j))=>l.length - i) ((0,YD k1 k2 l.length,(some ⟨b2,0,none⟩,7,[]))) (⟨aM _,by rw [cM,pO,bR],ho0⟩) ⟨rfl,rfl,rfl,rfl,trivial⟩ ⟨rfl,rfl,trivial⟩ fun ⟨i,r,(o,d,j)⟩=>fun hk=>?_
 obtain ⟨hi0,hr,hob⟩:=hk
 have hrl:r.length=7+2*i:=by
  rw [hr,aC,PW,bG,dG hi0];rfl
 rcases aK i l.length with hil | hil
 · have hq:=hin i hil
   unfold near at hq
   have hq9:-16≤(l[(i:Int).toNat]?.getD default).a∧-16≤(l[(i:Int).toNat]?.getD default).b∧(l[(i:Int).toNat]?.getD default).a≤16∧(l[(i:Int).toNat]?.getD default).b≤16:=by
    rw [aE];omega
   refine bJ 15 [0,1] ?_
   refine gQ [0,1] [(1,20)] T.mixed rfl ?_
   refine gO 0 [] [] ?_
   refine gO 1 [] [] ?_
   refine gO 2 [0] [0] ?_
   refine gO 3 [] [] ?_
   refine dN 4 [] rfl (jA (α:=R2) T.sl22 rfl rfl sF sE) ?_
   refine gO 5 [] [] ?_
   refine dN 6 [0] rfl (cJ T.one3 rfl (iC sF sE 0 rfl rfl)) ?_
   refine gO 7 [] [] ?_
   refine dN 8 [] rfl (mU rfl rfl sE) ?_
   refine dN 9 [] rfl (fN rfl T.u5 rfl) ?_
   refine gO 10 [] [] ?_
   refine gO 11 [0] [0] ?_
   refine gO 12 [] [] ?_
   refine dN 13 [] rfl (jA (α:=R2) T.sl22 rfl rfl sF sE) ?_
   refine gO 14 [] [] ?_
   refine dN 15 [] rfl (cJ T.one3 rfl (iC sF sE 1 rfl rfl)) ?_
   refine gO 16 [] [] ?_
   refine dN 17 [] rfl (mU rfl rfl sE) ?_
   refine dN 18 [] rfl (fN rfl T.u5 rfl) ?_
   refine bV 19 ?_
   refine dY (α:=U8) 2 [wb (((l[(i:Int).toNat]?.getD default).a+256) % 256),wb (((l[(i:Int).toNat]?.getD default).b+256) % 256)] rfl T.sl38 T.el5 rfl rfl rfl rfl rfl fun b3=>?_
   refine bD ?_
   refine bV 20 ?_
   refine gM (α:=U8) 1 rfl T.sl38 T.el5 rfl rfl rfl Ff (fE 2 rfl) xF xF fun a1 c1 junk1 ho1=>?_
   refine bD ?_
   refine gO 21 [] [] ?_
   refine cZ ?_
   refine dX 7 [] ?_
   refine fR ((i+1,r++[wb (((l[(i:Int).toNat]?.getD default).a+256) % 256),wb (((l[(i:Int).toNat]?.getD default).b+256) % 256)],(a1,c1,junk1))) ?_ ?_ rfl ⟨rfl,rfl,rfl,rfl,trivial⟩ ⟨rfl,rfl,trivial⟩
   · exact ⟨by omega,by rw [hr,PY hil,bA];rfl,ho1⟩
   show l.length - (i+1)<l.length - i
   omega
 have hii:i=l.length:=sE
 subst hii
 rw [bC] at hr
 have hry:Byt r:=by rw [hr];exact (UU _ _ _).app (PX l)
 refine aJ 20 [0,0] ?_
 refine eG rfl (fU 0 T.agg26 rfl rfl rfl rfl) ?_
 refine bX 9 rfl (kq _ x xac xao xcc xoc hxc hxo hx1 sE hxi) fun v1 G1 Ho1 hle1 hp=>?_
 obtain ⟨s1,d1,rfl,hs1,rfl⟩:=hp
 have hn1:=Wu x
 replace hyc:=hyc.up hle1
 replace hyo:=hyo.up hle1
 replace hzc:=hzc.up hle1
 replace hzo:=hzo.up hle1
 refine gM (α:=U8) 1 rfl T.sl38 T.el5 rfl rfl rfl Ff (lC sF) xF xF fun a1 c1 junk1 ho1=>?_
 refine aL 7 [] ?_
 refine eG rfl (fU 0 T.agg26 rfl rfl rfl rfl) ?_
 refine bX 9 rfl (kq _ y yac yao ycc yoc hyc hyo hy1 sE hyi) fun v2 G2 Ho2 hle2 hp=>?_
 obtain ⟨s2,d2,rfl,hs2,rfl⟩:=hp
 have hn2:=Wu y
 replace hzc:=hzc.up hle2
 replace hzo:=hzo.up hle2
 refine gM (α:=U8) 1 rfl T.sl38 T.el5 rfl rfl rfl Ff (lC sF) xF xF fun a2 c2 junk2 ho2=>?_
 refine aL 7 [] ?_
 refine eG rfl (fU 0 T.agg26 rfl rfl rfl rfl) ?_
 refine bX 9 rfl (kq _ z zac zao zcc zoc hzc hzo hz1 sE hzi) fun v3 G3 Ho3 hle3 hp=>?_
 obtain ⟨s3,d3,rfl,hs3,rfl⟩:=hp
 have hn3:=Wu z
 have hBy:Bytes (r++Rj x++Rj y++Rj z):=(((hry.app (Wt hx1 hxi)).app (Wt hy1 hyi)).app (Wt hz1 hzi)).bytes
 have hln:(r++Rj x++Rj y++Rj z).length≤1048576:=by
  rw [aC,aC,aC];omega
 refine gM (α:=U8) 1 rfl T.sl38 T.el5 rfl rfl rfl Ff (lC sF) xF xF fun a3 c3 junk3 ho3=>?_
 refine aL 7 [] ?_
 refine KB 2 rfl T.fn65 rfl (fun Gx hGx hgx=>(c65 _ _ _ (r++Rj x++Rj y++Rj z) (by first | exact Arr.up sF hGx | exact kE _ | exact Arr.own hgx 1 rfl (by first | assumption | exact fM Dd)) hBy hln)) fun v1 Gx1 G1 Ho1 hlx1 hp=>?_
 obtain ⟨rfl,rfl,rfl⟩:=hp
 refine bX 2 rfl (kj _ _ ⟨(Jk _).1,(Jk _).2⟩) fun v4 G4 Ho4 hle4 hp=>?_
 obtain ⟨ta4,tC4,htC4,htl4,rfl,htA4,rfl⟩:=hp
 replace hs3:=hs3.up hle4
 refine gM (α:=U8) 1 rfl T.sl38 T.el5 rfl rfl rfl Ff (lC sF) xF xF fun a4 c4 junk4 ho4=>?_
 refine aR 4 [] ?_
 refine cQ 1 rfl ho4 fun G9 hle9 hA=>?_
 refine cK (.inr rfl) (Ho:=[]) rfl (.tmp rfl) trivial ?_
 have e:r++Rj x++Rj y++Rj z++tC4=JH ⟨k1,k2,l,x,y,z⟩:=by rw [htC4,hr];rfl
 rw [←e]
 exact ⟨_,_,rfl,hA,ho4.le,rfl⟩
def BL:PV:=⟨2,3,[⟨3,2,0,1,0⟩],[0,2,1]⟩
def UW:PV:=⟨3,3,[⟨4,1,1,0,0⟩,⟨4,1,1,2,0⟩],[0,1,2]⟩
def BM:List R2:=[⟨0,1⟩,⟨1,1⟩,⟨1,0⟩]
def QD:UV:=⟨2,2,BM,BL,BL,UW⟩
theorem BJ:sU ((2:Nat):Int) ((2:Nat):Int) BM=0:=by
 refine Yq ⟨⟨by decide,by decide⟩,⟨by decide,by decide⟩⟩ (fun i hi=>?_) sN ?_
 · have h3:i=0∨i=1∨i=2:=by have:BM.length=3:=rfl;omega
   rcases h3 with rfl | rfl | rfl <;> (unfold near;decide)
 rintro (⟨i,hi,h1⟩ | ⟨j,hj,i,hi,h1⟩)
 · have h3:i=0∨i=1∨i=2:=by have:BM.length=3:=rfl;omega
   rcases h3 with rfl | rfl | rfl <;> exact absurd h1 sN
 have h3:(i=0∧j=1)∨(i=0∧j=2)∨(i=1∧j=2):=by have:BM.length=3:=rfl;omega
 rcases h3 with ⟨rfl,rfl⟩ | ⟨rfl,rfl⟩ | ⟨rfl,rfl⟩ <;> (revert h1;unfold Ux;decide)
theorem FZ:tP ((2:Nat):Int) ((2:Nat):Int) BM BL BL UW=(0,0):=
 Vq BJ Ll Ll Ll Ll Ll Ll
theorem XX:uQ (JH QD)=(QD,⟨63,false⟩):=sG
theorem XY:zP (JH QD)=(QD,0,0):=PR XX rfl sG (by show (tP ((2:Nat):Int) ((2:Nat):Int) BM BL BL UW).2=0;rw [FZ])
theorem ku (G:Imm):Does Tryz.prog 51 [] G [] (fun v G' Ho=>∃ (pa xac xao zac zao:Option Addr) (pc xcc xoc zcc zoc:Nat),v=.agg #[.int .i64 2,.int .i64 2,.slice pa BM.length pc,.int .i64 BL.ins,.int .i64 BL.regs,.slice xac BL.code.length xcc,.slice xao BL.outs.length xoc,.int .i64 BL.ins,.int .i64 BL.regs,.slice xac BL.code.length xcc,.slice xao BL.outs.length xoc,.int .i64 UW.ins,.int .i64 UW.regs,.slice zac UW.code.length zcc,.slice zao UW.outs.length zoc]∧Arr G' pa BM∧BM.length≤pc∧Arr G' xac BL.code∧Arr G' xao BL.outs∧Arr G' zac UW.code∧Arr G' zao UW.outs∧Ho=[]):=by
 refine fK Tryz.func51 rfl Tryz.ntmps51 rfl fun w=>?_
 refine aJ 2 [] ?_
 refine aN 0 rfl T.zero28 fun b1=>?_
 refine aL 4 [] ?_
 refine eG rfl (bO (cs:=[_,_,_,_,_]) T.st91 rfl rfl rfl) ?_
 refine dY (α:=Sl.Instr) 1 [⟨3,2,0,1,0⟩] rfl T.sl23 T.el91 rfl rfl rfl rfl rfl fun b2=>?_
 refine dY (α:=Int) 2 [(0),(2),(1)] rfl T.sl24 T.el3 rfl rfl rfl rfl rfl fun b3=>?_
 refine eG rfl (bO (cs:=[_,_,_,_]) T.st26 rfl rfl rfl) ?_
 refine aN 3 rfl T.zero26 fun b4=>?_
 refine aL 5 [3] ?_
 refine eG rfl (bO (cs:=[_,_,_,_,_]) T.st91 rfl rfl rfl) ?_
 refine eG rfl (bO (cs:=[_,_,_,_,_]) T.st91 rfl rfl rfl) ?_
 refine dY (α:=Sl.Instr) 4 [⟨4,1,1,0,0⟩,⟨4,1,1,2,0⟩] rfl T.sl23 T.el91 rfl rfl rfl rfl rfl fun b5=>?_
 refine dY (α:=Int) 5 [(0),(1),(2)] rfl T.sl24 T.el3 rfl rfl rfl rfl rfl fun b6=>?_
 refine eG rfl (bO (cs:=[_,_,_,_]) T.st26 rfl rfl rfl) ?_
 refine aN 6 rfl T.zero26 fun b7=>?_
 refine aZ 4 [6] ?_
 refine gQ [0,1,2,3,4,5,6] [(0,6)] T.mixed rfl ?_
 refine gO 2 [3] [3] ?_
 refine gO 3 [3] [3] ?_
 refine gO 4 [6] [6] ?_
 refine bV 0 ?_
 refine dY (α:=Int) 7 [(0),(1),(1),(1),(1),(0)] rfl T.sl24 T.el3 rfl rfl rfl rfl rfl fun b8=>?_
 refine bD ?_
 refine bV 1 ?_
 refine gB (α:=Int) 7 rfl (fM (xs:=[(0:Int),1,1,1,1,0]) Dd) fun G1 hle1 hA1=>?_
 refine bX 9 rfl (c21 _ _ _ [0,1,1,1,1,0] 3 hA1 rfl sN) fun v2 G2 Ho2 hle2 hp=>?_
 obtain ⟨b19,d19,rfl,hA2,hd19,rfl⟩:=hp
 refine bD ?_
 refine dN 5 [] rfl (bO (cs:=[_,_,_,_,_,_,_,_,_,_,_,_,_,_,_]) T.st28 rfl rfl rfl) ?_
 refine bV 6 ?_
 refine aB 1 [0] ?_
 refine bD ?_
 refine cZ ?_
 refine dX 2 [] ?_
 refine cQ (α:=Sl.Instr) 1 rfl (fM (xs:=BL.code) (by simp [maxLen,BL])) fun G3 hle3 hB1=>?_
 refine cQ (α:=Int) 2 rfl (fM (xs:=BL.outs) (by simp [maxLen,BL])) fun G4 hle4 hB2=>?_
 refine cQ (α:=Sl.Instr) 4 rfl (fM (xs:=UW.code) (by simp [maxLen,UW])) fun G5 hle5 hB3=>?_
 refine cQ (α:=Int) 5 rfl (fM (xs:=UW.outs) (by simp [maxLen,UW])) fun G6 hle6 hB4=>?_
 refine cK (.inr rfl) (Ho:=[]) rfl (.agg 0 rfl rfl T.agg28) trivial ?_
 exact ⟨b19,_,_,_,_,d19,_,_,_,_,rfl,(((hA2.up hle3).up hle4).up hle5).up hle6,hd19,((hB1.up hle4).up hle5).up hle6,(hB2.up hle5).up hle6,hB3.up hle6,hB4,rfl⟩
theorem kv (G:Imm) (a:Option Addr) (c:Nat) (hA:Arr G a (JH QD)) (hc:(JH QD).length≤c) (hB:Bytes (JH QD)) :
 Does Tryz.prog 17 [.slice a (JH QD).length c] G [] (fun v G' Ho=>∃ (pa xac xao yac yao zac zao:Option Addr) (pc xcc xoc ycc yoc zcc zoc:Nat),v=.tuple #[.agg #[.int .i64 2,.int .i64 2,.slice pa BM.length pc,.int .i64 BL.ins,.int .i64 BL.regs,.slice xac BL.code.length xcc,.slice xao BL.outs.length xoc,.int .i64 BL.ins,.int .i64 BL.regs,.slice yac BL.code.length ycc,.slice yao BL.outs.length yoc,.int .i64 UW.ins,.int .i64 UW.regs,.slice zac UW.code.length zcc,.slice zao UW.outs.length zoc],.agg #[.int .i64 0,.int .i64 0]]∧(Arr G' pa BM∧Arr G' xac BL.code∧Arr G' xao BL.outs∧Arr G' yac BL.code∧Arr G' yao BL.outs∧Arr G' zac UW.code∧Arr G' zao UW.outs)∧Ho=[]):=
 (c17 G a c (JH QD) hA hc hB sN).mono fun v G' Ho _ ⟨⟨pa,pc,⟨xi,xr,xac,xn,xcc,xao,xm,xoc⟩,⟨yi,yr,yac,yn,ycc,yao,ym,yoc⟩,⟨zi,zr,zac,zn,zcc,zao,zm,zoc⟩,e,hu⟩,e0⟩=>by
  rw [XY] at e hu
  obtain ⟨h1,h2,h3,h4,h5⟩:=hu
  obtain ⟨rfl,rfl,rfl,rfl,q1,q2⟩:=h3
  obtain ⟨rfl,rfl,rfl,rfl,q3,q4⟩:=h4
  obtain ⟨rfl,rfl,rfl,rfl,q5,q6⟩:=h5
  exact ⟨pa,xac,xao,yac,yao,zac,zao,pc,xcc,xoc,ycc,yoc,zcc,zoc,e,⟨h2,q1,q2,q3,q4,q5,q6⟩,e0⟩
section
attribute [local irreducible] tP uQ zP JH
theorem bw {f:FuncId} {args:List Value} {G:Imm} {q:Value→Prop} (h:Does Tryz.prog f args G [] (fun v G' Ho=>q v∧Ho=[])):Does Tryz.prog f args G [] (fun v G' Ho=>q v∧G'=G∧Ho=[]):=
 fun w hw=>(h w hw).mono fun _ _ ⟨v,G',Ho,h1,h2,h3,h4,h5,h6,h7⟩=>⟨v,G,Ho,h1,h2.less h3,bK _,h4,fun b h8 h9=>(h8 h9).elim,h6,h7.1,rfl,h7.2⟩
theorem UX:∀ i:Nat,i<BM.length→near (BM[i]?.getD default).a (BM[i]?.getD default).b:=fun i hi=>by
 have h3:i=0∨i=1∨i=2:=by have:BM.length=3:=rfl;omega
 rcases h3 with rfl | rfl | rfl <;> (unfold near;decide)
theorem kw:Byt (JH QD):=by unfold Byt;decide +kernel
theorem PZ:tP 2 2 BM BL BL UW=(0,0):=FZ
theorem kx (G:Imm) (hT:TabOk G):Does Tryz.prog 10 [] G [] (fun v G' Ho=>v=.bool (decide (1=1))∧Ho=[]):=by
 refine fK Tryz.func10 rfl Tryz.ntmps10 rfl fun w=>?_
 refine aJ 7 [] ?_
 refine bX 9 rfl (ku _) fun v1 G1 Ho1 hle1 hp=>?_
 obtain ⟨pa,xac,xao,zac,zao,pc,xcc,xoc,zcc,zoc,rfl,hpa,hpl,hxc,hxo,hzc,hzo,rfl⟩:=hp
 skip
 refine bX 9 rfl (kl _ 2 2 BM pa pc BL BL UW xac xao xac xao zac zao xcc xoc xcc xoc zcc zoc hpa hpl sN hxc hxo sN sN hxc hxo sN sN hzc hzo sN sN) fun v2 G2 Ho2 hle2 hp=>?_
 obtain ⟨rfl,rfl⟩:=hp
 refine gK 11 rfl (show _=Value.tuple #[.int .i64 0,.int .i64 0] by rw [PZ]) ?_
 clear hpa hpl hxc hxo hzc hzo
 refine aL 9 [] ?_
 refine dY (α:=Int) 0 [(0),(1),(1),(1),(1),(0)] rfl T.sl24 T.el3 rfl rfl rfl rfl rfl fun b1=>?_
 refine gB (α:=Int) 0 rfl (fM (xs:=[(0:Int),1,1,1,1,0]) Dd) fun G3 hle3 hA1=>?_
 refine bX 9 rfl (c21 _ _ _ [0,1,1,1,1,0] 3 hA1 rfl sN) fun v4 G4 Ho4 hle4 hp=>?_
 obtain ⟨b4,d4,rfl,hL4,hd4,rfl⟩:=hp
 skip
 refine bX 9 rfl (bu _ (hT.up (aQ (aQ (aQ hle1 hle2) hle3) hle4)) 2 2 b4 d4 BM hL4 sN hd4 BJ) fun v5 G5 Ho5 hle5 hp=>?_
 obtain ⟨X,Y,Z,ta,xc,xo,yc,yo,zc,zo,td,xcc',xoc',ycc',yoc',zcc',zoc',tj,zk,rfl,hU,⟨hRx,hRy,hRz⟩,hto,hXc,hXo,hYc,hYo,hZc,hZo,rfl⟩:=hp
 refine gB 11 rfl hto fun G6 hle6 htA=>?_
 refine gB 16 rfl hZo fun G7 hle7 hZoA=>?_
 have h67:=aQ hle6 hle7
 obtain ⟨_,_,_,lx4,_,lx6,_,_⟩:=sK hRx
 obtain ⟨_,_,_,ly4,_,ly6,_,_⟩:=sK hRy
 obtain ⟨_,_,_,lz4,_,lz6,_,_⟩:=sK hRz
 have hZ3:Z.outs.length=3:=by
  have h:=(Cw (show (tP ((2:Nat):Int) ((2:Nat):Int) BM X Y Z).2=0 by rw [hU])).2.2.2.2.2.2
  unfold tQ at h
  exact h.2.2.1
 refine aB 3 [] ?_
 refine aN 17 rfl T.zero28 fun b2=>?_
 refine aL 7 [17,17] ?_
 refine bX 9 rfl (kl _ 2 2 BM ta td X Y Z xc xo yc yo zc zo xcc' xoc' ycc' yoc' zcc' zoc' (htA.up hle7) hto.le sN (hXc.up h67) (hXo.up h67) lx4 sE (hYc.up h67) (hYo.up h67) ly4 sE (hZc.up h67) hZoA lz4 sE) fun v8 G8 Ho8 hle8 hp=>?_
 obtain ⟨rfl,rfl⟩:=hp
 refine gK 22 rfl (show _=Value.tuple #[.int .i64 0,.int .i64 0] by rw [show tP 2 2 BM X Y Z=(0,0) from hU]) ?_
 clear hXc hXo hYc hYo hZc hZoA htA hL4 hA1
 refine aL 9 [] ?_
 refine bX 9 rfl (ku _) fun v9 G9 Ho9 hle9 hp=>?_
 obtain ⟨qa,uac,uao,wac,wao,qc,ucc,uoc,wcc,woc,rfl,hpa,hpl,hxc,hxo,hzc,hzo,rfl⟩:=hp
 skip
 refine bX 9 rfl (c32 _ 2 2 BM qa qc BL BL UW uac uao uac uao wac wao ucc uoc ucc uoc wcc woc hpa sN UX hxc hxo sN sN sN hxc hxo sN sN sN hzc hzo sN sN sN) fun v10 G10 Ho10 hle10 hp=>?_
 obtain ⟨s10,d10,rfl,hA10,hd10,rfl⟩:=hp
 clear hpa hpl hxc hxo hzc hzo
 skip
 refine bX 9 rfl (kv _ s10 d10 hA10 hd10 kw.bytes) fun v11 G11 Ho11 hle11 hp=>?_
 obtain ⟨pa',xac',xao',yac',yao',zac',zao',pc',xcc1,xoc1,ycc1,yoc1,zcc1,zoc1,rfl,⟨hpa,hxc,hxo,hyc,hyo,hzc,hzo⟩,rfl⟩:=hp
 have hz3:([0,0]:List Int)=[0,0]:=rfl
 refine aB 3 [] ?_
 refine aN 18 rfl T.zero28 fun b3=>?_
 refine aN 19 rfl T.zero42 fun b5=>?_
 refine aZ 5 [18,19] ?_
 refine gQ [17,18,19] [] T.mixed rfl ?_
 refine gO 0 [] [] ?_
 refine gO 1 [] [] ?_
 refine gO 2 [] [] ?_
 refine oA 33 rfl tJ ?_
 refine gG 3 [] sG rfl rfl rfl rfl (cV rfl) ?_
 refine gG 4 [] sG rfl rfl rfl rfl (Qy.eql rfl rfl) ?_
 refine gO 5 [] [] ?_
 refine gO 6 [] [] ?_
 refine oA 37 rfl tJ ?_
 refine gG 7 [] sG rfl rfl rfl rfl (cV rfl) ?_
 refine gG 8 [] sG rfl rfl rfl rfl (Qy.eql rfl rfl) ?_
 refine gO 9 [] [] ?_
 refine gO 10 [] [] ?_
 refine oA 41 rfl tJ ?_
 refine gG 11 [] sG rfl rfl rfl rfl (cV rfl) ?_
 refine gG 12 [] sG rfl rfl rfl rfl (Qy.eql rfl rfl) ?_
 refine gO 13 [] [] ?_
 refine gO 14 [] [] ?_
 refine oA 45 rfl tJ ?_
 refine gG 15 [] sG rfl rfl rfl rfl (cV rfl) ?_
 refine gG 16 [] sG rfl rfl rfl rfl (Qy.eql rfl rfl) ?_
 refine gO 17 [] [] ?_
 refine gO 18 [] [] ?_
 refine oA 49 rfl tJ ?_
 refine gG 19 [] sG rfl rfl rfl rfl (fI T.fa28_5 rfl) ?_
 refine gG 20 [] sG rfl rfl rfl rfl (fI T.fa26_3 rfl) ?_
 refine gG 21 [17] sG rfl rfl rfl rfl (jT 17 T.one24 rfl rfl rfl) ?_
 refine gG 22 [] sG rfl rfl rfl rfl (Qy.len T.sl24 rfl) ?_
 refine gG 23 [] sG rfl rfl rfl rfl (Qy.eql rfl rfl) ?_
 refine gO 24 [] [] ?_
 refine gO 25 [] [] ?_
 refine oA 56 rfl tJ ?_
 refine gG 26 [19] sG rfl rfl rfl rfl (oN 19 T.agg42 rfl rfl rfl) ?_
 refine gG 27 [] sG rfl rfl rfl rfl (bO (cs:=[_,_]) T.st42 rfl rfl rfl) ?_
 refine gG 28 [] sG rfl rfl rfl rfl (rJ [_,_] [_,_] T.ai42 rfl rfl rfl rfl) ?_
 refine gO 29 [] [] ?_
 refine gO 30 [] [] ?_
 refine oA 61 rfl tJ ?_
 refine gG 31 [18] sG rfl rfl rfl rfl (oN 18 T.agg28 rfl rfl rfl) ?_
 refine bV 32 ?_
 refine aB 1 [] ?_
 refine bX 9 rfl (ku _) fun v12 G12 Ho12 hle12 hp=>?_
 obtain ⟨ra,rxc,rxo,rzc,rzo,rc,rxd,rxp,rzd,rzp,rfl,hra,_,hrxc,hrxo,hrzc,hrzo,rfl⟩:=hp
 refine bD ?_
 refine bV 33 ?_
 refine aB 1 [] ?_
 refine bX 9 rfl (c15 _ 2 2 BM pa' ra pc' rc BL BL UW xac' xao' yac' yao' zac' zao' rxc rxo rxc rxo rzc rzo xcc1 xoc1 ycc1 yoc1 zcc1 zoc1 rxd rxp rxd rxp rzd rzp (hpa.up hle12) hra sN (hxc.up hle12) (hxo.up hle12) (hyc.up hle12) (hyo.up hle12) (hzc.up hle12) (hzo.up hle12) hrxc hrxo hrxc hrxo hrzc hrzo sN sN sN sN sN sN) fun v13 G13 Ho13 hle13 hp=>?_
 obtain ⟨rfl,rfl,rfl⟩:=hp
 refine bD ?_
 refine gO 34 [] [] ?_
 refine gO 35 [] [] ?_
 refine cZ ?_
 refine dX 2 [] ?_
 refine cK (.inr rfl) (Ho:=[]) rfl (.tmp rfl) trivial ?_
 exact ⟨rfl,rfl⟩
theorem c10 (G:Imm) (hT:TabOk G):Does Tryz.prog 10 [] G [] (fun v G' Ho=>v=.bool (decide (1=1))∧G'=G∧Ho=[]):=bw (kx G hT)
end
end Go.Proofs.YtfdcckcadfhpeaaGreatDoor
end
