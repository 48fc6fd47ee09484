/- cK of the proof (part 9): what the rows' text needs of the texts that lead to it. -/
import Derived.Test.YtfdcckcadfhpeaaGreatDoorMAh
set_option linter.unusedVariables false
set_option linter.unusedSimpArgs false
set_option linter.unusedSectionVars false
set_option maxHeartbeats 4000000
noncomputable section
set_option maxRecDepth 100000
namespace Go.Proofs.YtfdcckcadfhpeaaGreatDoor
open Go Go.Sl
theorem zY {G:Imm} {b:Nat} {ty:TypeId} {z:Nat×Nat} {xs:List U8} (h:G b=some (.cells (bH xs++[]).toArray ty z)):Arr G (some ⟨b,0,none⟩) xs:=by
 refine ⟨by rw [aV],.inr ⟨b,0,rfl,fun k hk=>?_⟩⟩
 unfold Imm.cell
 rw [h]
 simp
theorem zZ {B:List U8} {n:Nat} {s t u:RS} {x y:Int} {r:List R2} (h1:sg B s=(x,t)) (h2:sg B t=(y,u)):kR B (n+1) s r=kR B n u (r++[(⟨x,y⟩:R2)]):=by
 show (match sg B s with | (a,t)=>match sg B t with | (b,t')=>kR B n t' (r++[(⟨a,b⟩:R2)]))=_
 rw [h1]
 dsimp only
 rw [h2]
theorem Bytes.take {B:List U8} (h:Bytes B) (n:Nat):Bytes (B.take n):=fun i hi=>by
 rw [List.length_take] at hi
 rw [List.getElem?_take_of_lt (by omega)]
 exact h i (by omega)
theorem rW {B:List U8} {n:Nat}:∀ k,k≤n→n≤B.length→eU (B.take n) k=eU B k
 | 0,_,_=>rfl
 | k+1,h,hn=>by
   show (eU (B.take n) k+((k:Int)+1)*((B.take n)[k]?.getD default).v) % 65521=(eU B k+((k:Int)+1)*(B[k]?.getD default).v) % 65521
   rw [rW k (by omega) hn,List.getElem?_take_of_lt (by omega)]
def nB (k1 k2:Int) (pa:Option Addr) (pn pc:Nat) (x y z:PH):Value:=.agg #[.int .i64 k1,.int .i64 k2,.slice pa pn pc,.int .i64 x.ins,.int .i64 x.regs,.slice x.ac x.cn x.cc,.slice x.ao x.on x.oc,.int .i64 y.ins,.int .i64 y.regs,.slice y.ac y.cn y.cc,.slice y.ao y.on y.oc,.int .i64 z.ins,.int .i64 z.regs,.slice z.ac z.cn z.cc,.slice z.ao z.on z.oc]
theorem aNY {x:Int}:x.fdiv (2 ^ min (Int.toNat 8) IntKind.i64.bits)=x / 256:=by
 rw [show (2:Int) ^ min (Int.toNat 8) IntKind.i64.bits=256 from by decide]
 exact Int.fdiv_eq_ediv_of_nonneg _ (by decide)
theorem aNZ {x:Int} (h:0≤x∧x≤65535):bits .and .i64 x 255=x % 256:=by
 obtain ⟨a,rfl⟩:∃ a:Nat,x=(a:Int):=⟨x.toNat,by omega⟩
 have e:=(bits_nat .i64 16 (by decide) (fun n h1 h2=>w64 (by have:(2:Int) ^ 16=65536:=(by decide);omega)) a 255 (by omega) (by omega)).1
 rw [show (255:Nat)=2 ^ 8 - 1 from rfl,Nat.and_two_pow_sub_one_eq_mod] at e
 exact e.trans (by omega)
theorem nC {B:List U8}:∀ k,0≤eU B k∧eU B k≤65520
 | 0=>by show (0:Int)≤0∧(0:Int)≤65520;omega
 | k+1=>by
   show 0≤(eU B k+((k:Int)+1)*(B[k]?.getD default).v) % 65521∧(eU B k+((k:Int)+1)*(B[k]?.getD default).v) % 65521≤65520
   omega
theorem tO {B:List U8} {s:RS} (h:s.wr=true):wY B s=s:=if_pos h
theorem aGZ {B:List U8} {s t u:RS} {x y n:Int} (h:s.wr=false) (hn:n=eU B s.k) (h1:wi B s (n / 256) (n / 256)=(x,t)) (h2:wi B t (n % 256) (n % 256)=(y,u)):wY B s=u:=by
 unfold wY
 rw [if_neg (by rw [h];exact Bool.false_ne_true),←hn,h1,h2]
def pgS (B:List U8) (s:RS):Nat→RS
 | 0=>s
 | i+1=>(cZ B (pgS B s i)).2
theorem c66 (G:Imm) (a:Option Addr) (c:Nat) (B:List U8) (hA:Arr G a B) (hc:B.length≤c) (hB:Bytes B) (hl:B.length≤65520) :
 Does Tryz.prog 66 [.slice a B.length c] G [] (fun v G' Ho=>∃ (u:UV) (t:RS),dS B=(u,t)∧t.k≤B.length∧Ho=[]∧(((t.wr=true∨t.k<B.length)∧v=.tuple #[nB 0 0 none 0 0 ⟨0,0,none,0,0,none,0,0⟩ ⟨0,0,none,0,0,none,0,0⟩ ⟨0,0,none,0,0,none,0,0⟩,.agg #[.int .i64 170,.int .i64 (t.k:Int)]])∨
  (t.wr=false∧t.k=B.length∧∃ (pa:Option Addr) (pc:Nat) (h0 h1 h2:PH),v=.tuple #[nB u.k1 u.k2 pa u.pl.length pc h0 h1 h2,.agg #[.int .i64 0,.int .i64 0]]∧u.pl.length≤pc∧Arr G' pa u.pl∧PHof G' u.x h0∧PHof G' u.y h1∧PHof G' u.z h2))):=by
 have hl0:=hl
 replace hl:B.length≤1048576:=by omega
 refine D0 Tryz.func66 Tryz.ntmps66 fun w=>?_
 refine Wc.gl 2 [] ?_
 refine Wl.alloc 0 rfl T.zero28 fun b1=>?_
 refine Wl.alloc 1 rfl T.zero42 fun b2=>?_
 refine Wl.gl 5 [] ?_
 refine Wl.p (Qy.build (cs:=[_,_,_]) T.st198 rfl rfl rfl) ?_
 refine Wl.x 2 fun b3=>?_
 refine Wl.gl 6 [] ?_
 refine Wl.lit (α:=U8) 3 [⟨65⟩,⟨78⟩,⟨86⟩,⟨49⟩] rfl T.sl38 T.el5 rfl rfl rfl rfl rfl fun b4=>?_
 refine Wl.mark 3 rfl T.sl38.1 T.u5 rfl rfl ?_
 refine Wl.freeze 3 rfl fun G1 hle1 hm1=>?_
 replace hA:=hA.up hle1
 obtain ⟨M,hMe,hM⟩:∃ M:List U8,M=[(⟨65⟩:U8),⟨78⟩,⟨86⟩,⟨49⟩]∧Arr G1 (some ⟨b4,0,none⟩) M:=⟨_,rfl,zY hm1⟩
 have hM4:M.length=4:=by rw [hMe];rfl
 refine Wl.gc 5 [] ?_
 refine Wc.re 16 rfl (show _=Value.slice (some ⟨b4,0,none⟩) M.length 4 by rw [hM4];rfl) ?_
 refine Wc.lg (ι:=Nat×Imm×RS) (fun (i,Gx,tm)=>([(18,.int .i64 (i:Int)),(17,.int .i64 4),(16,.slice (some ⟨b4,0,none⟩) M.length 4),(4,.pointer (some ⟨b3,0,none⟩)),(0,.slice a B.length c),(3,Go.Value.pointer (Option.some (Go.Addr.mk b2 0 Option.none))),(2,Go.Value.pointer (Option.some (Go.Addr.mk b1 0 Option.none)))],[(0,some b1,.cells #[.int .i64 0,.int .i64 0,.slice none 0 0,.int .i64 0,.int .i64 0,.slice none 0 0,.slice none 0 0,.int .i64 0,.int .i64 0,.slice none 0 0,.slice none 0 0,.int .i64 0,.int .i64 0,.slice none 0 0,.slice none 0 0] 28),(1,some b2,.cells #[.int .i64 0,.int .i64 0] 42),(2,some b3,rdP a B.length c tm)])) (fun (i,Gx,tm)=>Gx) (fun (i,Gx,tm)=>i≤4∧G1.le Gx∧tm=oA B i∧tm.k≤B.length) (fun (i,Gx,tm)=>4 - i) ((0,G1,⟨0,false⟩)) (⟨Nat.zero_le _,Imm.le_refl _,rfl,Nat.zero_le _⟩) fun ⟨i,Gx,tm⟩=>fun hk=>?_
 obtain ⟨hi,hgx,ht0,hk0⟩:=hk
 replace hA:=hA.up hgx
 replace hM:=hM.up hgx
 rcases Nat.lt_or_ge i 4 with hi4 | hi4
 · refine Wc.gl 13 [1] ?_
   refine Wl.at (α:=U8) T.sl38 ?_
   refine bM 0 T.one5 ?_
   refine Wl.gl 6 [] ?_
   refine Wl.p (bE rfl T.u3 rfl) ?_
   refine aA 1 [] ?_
   refine Wl.p (bE rfl T.u3 rfl) ?_
   refine Wl.k 2 rfl (kH _ _ a c B _ _ _ hA hB ‹_› hl) fun v2 G2 Ho2 hle2 hp=>?_
   obtain ⟨x2,t2,ht2,hk2,hx2,rfl,rfl⟩:=hp
   replace hA:=hA.up hle2
   replace hM:=hM.up hle2
   refine Wl.ga 7 [] ?_
   refine aH ((i+1,G2,t2)) ?_ ?_
   · refine ⟨by omega,Imm.le_trans hgx hle2,?_,hk2⟩
     refine (congrArg Prod.snd ht2).symm.trans ?_
     rw [ht0,hMe]
     rcases (show i=0∨i=1∨i=2∨i=3 by omega) with rfl | rfl | rfl | rfl <;> rfl
   show 4 - (i+1)<4 - i
   omega
 obtain rfl:i=4:=by omega
 refine Wc.gl 15 [0] ?_
 refine Wl.k 2 rfl (kH _ _ a c B _ _ _ hA hB ‹_› hl) fun v2 G2 Ho2 hle2 hp=>?_
 obtain ⟨x2,t2,ht2,hk2,hx2,rfl,rfl⟩:=hp
 replace hA:=hA.up hle2
 replace hM:=hM.up hle2
 refine aA 1 [] ?_
 refine Wl.k 2 rfl (kH _ _ a c B _ _ _ hA hB ‹_› hl) fun v3 G3 Ho3 hle3 hp=>?_
 obtain ⟨x3,t3,ht3,hk3,hx3,rfl,rfl⟩:=hp
 replace hA:=hA.up hle3
 replace hM:=hM.up hle3
 refine Wl.p (Qy.build (cs:=[_,_,_,_,_,_,_,_,_,_,_,_,_,_,_]) T.st28 rfl rfl rfl) ?_
 refine Wl.alloc 3 rfl T.zero28 fun b5=>?_
 refine Wl.gl 7 [3] ?_
 refine Wl.k 2 rfl (kH _ _ a c B _ _ _ hA hB ‹_› hl) fun v4 G4 Ho4 hle4 hp=>?_
 obtain ⟨x4,t4,ht4,hk4,hx4,rfl,rfl⟩:=hp
 replace hA:=hA.up hle4
 replace hM:=hM.up hle4
 refine Wl.gc 4 [] ?_
 obtain ⟨N,hN,hN2⟩:∃ N:Nat,x4=(N:Int)∧N≤255:=⟨x4.toNat,by omega,by omega⟩
 refine Wc.re 35 rfl (show _=Value.int .i64 (N:Int) by rw [hN]) ?_
 refine bF 9 (Row 52 ([]:List R2) []) ?_
 refine cS (ι:=Nat×Imm×RS×List R2×(Option Addr×Nat×List Value)) (fun (i,Gx,t,r,(o,d,j))=>([(36,.int .i64 (i:Int)),(35,.int .i64 (N:Int)),(7,.pointer (some ⟨b5,0,none⟩)),(4,.pointer (some ⟨b3,0,none⟩)),(0,.slice a B.length c),(3,Go.Value.pointer (Option.some (Go.Addr.mk b2 0 Option.none))),(2,Go.Value.pointer (Option.some (Go.Addr.mk b1 0 Option.none)))],[(0,some b1,.cells #[.int .i64 0,.int .i64 0,.slice none 0 0,.int .i64 0,.int .i64 0,.slice none 0 0,.slice none 0 0,.int .i64 0,.int .i64 0,.slice none 0 0,.slice none 0 0,.int .i64 0,.int .i64 0,.slice none 0 0,.slice none 0 0] 28),(1,some b2,.cells #[.int .i64 0,.int .i64 0] 42),(2,some b3,rdP a B.length c t),(3,some b5,.cells #[.int .i64 x2,.int .i64 x3,.slice o r.length d,.int .i64 0,.int .i64 0,.slice none 0 0,.slice none 0 0,.int .i64 0,.int .i64 0,.slice none 0 0,.slice none 0 0,.int .i64 0,.int .i64 0,.slice none 0 0,.slice none 0 0] 28),(9,o.map (·.block),Row 52 r j)])) (fun (i,Gx,t,r,(o,d,j))=>Gx) (fun (i,Gx,t,r,(o,d,j))=>i≤N∧G4.le Gx∧kR B N t4 []=kR B (N - i) t r∧t.k≤B.length∧OwnA o d r j∧r.length=i) (fun (i,Gx,t,r,(o,d,j))=>N - i) ((0,G4,t4,[],(none,0,[]))) (⟨Nat.zero_le _,Imm.le_refl _,rfl,hk4,OwnA.nil,rfl⟩) rfl ⟨rfl,rfl,rfl,rfl,rfl,rfl,rfl,trivial⟩ ⟨rfl,rfl,rfl,rfl,rfl,trivial⟩ fun ⟨i,Gx,t,r,(o,d,j)⟩=>fun hk=>?_
 obtain ⟨hi,hgy,hpts,hkt,hown,hri⟩:=hk
 replace hA:=hA.up hgy
 rcases Nat.lt_or_ge i N with hiN | hiN
 · refine Wc.gl 14 [1] ?_
   refine Wl.k 2 rfl (c124 _ _ a c B _ hA hB ‹_› hl) fun v5 G5 Ho5 hle5 hp=>?_
   obtain ⟨x5,t5,ht5,hk5,hx5,rfl,rfl⟩:=hp
   replace hA:=hA.up hle5
   refine Wl.gc 3 [] ?_
   refine aN [9,3,1,0,2] [(3,9),(9,7),(2,4)] T.mixed [[0],[1,3],[2],[3]] ?_
   refine Gm.o1 4 ?_
   refine Wl.k 2 rfl (c124 _ _ a c B _ hA hB ‹_› hl) fun v6 G6 Ho6 hle6 hp=>?_
   obtain ⟨x6,t6,ht6,hk6,hx6,rfl,rfl⟩:=hp
   replace hA:=hA.up hle6
   refine aO ?_
   refine Gm.u 5 [] rfl (Qy.build (cs:=[_,_]) T.st52 rfl rfl rfl) ?_
   refine Gm.o1 6 ?_
   refine Wl.lit (α:=R2) 10 [⟨x5,x6⟩] rfl T.sl22 T.el52 rfl rfl rfl rfl rfl fun b6=>?_
   refine Wl.o1 7 ?_
   refine Wl.ap (α:=R2) 9 T.sl22 T.el52 (Src.row 10 rfl) fun a1 c1 junk1 ho1=>?_
   refine aO ?_
   refine Gm.r [[8]] ?_
   refine Gm.o1 9 ?_
   refine aA 1 [3] ?_
   refine aZ ?_
   refine Ar.ga 6 [] ?_
   refine Ar.re 36 rfl (show _=Value.int .i64 ((i+1:Nat):Int) from rfl) ?_
   refine aH ((i+1,G6,t6,r++[⟨x5,x6⟩],(a1,c1,junk1))) ?_ ?_
   · refine ⟨by omega,Imm.le_trans hgy (Imm.le_trans hle5 hle6),?_,hk6,ho1,by rw [List.length_append,hri];rfl⟩
     rw [hpts,show N - i=(N - (i+1))+1 by omega]
     exact zZ ht5 ht6
   show N - (i+1)<N - i
   omega
 have hz:N - i=0:=by omega
 rw [hz] at hpts
 refine Wc.freezeRow 9 rfl hown fun G5 hle5 hpl=>?_
 replace hA:=hA.up hle5
 refine Wc.gl 15 [0] ?_
 refine Wl.k0 rfl (c73 _ _) ?_
 refine Wl.gc 4 [] ?_
 refine Wc.lg (ι:=Nat×Imm×RS×PH×PH×PH) (fun (i,Gx,s,h0,h1,h2)=>([(51,.int .i64 (i:Int)),(50,.agg #[.pointer (some ⟨b5,3,none⟩),.pointer (some ⟨b5,7,none⟩),.pointer (some ⟨b5,11,none⟩)]),(7,.pointer (some ⟨b5,0,none⟩)),(4,.pointer (some ⟨b3,0,none⟩)),(0,.slice a B.length c),(3,Go.Value.pointer (Option.some (Go.Addr.mk b2 0 Option.none))),(2,Go.Value.pointer (Option.some (Go.Addr.mk b1 0 Option.none)))],[(0,some b1,.cells #[.int .i64 0,.int .i64 0,.slice none 0 0,.int .i64 0,.int .i64 0,.slice none 0 0,.slice none 0 0,.int .i64 0,.int .i64 0,.slice none 0 0,.slice none 0 0,.int .i64 0,.int .i64 0,.slice none 0 0,.slice none 0 0] 28),(1,some b2,.cells #[.int .i64 0,.int .i64 0] 42),(2,some b3,rdP a B.length c s),(3,some b5,.cells #[.int .i64 x2,.int .i64 x3,.slice o r.length d,.int .i64 h0.ins,.int .i64 h0.regs,.slice h0.ac h0.cn h0.cc,.slice h0.ao h0.on h0.oc,.int .i64 h1.ins,.int .i64 h1.regs,.slice h1.ac h1.cn h1.cc,.slice h1.ao h1.on h1.oc,.int .i64 h2.ins,.int .i64 h2.regs,.slice h2.ac h2.cn h2.cc,.slice h2.ao h2.on h2.oc] 28)])) (fun (i,Gx,s,h0,h1,h2)=>Gx) (fun (i,Gx,s,h0,h1,h2)=>i≤3∧G5.le Gx∧s=pgS B t i∧s.k≤B.length∧(0<i→PHof Gx (cZ B (pgS B t 0)).1 h0)∧(1<i→PHof Gx (cZ B (pgS B t 1)).1 h1)∧(2<i→PHof Gx (cZ B (pgS B t 2)).1 h2)) (fun (i,Gx,s,h0,h1,h2)=>3 - i) ((0,G5,t,⟨0,0,none,0,0,none,0,0⟩,⟨0,0,none,0,0,none,0,0⟩,⟨0,0,none,0,0,none,0,0⟩)) (⟨Nat.zero_le _,Imm.le_refl _,rfl,hkt,fun h=>absurd h (by omega),fun h=>absurd h (by omega),fun h=>absurd h (by omega)⟩) fun ⟨i,Gx,s,h0,h1,h2⟩=>fun hk=>?_
 obtain ⟨hi3,hgz,hs,hks,hp0,hp1,hp2⟩:=hk
 replace hA:=hA.up hgz
 rcases Nat.lt_or_ge i 3 with hi3' | hi3'
 · rcases (show i=0∨i=1∨i=2 by omega) with rfl | rfl | rfl
   · refine Wc.gl 13 [1] ?_
     refine Wl.p (Ev.Qy.indexV (n:=3) (E:=85) (by kernel_rfl) (by kernel_rfl) (by kernel_rfl) rfl rfl (by decide) rfl) ?_
     refine Wl.gl 6 [] ?_
     refine Wl.k 2 rfl (c125 _ _ a c B _ hA hB ‹_› hl) fun v6 G6 Ho6 hle6 hp=>?_
     obtain ⟨p6,t6,ac6,ao6,cc6,co6,ht6,hk6,rfl,hac6,hao6,hcn6,hon6,rfl⟩:=hp
     replace hA:=hA.up hle6
     refine aA 1 [] ?_
     refine gT 3 T.size26 rfl rfl rfl rfl rfl rfl ?_
     refine Wl.ga 7 [] ?_
     have hq:cZ B (pgS B t 0)=(p6,t6):=by rw [←hs];exact ht6
     refine aH ((1,G6,t6,⟨p6.ins,p6.regs,ac6,p6.code.length,cc6,ao6,p6.outs.length,co6⟩,h1,h2)) ?_ ?_
     · exact ⟨by omega,Imm.le_trans hgz hle6,by show t6=(cZ B (pgS B t 0)).2;rw [hq],hk6,fun _=>by rw [hq];exact ⟨rfl,rfl,rfl,rfl,hac6,hao6⟩,fun h=>absurd h (by omega),fun h=>absurd h (by omega)⟩
     show 3 - 1<3 - 0
     omega
   · refine Wc.gl 13 [1] ?_
     refine Wl.p (Ev.Qy.indexV (n:=3) (E:=85) (by kernel_rfl) (by kernel_rfl) (by kernel_rfl) rfl rfl (by decide) rfl) ?_
     refine Wl.gl 6 [] ?_
     refine Wl.k 2 rfl (c125 _ _ a c B _ hA hB ‹_› hl) fun v6 G6 Ho6 hle6 hp=>?_
     obtain ⟨p6,t6,ac6,ao6,cc6,co6,ht6,hk6,rfl,hac6,hao6,hcn6,hon6,rfl⟩:=hp
     replace hA:=hA.up hle6
     refine aA 1 [] ?_
     refine gT 3 T.size26 rfl rfl rfl rfl rfl rfl ?_
     refine Wl.ga 7 [] ?_
     have hq:cZ B (pgS B t 1)=(p6,t6):=by rw [←hs];exact ht6
     refine aH ((2,G6,t6,h0,⟨p6.ins,p6.regs,ac6,p6.code.length,cc6,ao6,p6.outs.length,co6⟩,h2)) ?_ ?_
     · exact ⟨by omega,Imm.le_trans hgz hle6,by show t6=(cZ B (pgS B t 1)).2;rw [hq],hk6,fun _=>(hp0 (by omega)).up hle6,fun _=>by rw [hq];exact ⟨rfl,rfl,rfl,rfl,hac6,hao6⟩,fun h=>absurd h (by omega)⟩
     show 3 - 2<3 - 1
     omega
   refine Wc.gl 13 [1] ?_
   refine Wl.p (Ev.Qy.indexV (n:=3) (E:=85) (by kernel_rfl) (by kernel_rfl) (by kernel_rfl) rfl rfl (by decide) rfl) ?_
   refine Wl.gl 6 [] ?_
   refine Wl.k 2 rfl (c125 _ _ a c B _ hA hB ‹_› hl) fun v6 G6 Ho6 hle6 hp=>?_
   obtain ⟨p6,t6,ac6,ao6,cc6,co6,ht6,hk6,rfl,hac6,hao6,hcn6,hon6,rfl⟩:=hp
   replace hA:=hA.up hle6
   refine aA 1 [] ?_
   refine gT 3 T.size26 rfl rfl rfl rfl rfl rfl ?_
   refine Wl.ga 7 [] ?_
   have hq:cZ B (pgS B t 2)=(p6,t6):=by rw [←hs];exact ht6
   refine aH ((3,G6,t6,h0,h1,⟨p6.ins,p6.regs,ac6,p6.code.length,cc6,ao6,p6.outs.length,co6⟩)) ?_ ?_
   · exact ⟨by omega,Imm.le_trans hgz hle6,by show t6=(cZ B (pgS B t 2)).2;rw [hq],hk6,fun _=>(hp0 (by omega)).up hle6,fun _=>(hp1 (by omega)).up hle6,fun _=>by rw [hq];exact ⟨rfl,rfl,rfl,rfl,hac6,hao6⟩⟩
   show 3 - 3<3 - 2
   omega
 obtain rfl:i=3:=by omega
 refine Wc.gc 12 [0] ?_
 refine pK (ι:=Imm×RS) (fun (Gy,u)=>([(7,.pointer (some ⟨b5,0,none⟩)),(4,.pointer (some ⟨b3,0,none⟩)),(0,.slice a B.length c),(3,.pointer (some ⟨b2,0,none⟩)),(2,.pointer (some ⟨b1,0,none⟩))],[(0,some b1,.cells #[.int .i64 0,.int .i64 0,.slice none 0 0,.int .i64 0,.int .i64 0,.slice none 0 0,.slice none 0 0,.int .i64 0,.int .i64 0,.slice none 0 0,.slice none 0 0,.int .i64 0,.int .i64 0,.slice none 0 0,.slice none 0 0] 28),(1,some b2,.cells #[.int .i64 0,.int .i64 0] 42),(2,some b3,rdP a B.length c u),(3,some b5,.cells #[.int .i64 x2,.int .i64 x3,.slice o r.length d,.int .i64 h0.ins,.int .i64 h0.regs,.slice h0.ac h0.cn h0.cc,.slice h0.ao h0.on h0.oc,.int .i64 h1.ins,.int .i64 h1.regs,.slice h1.ac h1.cn h1.cc,.slice h1.ao h1.on h1.oc,.int .i64 h2.ins,.int .i64 h2.regs,.slice h2.ac h2.cn h2.cc,.slice h2.ao h2.on h2.oc] 28)])) (fun (Gy,u)=>Gy) (fun (Gy,u)=>Gx.le Gy∧u=wY B s∧u.k≤B.length) ?_ fun ⟨Gy,u⟩=>fun (hk:Gx.le Gy∧u=wY B s∧u.k≤B.length)=>?_
 · refine Wc.gc 9 [2] ?_
   refine lE rfl (fun hc1=>?_) fun hc1=>?_
   refine Wc.gl 7 [2] ?_
   refine Wl.p (pF T.sl38 rfl rfl (by omega)) ?_
   rotate_left
   refine Wc.skip ?_
   rotate_left
   · refine Wl.re 69 rfl (show _=Value.slice (subA a c 0 1) (B.take s.k).length c by congr 1;rw [List.length_take];omega) ?_
     refine Wl.k0 rfl (c126 _ _ _ (B.take s.k) (mQ hA _) (hB.take _) (by rw [List.length_take];omega)) ?_
     refine Wl.gl 7 [] ?_
     refine Wl.p (Qy.shr rfl rfl (by omega)) ?_
     refine aA 1 [] ?_
     refine Wl.p (Qy.shr rfl rfl (by omega)) ?_
     refine Wl.k 2 rfl (kH _ _ a c B _ _ _ hA hB ‹_› hl) fun v6 G6 Ho6 hle6 hp=>?_
     obtain ⟨x6,t6,ht6,hk6,hx6,rfl,rfl⟩:=hp
     replace hA:=hA.up hle6
     refine Wl.gl 5 [] ?_
     refine Wl.p (eD rfl rfl) ?_
     refine aA 1 [] ?_
     refine Wl.p (eD rfl rfl) ?_
     refine Wl.k 2 rfl (kH _ _ a c B _ _ _ hA hB ‹_› hl) fun v7 G7 Ho7 hle7 hp=>?_
     obtain ⟨x7,t7,ht7,hk7,hx7,rfl,rfl⟩:=hp
     replace hA:=hA.up hle7
     refine Wl.done ?_
     have hcs:eU (List.take s.k B) (List.take s.k B).length=eU B s.k:=by rw [List.length_take,Nat.min_eq_left hks];exact rW s.k (Nat.le_refl _) hks
     rw [aNY,hcs] at ht6
     rw [hcs,aNZ ⟨(nC _).1,by have:=(nC (B:=B) s.k).2;omega⟩] at ht7
     refine Ar.mt ((G7,t7)) ?_
     exact ⟨Imm.le_trans hle6 hle7,(aGZ (by have:=hc1;cases hw:s.wr <;> simp_all) rfl ht6 ht7).symm,hk7⟩
   refine Ar.mt ((Gx,s)) ?_
   exact ⟨Imm.le_refl _,(tO (by have:=hc1;cases hw:s.wr <;> simp_all)).symm,hks⟩
 obtain ⟨hgw,hu,hku⟩:=hk
 have hdec:dS B=(⟨x2,x3,r,(cZ B (pgS B t 0)).1,(cZ B (pgS B t 1)).1,(cZ B (pgS B t 2)).1⟩,u):=by
  unfold dS
  rw [←ht0,ht2]
  dsimp only
  rw [ht3]
  dsimp only
  rw [ht4]
  dsimp only
  rw [show x4.toNat=N by omega,hpts,hu,hs]
  rfl
 refine Wc.gl 8 [2] ?_
 refine xG 87 rfl (fun hg1=>?_) fun hg1=>?_
 refine Wl.gc 12 [1] ?_
 refine Wc.draw [3,2,1,0] [(1,7),(0,6)] T.mixed rfl ?_
 refine Gm.u 0 [] rfl (Qy.build (cs:=[_,_,_,_,_,_,_,_,_,_,_,_,_,_,_]) T.st28 rfl rfl rfl) ?_
 refine Gm.r [[1],[2],[3],[4,2]] ?_
 refine Gm.u 5 [] rfl (Qy.build (cs:=[_,_]) T.st42 rfl rfl rfl) ?_
 refine Gm.o1 6 ?_
 refine aA 1 [0] ?_
 refine Wl.o1 7 ?_
 refine aA 1 [1] ?_
 refine aZ ?_
 refine Ar.ga 3 [] ?_
 rotate_left
 refine Wl.gc 17 [2] ?_
 refine Wc.i (fun hc1=>?_) fun hc1=>?_
 refine Wc.seq ?_
 refine Wc.draw [3,2,1,0] [(1,7),(0,6)] T.mixed rfl ?_
 refine Gm.u 0 [] rfl (Qy.build (cs:=[_,_,_,_,_,_,_,_,_,_,_,_,_,_,_]) T.st28 rfl rfl rfl) ?_
 refine Gm.r [[1],[2],[3],[4,2]] ?_
 refine Gm.u 5 [] rfl (Qy.build (cs:=[_,_]) T.st42 rfl rfl rfl) ?_
 refine Gm.o1 6 ?_
 refine aA 1 [0] ?_
 refine Wl.o1 7 ?_
 refine aA 1 [1] ?_
 refine aZ ?_
 refine Ar.ga 3 [] ?_
 rotate_left
 refine Wc.gl 5 [3] ?_
 refine Wl.p (Qy.build (cs:=[_,_]) T.st42 rfl rfl rfl) ?_
 refine Wl.ga 5 [0,1] ?_
 rotate_left
 · refine bQ (.inr rfl) (Ho:=Hp.only _ []) rfl (.agg 0 rfl rfl T.agg28) (.agg 1 rfl rfl T.agg42) (aC _ _) ?_
   exact ⟨_,u,hdec,hku,rfl,.inl ⟨.inl ‹_›,rfl⟩⟩
 · refine bQ (.inr rfl) (Ho:=Hp.only _ []) rfl (.agg 0 rfl rfl T.agg28) (.agg 1 rfl rfl T.agg42) (aC _ _) ?_
   exact ⟨_,u,hdec,hku,rfl,.inl ⟨.inr (by omega),rfl⟩⟩
 refine bQ (.inr rfl) (Ho:=Hp.only _ []) rfl (.agg 0 rfl rfl T.agg28) (.agg 1 rfl rfl T.agg42) (aC _ _) ?_
 exact ⟨_,u,hdec,hku,rfl,.inr ⟨by assumption,by omega,o,d,h0,h1,h2,rfl,hown.le,(hpl.up hgz).up hgw,(hp0 (by omega)).up hgw,(hp1 (by omega)).up hgw,(hp2 (by omega)).up hgw⟩⟩
theorem vR {α β:Type} {p:α×β} {b:β} (h:p.2=b):p=(p.1,b):=by rw [←h]
theorem aOA {B:List U8} {s:RS} (h:s.wr=true):(cZ B s).2=s:=
 congrArg Prod.snd (qF (uY h) (uY h) (uZ h) (uZ h) rfl (vA _ _ _ h) (uY h) rfl (vR (mY _ _ _ h)))
theorem kW {B:List U8} {s t:RS} (h:(cZ B s).2=t) (hw:t.wr=false):s.wr=false:=by
 cases hs:s.wr with
 | false=>rfl
 | true=>rw [aOA hs] at h;rw [←h,hs] at hw;cases hw
theorem aAA {B:List U8} {t1 t2 t3 t t4 t6 t7:RS} {k1 k2 n:Int} {N:Nat} {pl:List R2} {x y z:PV} (e1:wi B (oA B 4) 1 8=(k1,t1)) (e2:wi B t1 1 8=(k2,t2)) (e3:wi B t2 0 255=(n,t3)) (hN:n.toNat=N) (e4:kR B N t3 []=(pl,t)) (e5:cZ B t=(x,t4)) (e6:cZ B t4=(y,t6)) (e7:cZ B t6=(z,t7)):dS B=(⟨k1,k2,pl,x,y,z⟩,wY B t7):=by
 subst hN
 unfold dS
 rw [e1]
 dsimp only
 rw [e2]
 dsimp only
 rw [e3]
 dsimp only
 rw [e4]
 dsimp only
 rw [e5]
 dsimp only
 rw [e6]
 dsimp only
 rw [e7]
theorem wu8 {x:Int}:IntKind.u8.wrap x=x % 256:=by
 simp [IntKind.wrap,IntKind.bits,IntKind.signed]
theorem c62X (G:Imm) (b:Nat) (a:Option Addr) (c:Nat) (B:List U8) (s:RS) (hA:Arr G a B) (hB:Bytes B) (hk:s.k≤B.length) (hl:B.length≤1048576) :
 Does Tryz.prog 62 [.pointer (some ⟨b,0,none⟩)] G [(0,some b,rdR a B.length c s)] (fun v G' Ho=>∃ (x q:Int) (t:RS),sg B s=(q,t)∧t.k≤B.length∧(-256≤x∧x≤255)∧(t.wr=false→x=q)∧v=.int .i64 x∧G'=G∧Ho=[(0,some b,rdR a B.length c t)]):=
 (c62 G b a c B s hA hB hk hl).mono fun v G' Ho _ ⟨x,h1,h2,h3,h4,h5⟩=>⟨x,_,_,rfl,sg_k hk,h2,h3,h1,h4,h5⟩
theorem c64 (G:Imm) (n:Int) (hn:0≤n∧n≤65520):Does Tryz.prog 64 [.int .i64 n] G [] (fun v G' Ho=>∃ (a:Option Addr) (C:List U8),C=[⟨n / 256⟩,⟨n % 256⟩]∧C.length=2∧v=.slice a C.length 2∧Arr G' a C∧Ho=[]):=by
 refine D0 Tryz.func64 Tryz.ntmps64 fun w=>?_
 refine Wc.gl 9 [] ?_
 refine Wl.p (cO rfl rfl (by omega)) ?_
 refine Wl.gl 6 [] ?_
 refine Wl.p (fN rfl rfl (by omega)) ?_
 refine Wl.p (bE rfl T.u5 rfl) ?_
 refine aA 1 [] ?_
 refine Wl.p (cO rfl rfl (by omega)) ?_
 refine Wl.p (bE rfl T.u5 rfl) ?_
 refine Wl.re 8 rfl (show _=Value.int .u8 (n / 256) by rw [wu8];congr 1;omega) ?_
 refine Wl.re 11 rfl (show _=Value.int .u8 (n % 256) by rw [wu8];congr 1;omega) ?_
 refine Wl.lit (α:=U8) 0 [⟨n / 256⟩,⟨n % 256⟩] rfl T.sl38 T.el5 rfl rfl rfl rfl rfl fun b1=>?_
 refine Wl.ga 4 [] ?_
 refine Ar.freezeRow 0 rfl (dV (xs:=[(⟨n / 256⟩:U8),⟨n % 256⟩]) (by simp [maxLen])) fun G9 hle9 hA=>?_
 refine Ar.e1 ?_
 exact ⟨_,_,rfl,rfl,rfl,hA,rfl⟩
theorem c16 (G:Imm) (a:Option Addr) (c:Nat) (B:List U8) (hA:Arr G a B) (hc:B.length≤c) (hB:Bytes B) (hl:B.length≤65520) :
 Does Tryz.prog 16 [.slice a B.length c] G [] (fun v G' Ho=>∃ (u:UV) (t:RS),(dS B).2=t∧t.k≤B.length∧Ho=[]∧(((t.wr=true∨t.k<B.length)∧v=.tuple #[nB 0 0 none 0 0 ⟨0,0,none,0,0,none,0,0⟩ ⟨0,0,none,0,0,none,0,0⟩ ⟨0,0,none,0,0,none,0,0⟩,.int .i64 (t.k:Int)])∨
  (t.wr=false∧t.k=B.length∧dS B=(u,t)∧∃ (pa:Option Addr) (pc:Nat) (h0 h1 h2:PH),v=.tuple #[nB u.k1 u.k2 pa u.pl.length pc h0 h1 h2,.int .i64 (-1)]∧u.pl.length≤pc∧Arr G' pa u.pl∧PHof G' u.x h0∧PHof G' u.y h1∧PHof G' u.z h2))):=by
 have hl0:=hl
 replace hl:B.length≤1048576:=by omega
 refine D0 Tryz.func16 Tryz.ntmps16 fun w=>?_
 refine Wc.gl 2 [] ?_
 refine Wl.alloc 0 rfl T.zero28 fun b1=>?_
 refine Wl.gl 6 [] ?_
 refine Wl.p (Qy.build (cs:=[_,_,_]) T.st108 rfl rfl rfl) ?_
 refine Wl.x 1 fun b2=>?_
 refine Wl.gl 5 [] ?_
 refine Wl.p (rB (cs:=[_,_,_,_]) T.ar109 rfl rfl rfl) ?_
 refine Wl.alloc 2 rfl T.zero109 fun b3=>?_
 refine Wl.gc 10 [2] ?_
 refine Wc.lp (ι:=Nat×RS) (fun (i,tm)=>([(6,.int .i64 (i:Int)),(5,.pointer (some ⟨b3,0,none⟩)),(4,.pointer (some ⟨b2,0,none⟩)),(0,.slice a B.length c),(3,.int .i64 0),(2,.pointer (some ⟨b1,0,none⟩))],[(0,some b1,.cells #[.int .i64 0,.int .i64 0,.slice none 0 0,.int .i64 0,.int .i64 0,.slice none 0 0,.slice none 0 0,.int .i64 0,.int .i64 0,.slice none 0 0,.slice none 0 0,.int .i64 0,.int .i64 0,.slice none 0 0,.slice none 0 0] 28),(1,some b2,rdR a B.length c tm),(2,some b3,.cells #[.int .i64 65,.int .i64 78,.int .i64 86,.int .i64 49] 109)])) (fun (i,tm)=>i≤4∧tm=oA B i∧tm.k≤B.length) (fun (i,tm)=>4 - i) ((0,⟨0,false⟩)) (⟨Nat.zero_le _,rfl,Nat.zero_le _⟩) fun ⟨i,tm⟩=>fun hk=>?_
 obtain ⟨hi,ht0,hk0⟩:=hk
 rcases Nat.lt_or_ge i 4 with hi4 | hi4
 · rcases (show i=0∨i=1∨i=2∨i=3 by omega) with rfl | rfl | rfl | rfl
   · refine Wc.gc 12 [1] ?_
     refine aN [2,1,0] [(1,7)] T.mixed [[0],[1]] ?_
     refine Gm.u 2 [0] rfl (aY 0 T.ar109 rfl rfl rfl rfl) ?_
     refine Gm.r [[3,2],[4]] ?_
     refine Gm.u 5 [0] rfl (aY 0 T.ar109 rfl rfl rfl rfl) ?_
     refine Gm.r [[6,2]] ?_
     refine Gm.o1 7 ?_
     refine Wl.k 1 rfl (cP _ _ a c B _ _ _ hA hB ‹_› hl) fun v1 G1 Ho1 hle1 hp=>?_
     obtain ⟨x1,t1,ht1,hk1,hx1,rfl,rfl,rfl⟩:=hp
     refine aZ ?_
     refine Ar.ga 7 [] ?_
     refine aH ((1,t1)) ?_ ?_
     · exact ⟨by omega,((congrArg Prod.snd ht1).symm.trans (by rw [ht0];rfl):t1=(wi B (oA B 0) (nZ 0) (nZ 0)).2),hk1⟩
     show 4 - 1<4 - 0
     omega
   · refine Wc.gc 12 [1] ?_
     refine aN [2,1,0] [(1,7)] T.mixed [[0],[1]] ?_
     refine Gm.u 2 [] rfl (aY 1 T.ar109 rfl rfl rfl rfl) ?_
     refine Gm.r [[3,2],[4]] ?_
     refine Gm.u 5 [] rfl (aY 1 T.ar109 rfl rfl rfl rfl) ?_
     refine Gm.r [[6,2]] ?_
     refine Gm.o1 7 ?_
     refine Wl.k 1 rfl (cP _ _ a c B _ _ _ hA hB ‹_› hl) fun v1 G1 Ho1 hle1 hp=>?_
     obtain ⟨x1,t1,ht1,hk1,hx1,rfl,rfl,rfl⟩:=hp
     refine aZ ?_
     refine Ar.ga 7 [] ?_
     refine aH ((2,t1)) ?_ ?_
     · exact ⟨by omega,((congrArg Prod.snd ht1).symm.trans (by rw [ht0];rfl):t1=(wi B (oA B 1) (nZ 1) (nZ 1)).2),hk1⟩
     show 4 - 2<4 - 1
     omega
   · refine Wc.gc 12 [1] ?_
     refine aN [2,1,0] [(1,7)] T.mixed [[0],[1]] ?_
     refine Gm.u 2 [2] rfl (aY 2 T.ar109 rfl rfl rfl rfl) ?_
     refine Gm.r [[3,2],[4]] ?_
     refine Gm.u 5 [2] rfl (aY 2 T.ar109 rfl rfl rfl rfl) ?_
     refine Gm.r [[6,2]] ?_
     refine Gm.o1 7 ?_
     refine Wl.k 1 rfl (cP _ _ a c B _ _ _ hA hB ‹_› hl) fun v1 G1 Ho1 hle1 hp=>?_
     obtain ⟨x1,t1,ht1,hk1,hx1,rfl,rfl,rfl⟩:=hp
     refine aZ ?_
     refine Ar.ga 7 [] ?_
     refine aH ((3,t1)) ?_ ?_
     · exact ⟨by omega,((congrArg Prod.snd ht1).symm.trans (by rw [ht0];rfl):t1=(wi B (oA B 2) (nZ 2) (nZ 2)).2),hk1⟩
     show 4 - 3<4 - 2
     omega
   refine Wc.gc 12 [1] ?_
   refine aN [2,1,0] [(1,7)] T.mixed [[0],[1]] ?_
   refine Gm.u 2 [] rfl (aY 3 T.ar109 rfl rfl rfl rfl) ?_
   refine Gm.r [[3,2],[4]] ?_
   refine Gm.u 5 [] rfl (aY 3 T.ar109 rfl rfl rfl rfl) ?_
   refine Gm.r [[6,2]] ?_
   refine Gm.o1 7 ?_
   refine Wl.k 1 rfl (cP _ _ a c B _ _ _ hA hB ‹_› hl) fun v1 G1 Ho1 hle1 hp=>?_
   obtain ⟨x1,t1,ht1,hk1,hx1,rfl,rfl,rfl⟩:=hp
   refine aZ ?_
   refine Ar.ga 7 [] ?_
   refine aH ((4,t1)) ?_ ?_
   · exact ⟨by omega,((congrArg Prod.snd ht1).symm.trans (by rw [ht0];rfl):t1=(wi B (oA B 3) (nZ 3) (nZ 3)).2),hk1⟩
   show 4 - 4<4 - 3
   omega
 obtain rfl:i=4:=by omega
 refine Wc.gl 15 [0] ?_
 refine Wl.alloc 3 rfl T.zero28 fun b4=>?_
 refine Wl.gl 5 [] ?_
 refine Wl.k 1 rfl (cP _ _ a c B _ _ _ hA hB ‹_› hl) fun v1 G1 Ho1 hle1 hp=>?_
 obtain ⟨x1,t1,ht1,hk1,hx1,rfl,rfl,rfl⟩:=hp
 refine Wl.gl 7 [3] ?_
 refine Wl.k 1 rfl (cP _ _ a c B _ _ _ hA hB ‹_› hl) fun v2 G2 Ho2 hle2 hp=>?_
 obtain ⟨x2,t2,ht2,hk2,hx2,rfl,rfl,rfl⟩:=hp
 refine Wl.gl 7 [3] ?_
 refine Wl.k 1 rfl (cP _ _ a c B _ _ _ hA hB ‹_› hl) fun v3 G3 Ho3 hle3 hp=>?_
 obtain ⟨x3,t3,ht3,hk3,hx3,rfl,rfl,rfl⟩:=hp
 refine Wl.gc 3 [] ?_
 obtain ⟨N,hN,hN2⟩:∃ N:Nat,x3=(N:Int)∧N≤255:=⟨x3.toNat,by omega,by omega⟩
 refine Wc.re 8 rfl (show _=Value.int .i64 (N:Int) by rw [hN]) ?_
 refine bF 9 (Row 52 ([]:List R2) []) ?_
 refine eY (ι:=RS×List R2×(Option Addr×Nat×List Value)) (fun (t,r,(o,d,j))=>([(7,Go.Value.pointer (Option.some (Go.Addr.mk b4 0 Option.none))),(4,Go.Value.pointer (Option.some (Go.Addr.mk b2 0 Option.none))),(0,Go.Value.slice a (List.length B) c),(3,Go.Value.int Go.IntKind.i64 0),(2,Go.Value.pointer (Option.some (Go.Addr.mk b1 0 Option.none)))],[(1,some b2,rdR a B.length c t),(3,some b4,.cells #[.int .i64 x1,.int .i64 x2,.slice o r.length d,.int .i64 0,.int .i64 0,.slice none 0 0,.slice none 0 0,.int .i64 0,.int .i64 0,.slice none 0 0,.slice none 0 0,.int .i64 0,.int .i64 0,.slice none 0 0,.slice none 0 0] 28),(9,o.map (·.block),Row 52 r j),(0,Option.some b1,Go.Obj.cells #[Go.Value.int Go.IntKind.i64 0,Go.Value.int Go.IntKind.i64 0,Go.Value.slice Option.none 0 0,Go.Value.int Go.IntKind.i64 0,Go.Value.int Go.IntKind.i64 0,Go.Value.slice Option.none 0 0,Go.Value.slice Option.none 0 0,Go.Value.int Go.IntKind.i64 0,Go.Value.int Go.IntKind.i64 0,Go.Value.slice Option.none 0 0,Go.Value.slice Option.none 0 0,Go.Value.int Go.IntKind.i64 0,Go.Value.int Go.IntKind.i64 0,Go.Value.slice Option.none 0 0,Go.Value.slice Option.none 0 0] 28),(2,Option.some b3,Go.Obj.cells #[Go.Value.int Go.IntKind.i64 65,Go.Value.int Go.IntKind.i64 78,Go.Value.int Go.IntKind.i64 86,Go.Value.int Go.IntKind.i64 49] 109)])) (fun (t,r,(o,d,j))=>(kR B N t3 []).2=t∧t.k≤B.length∧OwnA o d r j∧(t.wr=false→kR B N t3 []=(r,t))) ?_ fun ⟨t,r,(o,d,j)⟩=>fun (hk:(kR B N t3 []).2=t∧t.k≤B.length∧OwnA o d r j∧(t.wr=false→kR B N t3 []=(r,t)))=>?_
 · refine Wc.gc 6 [] ?_
   refine Wc.loop (ι:=Nat×RS×List R2×(Option Addr×Nat×List Value)) (fun (i,t,r,(o,d,j))=>([(9,.int .i64 (i:Int)),(8,.int .i64 (N:Int)),(7,.pointer (some ⟨b4,0,none⟩)),(4,.pointer (some ⟨b2,0,none⟩)),(0,.slice a B.length c),(3,.int .i64 0),(2,.pointer (some ⟨b1,0,none⟩))],[(0,some b1,.cells #[.int .i64 0,.int .i64 0,.slice none 0 0,.int .i64 0,.int .i64 0,.slice none 0 0,.slice none 0 0,.int .i64 0,.int .i64 0,.slice none 0 0,.slice none 0 0,.int .i64 0,.int .i64 0,.slice none 0 0,.slice none 0 0] 28),(1,some b2,rdR a B.length c t),(3,some b4,.cells #[.int .i64 x1,.int .i64 x2,.slice o r.length d,.int .i64 0,.int .i64 0,.slice none 0 0,.slice none 0 0,.int .i64 0,.int .i64 0,.slice none 0 0,.slice none 0 0,.int .i64 0,.int .i64 0,.slice none 0 0,.slice none 0 0] 28),(9,o.map (·.block),Row 52 r j),(2,Option.some b3,Go.Obj.cells #[Go.Value.int Go.IntKind.i64 65,Go.Value.int Go.IntKind.i64 78,Go.Value.int Go.IntKind.i64 86,Go.Value.int Go.IntKind.i64 49] 109)])) (fun (i,t,r,(o,d,j))=>i≤N∧t.k≤B.length∧OwnA o d r j∧r.length=i∧(t.wr=false→kR B N t3 []=kR B (N - i) t r)∧(t.wr=true→(kR B N t3 []).2=t)) (fun (i,t,r,(o,d,j))=>N - i) ((0,t3,[],(none,0,[]))) (⟨Nat.zero_le _,hk3,OwnA.nil,rfl,fun _=>rfl,fun h=>tE _ _ _ h⟩) ⟨rfl,rfl,rfl,rfl,rfl,rfl,rfl,trivial⟩ ⟨rfl,rfl,rfl,rfl,rfl,trivial⟩ fun ⟨i,t,r,(o,d,j)⟩=>fun hk=>?_
   obtain ⟨hi,hkt,hown,hri,hpts,hpw⟩:=hk
   rcases Nat.lt_or_ge i N with hiN | hiN
   · refine Wc.gl 7 [] ?_
     refine lZ 39 ?_
     refine Wl.gc 13 [1] ?_
     refine Wc.i (fun hc1=>?_) fun hc1=>?_
     refine Wc.gl 7 [] ?_
     refine Wl.k 1 rfl (c62X _ _ a c B _ hA hB ‹_› hl) fun v4 G4 Ho4 hle4 hp=>?_
     obtain ⟨x4,q4,t4,ht4,hk4,hx4,hq4,rfl,rfl,rfl⟩:=hp
     refine Wl.gc 3 [] ?_
     refine aN [2,9,3,0,1] [(3,9),(9,7),(1,4)] T.mixed [[0],[1,3],[2],[3]] ?_
     refine Gm.o1 4 ?_
     refine Wl.k 1 rfl (c62X _ _ a c B _ hA hB ‹_› hl) fun v5 G5 Ho5 hle5 hp=>?_
     obtain ⟨x5,q5,t5,ht5,hk5,hx5,hq5,rfl,rfl,rfl⟩:=hp
     refine aO ?_
     refine Gm.u 5 [] rfl (Qy.build (cs:=[_,_]) T.st52 rfl rfl rfl) ?_
     refine Gm.o1 6 ?_
     refine Wl.lit (α:=R2) 10 [⟨x4,x5⟩] rfl T.sl22 T.el52 rfl rfl rfl rfl rfl fun b5=>?_
     refine Wl.o1 7 ?_
     refine Wl.ap (α:=R2) 9 T.sl22 T.el52 (Src.row 10 rfl) fun a1 c1 junk1 ho1=>?_
     refine aO ?_
     refine Gm.r [[8]] ?_
     refine Gm.o1 9 ?_
     refine aA 1 [3] ?_
     refine aZ ?_
     refine Ar.ga 7 [] ?_
     rotate_left
     refine Wc.ga 4 [] ?_
     rotate_left
     · have hw:=mZ.1 hc1
       have hNi:N - i=(N - (i+1))+1:=by omega
       refine Ar.re 9 rfl (show _=Value.int .i64 ((i+1:Nat):Int) from rfl) ?_
       refine aH ((i+1,t5,r++[⟨x4,x5⟩],(a1,c1,junk1))) ?_ ?_
       · refine ⟨by omega,hk5,ho1,by rw [List.length_append,hri];rfl,fun h=>?_,fun h=>?_⟩
         · have h4:t4.wr=false:=by
            cases h4:t4.wr with
            | false=>rfl
            | true=>have e:=aNI (B:=B) h4;rw [ht5] at e;replace e:t5=t4:=e;rw [e,h4] at h;cases h
           rw [hpts hw,hNi,hq5 h,hq4 h4]
           exact zZ ht4 ht5
         rw [hpts hw,hNi,zZ ht4 ht5]
         exact tE _ _ _ h
       show N - (i+1)<N - i
       omega
     have hw:t.wr=true:=by cases hw:t.wr with | true=>rfl | false=>exact absurd (mZ.2 hw) hc1
     refine Ar.mt ((t,r,(o,d,j))) ?_
     exact ⟨hpw hw,hkt,hown,fun h=>by rw [hw] at h;cases h⟩
   have hz:N - i=0:=by omega
   rw [hz] at hpts
   refine Wc.gl 7 [] ?_
   refine dB 39 ?_
   refine Wl.ga 13 [0] ?_
   refine Ar.mt ((t,r,(o,d,j))) ?_
   refine ⟨?_,hkt,hown,hpts⟩
   cases hw:t.wr with
   | true=>exact hpw hw
   | false=>rw [hpts hw];rfl
 obtain ⟨hc2,hkt,hown,hpts⟩:=hk
 refine Wc.freezeRow 9 rfl hown fun G5 hle5 hpl=>?_
 replace hA:=hA.up hle5
 refine Wc.gl 3 [] ?_
 refine Wl.k 1 rfl (c63 _ _ a c B _ hA hB ‹_› hl) fun v4 G4 Ho4 hle4 hp=>?_
 obtain ⟨p4,t4,ac4,ao4,cc4,co4,ht4,hk4,rfl,hac4,hao4,hp4,rfl⟩:=hp
 replace hpl:=hpl.up hle4
 replace hA:=hA.up hle4
 refine aA 1 [] ?_
 refine gT 3 T.size26 rfl rfl rfl rfl rfl rfl ?_
 refine Wl.gl 5 [] ?_
 refine Wl.k 1 rfl (c63 _ _ a c B _ hA hB ‹_› hl) fun v6 G6 Ho6 hle6 hp=>?_
 obtain ⟨p6,t6,ac6,ao6,cc6,co6,ht6,hk6,rfl,hac6,hao6,hp6,rfl⟩:=hp
 replace hac4:=hac4.up hle6
 replace hao4:=hao4.up hle6
 replace hpl:=hpl.up hle6
 replace hA:=hA.up hle6
 refine aA 1 [] ?_
 refine gT 3 T.size26 rfl rfl rfl rfl rfl rfl ?_
 refine Wl.gl 5 [] ?_
 refine Wl.k 1 rfl (c63 _ _ a c B _ hA hB ‹_› hl) fun v7 G7 Ho7 hle7 hp=>?_
 obtain ⟨p7,t7,ac7,ao7,cc7,co7,ht7,hk7,rfl,hac7,hao7,hp7,rfl⟩:=hp
 replace hac6:=hac6.up hle7
 replace hao6:=hao6.up hle7
 replace hac4:=hac4.up hle7
 replace hao4:=hao4.up hle7
 replace hpl:=hpl.up hle7
 replace hA:=hA.up hle7
 refine aA 1 [] ?_
 refine gT 3 T.size26 rfl rfl rfl rfl rfl rfl ?_
 refine Wl.gc 2 [] ?_
 refine pK (ι:=Imm×RS) (fun (Gy,u)=>([(7,.pointer (some ⟨b4,0,none⟩)),(4,.pointer (some ⟨b2,0,none⟩)),(0,.slice a B.length c),(3,.int .i64 0),(2,.pointer (some ⟨b1,0,none⟩))],[(0,some b1,.cells #[.int .i64 0,.int .i64 0,.slice none 0 0,.int .i64 0,.int .i64 0,.slice none 0 0,.slice none 0 0,.int .i64 0,.int .i64 0,.slice none 0 0,.slice none 0 0,.int .i64 0,.int .i64 0,.slice none 0 0,.slice none 0 0] 28),(1,some b2,rdR a B.length c u),(3,some b4,.cells #[.int .i64 x1,.int .i64 x2,.slice o r.length d,.int .i64 p4.ins,.int .i64 p4.regs,.slice ac4 p4.code.length cc4,.slice ao4 p4.outs.length co4,.int .i64 p6.ins,.int .i64 p6.regs,.slice ac6 p6.code.length cc6,.slice ao6 p6.outs.length co6,.int .i64 p7.ins,.int .i64 p7.regs,.slice ac7 p7.code.length cc7,.slice ao7 p7.outs.length co7] 28)])) (fun (Gy,u)=>Gy) (fun (Gy,u)=>G7.le Gy∧u=wY B t7∧u.k≤B.length) ?_ fun ⟨Gy,u⟩=>fun (hk:G7.le Gy∧u=wY B t7∧u.k≤B.length)=>?_
 · refine Wc.gc 9 [1] ?_
   refine Wc.i (fun hc1=>?_) fun hc1=>?_
   refine Wc.gl 7 [1] ?_
   refine Wl.p (pF T.sl38 rfl rfl (by omega)) ?_
   rotate_left
   refine Wc.skip ?_
   rotate_left
   · have hw:=mZ.1 hc1
     have hT:(B.take t7.k).length=t7.k:=by rw [List.length_take];omega
     refine Wl.re 78 rfl (show _=Value.slice (subA a c 0 1) (B.take t7.k).length c by congr 1;rw [hT];omega) ?_
     refine Wl.k0 rfl (c65 _ _ _ (B.take t7.k) (mQ hA _) (hB.take _) (by omega)) ?_
     have hcs:eU (List.take t7.k B) (List.take t7.k B).length=eU B t7.k:=by rw [hT];exact rW t7.k (Nat.le_refl _) hk7
     rw [hcs]
     refine Wl.k 10 rfl (c64 _ _ ⟨(nC _).1,(nC _).2⟩) fun v8 G8 Ho8 hle8 hp=>?_
     obtain ⟨ca8,C8,hC8,hCl8,rfl,hCA8,rfl⟩:=hp
     replace hac7:=hac7.up hle8
     replace hao7:=hao7.up hle8
     replace hac6:=hac6.up hle8
     replace hao6:=hao6.up hle8
     replace hac4:=hac4.up hle8
     replace hao4:=hao4.up hle8
     replace hpl:=hpl.up hle8
     replace hA:=hA.up hle8
     refine Wl.gc 4 [] ?_
     refine aN [2,0,1,3] [(1,9)] T.mixed [[0],[1]] ?_
     refine Gm.at (α:=U8) 2 T.sl38 ?_
     refine Gm.u 3 [0] rfl (aL T.one5 rfl (Arr.cell ‹_› (by omega) 0 rfl rfl)) ?_
     refine Gm.u 4 [] rfl (bE rfl T.u3 rfl) ?_
     refine Gm.r [[5]] ?_
     refine Gm.at (α:=U8) 6 T.sl38 ?_
     refine Gm.u 7 [0] rfl (aL T.one5 rfl (Arr.cell ‹_› (by omega) 0 rfl rfl)) ?_
     refine Gm.u 8 [] rfl (bE rfl T.u3 rfl) ?_
     refine Gm.o1 9 ?_
     refine Wl.k 1 rfl (cP _ _ a c B _ _ _ hA hB ‹_› hl) fun v9 G9 Ho9 hle9 hp=>?_
     obtain ⟨x9,t9,ht9,hk9,hx9,rfl,rfl,rfl⟩:=hp
     refine aZ ?_
     refine Ar.next ?_
     refine aN [2,0,3,1] [(1,9)] T.mixed [[0],[1]] ?_
     refine Gm.at (α:=U8) 2 T.sl38 ?_
     refine Gm.u 3 [0] rfl (aL T.one5 rfl (Arr.cell ‹_› (by omega) 0 rfl rfl)) ?_
     refine Gm.u 4 [] rfl (bE rfl T.u3 rfl) ?_
     refine Gm.r [[5]] ?_
     refine Gm.at (α:=U8) 6 T.sl38 ?_
     refine Gm.u 7 [0] rfl (aL T.one5 rfl (Arr.cell ‹_› (by omega) 0 rfl rfl)) ?_
     refine Gm.u 8 [] rfl (bE rfl T.u3 rfl) ?_
     refine Gm.o1 9 ?_
     refine Wl.k 1 rfl (cP _ _ a c B _ _ _ hA hB ‹_› hl) fun v10 G10 Ho10 hle10 hp=>?_
     obtain ⟨x10,t10,ht10,hk10,hx10,rfl,rfl,rfl⟩:=hp
     refine aZ ?_
     refine Ar.mt ((G10,t10)) ?_
     refine ⟨hle8,?_,hk10⟩
     have hv:=nC (B:=B) t7.k
     rw [hC8] at ht9 ht10
     rw [show IntKind.i64.wrap (([(⟨eU B t7.k / 256⟩:U8),⟨eU B t7.k % 256⟩][Int.toNat 0]?).getD default).v=eU B t7.k / 256 from w64 (by show _≤eU B t7.k / 256∧eU B t7.k / 256≤_;omega)] at ht9
     rw [show IntKind.i64.wrap (([(⟨eU B t7.k / 256⟩:U8),⟨eU B t7.k % 256⟩][Int.toNat 1]?).getD default).v=eU B t7.k % 256 from w64 (by show _≤eU B t7.k % 256∧eU B t7.k % 256≤_;omega)] at ht10
     exact (aGZ hw rfl ht9 ht10).symm
   have hw:t7.wr=true:=by cases hw:t7.wr with | true=>rfl | false=>exact absurd (mZ.2 hw) hc1
   refine Ar.mt ((G7,t7)) ?_
   exact ⟨Imm.le_refl _,(tO hw).symm,hk7⟩
 obtain ⟨hgw,hu,hku⟩:=hk
 skip
 refine eY (ι:=RS) (fun v=>([(7,Go.Value.pointer (Option.some (Go.Addr.mk b4 0 Option.none))),(4,Go.Value.pointer (Option.some (Go.Addr.mk b2 0 Option.none))),(3,Go.Value.int Go.IntKind.i64 0),(2,Go.Value.pointer (Option.some (Go.Addr.mk b1 0 Option.none)))],[(1,some b2,rdR a B.length c v),(0,Option.some b1,Go.Obj.cells #[Go.Value.int Go.IntKind.i64 0,Go.Value.int Go.IntKind.i64 0,Go.Value.slice Option.none 0 0,Go.Value.int Go.IntKind.i64 0,Go.Value.int Go.IntKind.i64 0,Go.Value.slice Option.none 0 0,Go.Value.slice Option.none 0 0,Go.Value.int Go.IntKind.i64 0,Go.Value.int Go.IntKind.i64 0,Go.Value.slice Option.none 0 0,Go.Value.slice Option.none 0 0,Go.Value.int Go.IntKind.i64 0,Go.Value.int Go.IntKind.i64 0,Go.Value.slice Option.none 0 0,Go.Value.slice Option.none 0 0] 28),(3,Option.some b4,Go.Obj.cells #[Go.Value.int Go.IntKind.i64 x1,Go.Value.int Go.IntKind.i64 x2,Go.Value.slice o (List.length r) d,Go.Value.int Go.IntKind.i64 (Go.Proofs.YtfdcckcadfhpeaaGreatDoor.PV.ins p4),Go.Value.int Go.IntKind.i64 (Go.Proofs.YtfdcckcadfhpeaaGreatDoor.PV.regs p4),Go.Value.slice ac4 (List.length (Go.Proofs.YtfdcckcadfhpeaaGreatDoor.PV.code p4)) cc4,Go.Value.slice ao4 (List.length (Go.Proofs.YtfdcckcadfhpeaaGreatDoor.PV.outs p4)) co4,Go.Value.int Go.IntKind.i64 (Go.Proofs.YtfdcckcadfhpeaaGreatDoor.PV.ins p6),Go.Value.int Go.IntKind.i64 (Go.Proofs.YtfdcckcadfhpeaaGreatDoor.PV.regs p6),Go.Value.slice ac6 (List.length (Go.Proofs.YtfdcckcadfhpeaaGreatDoor.PV.code p6)) cc6,Go.Value.slice ao6 (List.length (Go.Proofs.YtfdcckcadfhpeaaGreatDoor.PV.outs p6)) co6,Go.Value.int Go.IntKind.i64 (Go.Proofs.YtfdcckcadfhpeaaGreatDoor.PV.ins p7),Go.Value.int Go.IntKind.i64 (Go.Proofs.YtfdcckcadfhpeaaGreatDoor.PV.regs p7),Go.Value.slice ac7 (List.length (Go.Proofs.YtfdcckcadfhpeaaGreatDoor.PV.code p7)) cc7,Go.Value.slice ao7 (List.length (Go.Proofs.YtfdcckcadfhpeaaGreatDoor.PV.outs p7)) co7] 28)])) (fun v=>(v.wr=true↔u.wr=true∨u.k<B.length)∧v.k=u.k) ?_ fun v=>fun (hk:(v.wr=true↔u.wr=true∨u.k<B.length)∧v.k=u.k)=>?_
 · refine Wc.gl 8 [1] ?_
   apply aM 8 106 114 rfl
   intro hg1
   refine aA 15 [1] ?_
   exact Wl.b 8 0
   intro hg1
   refine aA 8 [] ?_
   exact Wl.b 8 0
   refine Wl.gc 2 [] ?_
   refine Wc.i (fun hc1=>?_) fun hc1=>?_
   refine Wc.ga 10 [1,1] ?_
   rotate_left
   refine Wc.skip ?_
   rotate_left
   · refine Ar.mt ((⟨u.k,true⟩:RS)) ?_
     exact ⟨⟨fun _=>.inr (by omega),fun _=>rfl⟩,rfl⟩
   refine Ar.mt (u) ?_
   refine ⟨⟨.inl,fun h=>h.elim id fun h=>?_⟩,rfl⟩
   cases hw:u.wr with
   | true=>rfl
   | false=>exact absurd ⟨mZ.2 hw,by omega⟩ hc1
 obtain ⟨hv1,hv2⟩:=hk
 rw [ht0] at ht1
 have hdec:(dS B).2=u:=by
  rw [aAA ht1 ht2 ht3 (show _=N by omega) (vR hc2) (vR ht4) (vR ht6) (vR ht7),hu]
 refine Wc.gc 10 [1] ?_
 refine Wc.i (fun hc1=>?_) fun hc1=>?_
 refine Wc.seq ?_
 refine Wc.draw [3,0,1] [(0,5)] T.mixed rfl ?_
 refine Gm.u 0 [] rfl (Qy.build (cs:=[_,_,_,_,_,_,_,_,_,_,_,_,_,_,_]) T.st28 rfl rfl rfl) ?_
 refine Gm.r [[1],[2],[3],[4,1]] ?_
 refine Gm.o1 5 ?_
 refine aA 1 [0] ?_
 refine aO ?_
 refine Gm.r [[6]] ?_
 refine Gm.fin ?_
 refine Ar.ga 3 [] ?_
 rotate_left
 refine Wc.ga 10 [3,0] ?_
 rotate_left
 · have hw:v.wr=true:=by cases hw:v.wr with | true=>rfl | false=>rw [hw] at hc1;exact absurd hc1 (by simp)
   refine Ar.re 3 rfl (show _=Value.int .i64 (u.k:Int) by rw [if_pos hw,hv2]) ?_
   refine bQ (.inr rfl) (Ho:=Hp.only _ []) rfl (.agg 0 rfl rfl T.agg28) (.tmp rfl) (aC _ _) ?_
   exact ⟨⟨0,0,[],⟨0,0,[],[]⟩,⟨0,0,[],[]⟩,⟨0,0,[],[]⟩⟩,u,hdec,hku,rfl,.inl ⟨hv1.1 hw,rfl⟩⟩
 have hw:v.wr=false:=by cases hw:v.wr with | false=>rfl | true=>rw [if_pos hw] at hc1;omega
 have hu1:u.wr=false:=by cases hw':u.wr with | false=>rfl | true=>rw [hv1.2 (.inl hw')] at hw;cases hw
 have hu2:¬u.k<B.length:=fun h=>by rw [hv1.2 (.inr h)] at hw;cases hw
 refine bQ (.inr rfl) (Ho:=Hp.only _ []) rfl (.agg 0 rfl rfl T.agg28) (.tmp rfl) (aC _ _) ?_
 refine ⟨⟨x1,x2,r,p4,p6,p7⟩,u,hdec,hku,rfl,.inr ⟨hu1,by omega,?_,o,d,⟨p4.ins,p4.regs,ac4,p4.code.length,cc4,ao4,p4.outs.length,co4⟩,⟨p6.ins,p6.regs,ac6,p6.code.length,cc6,ao6,p6.outs.length,co6⟩,⟨p7.ins,p7.regs,ac7,p7.code.length,cc7,ao7,p7.outs.length,co7⟩,rfl,hown.le,hpl.up hgw,⟨rfl,rfl,rfl,rfl,hac4.up hgw,hao4.up hgw⟩,⟨rfl,rfl,rfl,rfl,hac6.up hgw,hao6.up hgw⟩,⟨rfl,rfl,rfl,rfl,hac7.up hgw,hao7.up hgw⟩⟩⟩
 have h7:t7.wr=false:=by
  cases h:t7.wr with
  | false=>rfl
  | true=>rw [tO h] at hu;rw [hu,h] at hu1;cases hu1
 have h6:=kW ht7 h7
 have h4:=kW ht6 h6
 rw [hu]
 exact aAA ht1 ht2 ht3 (show _=N by omega) (hpts (kW ht4 h4)) (hp4 h4) (hp6 h6) (hp7 h7)
section
attribute [local irreducible] eB dF cA aP fC
theorem c13 (G:Imm) (k1 k2:Int) (pl:List R2) (pa:Option Addr) (pc:Nat) (xp yp zp:PV) (xac xao yac yao zac zao:Option Addr) (xcc xoc ycc yoc zcc zoc:Nat) (hpa:Arr G pa pl) (hpc:pl.length≤pc) (hpl:pl.length≤1048576) (hxc:Arr G xac xp.code) (hxo:Arr G xao xp.outs) (hx1:xp.code.length≤16384) (hx2:xp.outs.length≤1048576) (hyc:Arr G yac yp.code) (hyo:Arr G yao yp.outs) (hy1:yp.code.length≤16384) (hy2:yp.outs.length≤1048576) (hzc:Arr G zac zp.code) (hzo:Arr G zao zp.outs) (hz1:zp.code.length≤16384) (hz2:zp.outs.length≤1048576) :
 Does Tryz.prog 13 [.agg #[.int .i64 k1,.int .i64 k2,.slice pa pl.length pc,.int .i64 xp.ins,.int .i64 xp.regs,.slice xac xp.code.length xcc,.slice xao xp.outs.length xoc,.int .i64 yp.ins,.int .i64 yp.regs,.slice yac yp.code.length ycc,.slice yao yp.outs.length yoc,.int .i64 zp.ins,.int .i64 zp.regs,.slice zac zp.code.length zcc,.slice zao zp.outs.length zoc]] G [] (fun v G' Ho=>v=.tuple #[.int .i64 (cX k1 k2 pl xp yp zp).1,.int .i64 (cX k1 k2 pl xp yp zp).2]∧Ho=[]):=by
 refine D0 Tryz.func13 Tryz.ntmps13 fun w=>?_
 by_cases hW:cA k1 k2 pl=0
 case neg =>
  refine Wc.gl 2 [] ?_
  refine Wl.x 0 fun b1=>?_
  refine Wl.gl 12 [0,0,0] ?_
  refine Wl.k 1 rfl (c54 _ _ _ _ _ _ ‹_› (by omega) (by omega)) fun v1 G1 Ho1 hle1 hp=>?_
  obtain ⟨pv1,rfl,rfl⟩:=hp
  replace hpa:=hpa.up hle1
  replace hxc:=hxc.up hle1
  replace hxo:=hxo.up hle1
  replace hyc:=hyc.up hle1
  replace hyo:=hyo.up hle1
  replace hzc:=hzc.up hle1
  replace hzo:=hzo.up hle1
  refine Wl.ga 24 [1] ?_
  refine Ar.e2 ?_
  exact ⟨by rw [aNH hW],rfl⟩
 obtain ⟨hP1,hP2,hL,hRL⟩:=sL hW
 obtain ⟨n1,rfl⟩:∃ n:Nat,k1=(n:Int):=⟨k1.toNat,by have:=hP1.1;omega⟩
 obtain ⟨n2,rfl⟩:∃ n:Nat,k2=(n:Int):=⟨k2.toNat,by have:=hP2.1;omega⟩
 have hn1:1≤n1∧n1≤8:=by have:=hP1.1;have:=hP1.2;omega
 have hn2:1≤n2∧n2≤8:=by have:=hP2.1;have:=hP2.2;omega
 refine Wc.gl 2 [] ?_
 refine Wl.x 0 fun b1=>?_
 refine Wl.gl 12 [0,0,0] ?_
 refine Wl.k 1 rfl (c54 _ _ _ _ _ _ ‹_› (by omega) (by omega)) fun v1 G1 Ho1 hle1 hp=>?_
 obtain ⟨pv1,rfl,rfl⟩:=hp
 replace hpa:=hpa.up hle1
 replace hxc:=hxc.up hle1
 replace hxo:=hxo.up hle1
 replace hyc:=hyc.up hle1
 replace hyo:=hyo.up hle1
 replace hzc:=hzc.up hle1
 replace hzo:=hzo.up hle1
 refine Wl.gl 21 [0,0] ?_
 refine Wl.k 1 rfl (c55 _ _ _ _ _ _ xp yp zp _ _ _ _ _ _ _ _ _ _ _ _) fun v2 G2 Ho2 hle2 hp=>?_
 obtain ⟨sp2,bp2,rfl,hpA2,hpB2,rfl⟩:=hp
 replace hpa:=hpa.up hle2
 replace hxc:=hxc.up hle2
 replace hxo:=hxo.up hle2
 replace hyc:=hyc.up hle2
 replace hyo:=hyo.up hle2
 replace hzc:=hzc.up hle2
 replace hzo:=hzo.up hle2
 refine Wl.gc 5 [] ?_
 refine Wc.lg (ι:=Nat×Imm) (fun (i,Gx)=>([(27,.int .i64 (i:Int)),(26,.int .i64 3),(25,.slice sp2 (List.length [PF.mk (PH.mk (PV.ins xp) (PV.regs xp) xac (List.length (PV.code xp)) xcc xao (List.length (PV.outs xp)) xoc) 107 bp2,PF.mk (PH.mk (PV.ins yp) (PV.regs yp) yac (List.length (PV.code yp)) ycc yao (List.length (PV.outs yp)) yoc) 109 bp2,PF.mk (PH.mk (PV.ins zp) (PV.regs zp) zac (List.length (PV.code zp)) zcc zao (List.length (PV.outs zp)) zoc) 110 bp2]) 3)],[(0,some b1,.cells #[.int .i64 (↑n1:Int),.int .i64 (↑n2:Int),.slice pa (List.length pl) pc,.int .i64 (PV.ins xp),.int .i64 (PV.regs xp),.slice xac (List.length (PV.code xp)) xcc,.slice xao (List.length (PV.outs xp)) xoc,.int .i64 (PV.ins yp),.int .i64 (PV.regs yp),.slice yac (List.length (PV.code yp)) ycc,.slice yao (List.length (PV.outs yp)) yoc,.int .i64 (PV.ins zp),.int .i64 (PV.regs zp),.slice zac (List.length (PV.code zp)) zcc,.slice zao (List.length (PV.outs zp)) zoc] 28)])) (fun (i,Gx)=>Gx) (fun (i,Gx)=>i≤3∧G2.le Gx∧(0<i→aP xp=true∧eB xp (n1:Int) pl)∧(1<i→aP yp=true∧eB yp (n2:Int) pl)∧(2<i→aP zp=true∧dF zp pl)) (fun (i,Gx)=>3 - i) ((0,G2)) (⟨Nat.zero_le _,Imm.le_refl _,fun h=>absurd h (by omega),fun h=>absurd h (by omega),fun h=>absurd h (by omega)⟩) fun ⟨i,Gx⟩=>fun hk=>?_
 obtain ⟨hi0,hgx,hx9,hy9,hz9⟩:=hk
 have hB:=hgx _ _ hpB2
 replace hpA2:=hpA2.up hgx
 replace hpa:=hpa.up hgx
 replace hxc:=hxc.up hgx
 replace hxo:=hxo.up hgx
 replace hyc:=hyc.up hgx
 replace hyo:=hyo.up hgx
 replace hzc:=hzc.up hgx
 replace hzo:=hzo.up hgx
 have hi4:i=0∨i=1∨i=2∨i=3:=by omega
 rcases hi4 with rfl | rfl | rfl | rfl
 · refine Wc.gl 14 [1] ?_
   refine Wl.p (Qy.at (α:=PF) T.sl96 rfl rfl hpA2 (show 0≤((0:Nat):Int)∧((0:Nat):Int)<((3:Nat):Int) by omega)) ?_
   refine Wl.p (gR T.agg100 rfl (Arr.elem hpA2 (show 0≤((0:Nat):Int)∧((0:Nat):Int)<((3:Nat):Int) by omega)) rfl) ?_
   refine Wl.re 31 rfl (show _=Value.agg #[.int .i64 xp.ins,.int .i64 xp.regs,.slice xac xp.code.length xcc,.slice xao xp.outs.length xoc,.func (.func 107) #[] #[.pointer (some ⟨bp2,0,none⟩)]] from rfl) ?_
   by_cases hr:aP xp=true
   · skip
     refine Wl.alloc 1 rfl T.zero100 fun b2=>?_
     refine Wl.gl 7 [1] ?_
     refine Wl.p (bC 1 T.agg26 rfl rfl rfl rfl) ?_
     refine Wl.k0 rfl (aCF _ xp _ _ _ _ ‹_› ‹_› (by omega) (by omega) hr) ?_
     refine Wl.gl 22 [0,1] ?_
     refine Wl.p (bC 1 T.agg26 rfl rfl rfl rfl) ?_
     refine bN (fst:=[]) (cap:=[.pointer (some ⟨bp2,0,none⟩)]) 2 rfl T.fn107 rfl rfl (c107 _ n1 bp2 _ _ _ xp xac xao pa xcc xoc pc pl hB rfl rfl hxc hxo hpa hpc hpl hx1 (by omega) hRL hr (by omega) (by omega)) (bO trivial) fun v9 G9 Ho9 hle9 hp=>?_
     obtain ⟨rfl,rfl⟩:=hp
     refine Wl.gl 12 [] ?_
     refine dB 53 ?_
     refine aA 3 [] ?_
     refine Wl.p (aW rfl) ?_
     refine Wl.gc 3 [] ?_
     refine Wc.i (fun hc1=>?_) fun hc1=>?_
     refine Wc.ga 14 [] ?_
     rotate_left
     refine Wc.ga 7 [] ?_
     rotate_left
     · refine Ar.e2 ?_
       exact ⟨by rw [aGK hW hr ‹_›];rfl,rfl⟩
     refine Ar.re 27 rfl (show _=Value.int .i64 ((1:Nat):Int) from rfl) ?_
     refine aH ((1,G9)) ?_ ?_
     · exact ⟨by omega,Imm.le_trans hgx hle9,fun _=>⟨hr,Decidable.not_not.1 ‹_›⟩,fun h=>absurd h (by omega),fun h=>absurd h (by omega)⟩
     show 3 - 1<3 - 0
     omega
   skip
   refine Wl.alloc 1 rfl T.zero100 fun b2=>?_
   refine Wl.gl 7 [1] ?_
   refine Wl.p (bC 1 T.agg26 rfl rfl rfl rfl) ?_
   refine Wl.k0 rfl (c56P _ xp _ _ _ _ ‹_› ‹_› (by omega) (by omega) hr) ?_
   refine Wl.ga 31 [1] ?_
   refine Ar.e2 ?_
   exact ⟨by rw [aGJ hW ‹_›];rfl,rfl⟩
 · refine Wc.gl 14 [1] ?_
   refine Wl.p (Qy.at (α:=PF) T.sl96 rfl rfl hpA2 (show 0≤((1:Nat):Int)∧((1:Nat):Int)<((3:Nat):Int) by omega)) ?_
   refine Wl.p (gR T.agg100 rfl (Arr.elem hpA2 (show 0≤((1:Nat):Int)∧((1:Nat):Int)<((3:Nat):Int) by omega)) rfl) ?_
   refine Wl.re 31 rfl (show _=Value.agg #[.int .i64 yp.ins,.int .i64 yp.regs,.slice yac yp.code.length ycc,.slice yao yp.outs.length yoc,.func (.func 109) #[] #[.pointer (some ⟨bp2,0,none⟩)]] from rfl) ?_
   by_cases hr:aP yp=true
   · skip
     refine Wl.alloc 1 rfl T.zero100 fun b2=>?_
     refine Wl.gl 7 [1] ?_
     refine Wl.p (bC 1 T.agg26 rfl rfl rfl rfl) ?_
     refine Wl.k0 rfl (aCF _ yp _ _ _ _ ‹_› ‹_› (by omega) (by omega) hr) ?_
     refine Wl.gl 22 [0,1] ?_
     refine Wl.p (bC 1 T.agg26 rfl rfl rfl rfl) ?_
     refine bN (fst:=[]) (cap:=[.pointer (some ⟨bp2,0,none⟩)]) 2 rfl T.fn109 rfl rfl (c109 _ n2 bp2 _ _ _ yp yac yao pa ycc yoc pc pl hB rfl rfl hyc hyo hpa hpc hpl hy1 (by omega) hRL hr (by omega) (by omega)) (bO trivial) fun v9 G9 Ho9 hle9 hp=>?_
     obtain ⟨rfl,rfl⟩:=hp
     refine Wl.gl 12 [] ?_
     refine dB 53 ?_
     refine aA 3 [] ?_
     refine Wl.p (aW rfl) ?_
     refine Wl.gc 3 [] ?_
     refine Wc.i (fun hc1=>?_) fun hc1=>?_
     refine Wc.ga 14 [] ?_
     rotate_left
     refine Wc.ga 7 [] ?_
     rotate_left
     · refine Ar.e2 ?_
       exact ⟨by rw [aGM hW (hx9 (by omega)).1 (hx9 (by omega)).2 hr ‹_›];rfl,rfl⟩
     refine Ar.re 27 rfl (show _=Value.int .i64 ((2:Nat):Int) from rfl) ?_
     refine aH ((2,G9)) ?_ ?_
     · exact ⟨by omega,Imm.le_trans hgx hle9,fun _=>hx9 (by omega),fun _=>⟨hr,Decidable.not_not.1 ‹_›⟩,fun h=>absurd h (by omega)⟩
     show 3 - 2<3 - 1
     omega
   skip
   refine Wl.alloc 1 rfl T.zero100 fun b2=>?_
   refine Wl.gl 7 [1] ?_
   refine Wl.p (bC 1 T.agg26 rfl rfl rfl rfl) ?_
   refine Wl.k0 rfl (c56P _ yp _ _ _ _ ‹_› ‹_› (by omega) (by omega) hr) ?_
   refine Wl.ga 31 [1] ?_
   refine Ar.e2 ?_
   exact ⟨by rw [aGL hW (hx9 (by omega)).1 (hx9 (by omega)).2 ‹_›];rfl,rfl⟩
 · refine Wc.gl 14 [1] ?_
   refine Wl.p (Qy.at (α:=PF) T.sl96 rfl rfl hpA2 (show 0≤((2:Nat):Int)∧((2:Nat):Int)<((3:Nat):Int) by omega)) ?_
   refine Wl.p (gR T.agg100 rfl (Arr.elem hpA2 (show 0≤((2:Nat):Int)∧((2:Nat):Int)<((3:Nat):Int) by omega)) rfl) ?_
   refine Wl.re 31 rfl (show _=Value.agg #[.int .i64 zp.ins,.int .i64 zp.regs,.slice zac zp.code.length zcc,.slice zao zp.outs.length zoc,.func (.func 110) #[] #[.pointer (some ⟨bp2,0,none⟩)]] from rfl) ?_
   by_cases hr:aP zp=true
   · skip
     refine Wl.alloc 1 rfl T.zero100 fun b2=>?_
     refine Wl.gl 7 [1] ?_
     refine Wl.p (bC 1 T.agg26 rfl rfl rfl rfl) ?_
     refine Wl.k0 rfl (aCF _ zp _ _ _ _ ‹_› ‹_› (by omega) (by omega) hr) ?_
     refine Wl.gl 22 [0,1] ?_
     refine Wl.p (bC 1 T.agg26 rfl rfl rfl rfl) ?_
     refine bN (fst:=[]) (cap:=[.pointer (some ⟨bp2,0,none⟩)]) 2 rfl T.fn110 rfl rfl (c110 _ bp2 _ _ _ zp zac zao pa zcc zoc pc pl hB rfl hzc hzo hpa hpc hpl hz1 (by omega) hRL hr) (bO trivial) fun v9 G9 Ho9 hle9 hp=>?_
     obtain ⟨rfl,rfl⟩:=hp
     refine Wl.gl 12 [] ?_
     refine dB 53 ?_
     refine aA 3 [] ?_
     refine Wl.p (aW rfl) ?_
     refine Wl.gc 3 [] ?_
     refine Wc.i (fun hc1=>?_) fun hc1=>?_
     refine Wc.ga 14 [] ?_
     rotate_left
     refine Wc.ga 7 [] ?_
     rotate_left
     · refine Ar.e2 ?_
       exact ⟨by rw [aGO hW (hx9 (by omega)).1 (hx9 (by omega)).2 (hy9 (by omega)).1 (hy9 (by omega)).2 hr ‹_›];rfl,rfl⟩
     refine Ar.re 27 rfl (show _=Value.int .i64 ((3:Nat):Int) from rfl) ?_
     refine aH ((3,G9)) ?_ ?_
     · exact ⟨by omega,Imm.le_trans hgx hle9,fun _=>hx9 (by omega),fun _=>hy9 (by omega),fun _=>⟨hr,Decidable.not_not.1 ‹_›⟩⟩
     show 3 - 3<3 - 2
     omega
   skip
   refine Wl.alloc 1 rfl T.zero100 fun b2=>?_
   refine Wl.gl 7 [1] ?_
   refine Wl.p (bC 1 T.agg26 rfl rfl rfl rfl) ?_
   refine Wl.k0 rfl (c56P _ zp _ _ _ _ ‹_› ‹_› (by omega) (by omega) hr) ?_
   refine Wl.ga 31 [1] ?_
   refine Ar.e2 ?_
   exact ⟨by rw [aGN hW (hx9 (by omega)).1 (hx9 (by omega)).2 (hy9 (by omega)).1 (hy9 (by omega)).2 ‹_›];rfl,rfl⟩
 refine Wc.ga 19 [0] ?_
 refine Ar.e2 ?_
 exact ⟨by rw [aGP hW (hx9 (by omega)).1 (hx9 (by omega)).2 (hy9 (by omega)).1 (hy9 (by omega)).2 (hz9 (by omega)).1 (hz9 (by omega)).2],rfl⟩
end
theorem oD {α:Type} [Inhabited α] {l m:List α} {k:Nat} (hl:k<l.length) (hm:k<m.length) (h:l.take k=m.take k) (he:l[((k:Nat):Int).toNat]?.getD default=m[((k:Nat):Int).toNat]?.getD default):l.take (k+1)=m.take (k+1):=by
 rw [Int.toNat_natCast,List.getElem?_eq_getElem hl,List.getElem?_eq_getElem hm] at he
 rw [List.take_add_one,List.take_add_one,h,List.getElem?_eq_getElem hl,List.getElem?_eq_getElem hm]
 simp only [Option.getD_some] at he
 rw [he]
theorem c60 (G:Imm) (p q:PV) (ac ao bc bo:Option Addr) (cc co dc do_:Nat) (hc:Arr G ac p.code) (ho:Arr G ao p.outs) (hc':Arr G bc q.code) (ho':Arr G bo q.outs) (h1:p.code.length≤1099511627776) (h2:p.outs.length≤1099511627776) :
 Does Tryz.prog 60 [.agg #[.int .i64 p.ins,.int .i64 p.regs,.slice ac p.code.length cc,.slice ao p.outs.length co],.agg #[.int .i64 q.ins,.int .i64 q.regs,.slice bc q.code.length dc,.slice bo q.outs.length do_]] G []
  (fun v G' Ho=>v=.bool (decide (p=q))∧G'=G∧Ho=[]):=by
 refine D0 Tryz.func60 Tryz.ntmps60 fun w=>?_
 refine Wc.gl 2 [] ?_
 refine Wl.x 0 fun b1=>?_
 refine Wl.x 1 fun b2=>?_
 refine Wl.gl 12 [0,1] ?_
 apply aG 6 12 18 rfl
 intro hg1
 refine aA 11 [0,1] ?_
 exact Wl.b 6 0
 intro hg1
 refine aA 6 [] ?_
 exact Wl.b 6 0
 refine aA 1 [] ?_
 apply aG 8 19 27 rfl
 intro hg1
 refine aA 15 [0,1] ?_
 exact Wl.b 8 0
 intro hg1
 refine aA 8 [] ?_
 exact Wl.b 8 0
 refine aA 1 [] ?_
 apply aG 8 28 36 rfl
 intro hg1
 refine aA 15 [0,1] ?_
 exact Wl.b 8 0
 intro hg1
 refine aA 8 [] ?_
 exact Wl.b 8 0
 refine Wl.gc 2 [] ?_
 refine Wc.i (fun hc1=>?_) fun hc1=>?_
 refine Wc.ga 7 [] ?_
 refine Ar.e1 ?_
 rotate_left
 refine Wc.gc 9 [] ?_
 rotate_left
 · refine ⟨?_,rfl,rfl⟩
   have:p≠q:=by rintro rfl;omega
   simp [this]
 simp only [not_or,ne_eq,Decidable.not_not] at hc1
 obtain ⟨⟨⟨e1,e2⟩,e3⟩,e4⟩:=hc1
 refine Wc.lp (ι:=Nat) (fun k=>([(5,.int .i64 (k:Int)),(3,.pointer (some ⟨b2,0,none⟩)),(2,.pointer (some ⟨b1,0,none⟩))],[(1,some b2,.cells #[.int .i64 (PV.ins q),.int .i64 (PV.regs q),.slice bc (List.length (PV.code q)) dc,.slice bo (List.length (PV.outs q)) do_] 26),(0,some b1,.cells #[.int .i64 (PV.ins p),.int .i64 (PV.regs p),.slice ac (List.length (PV.code p)) cc,.slice ao (List.length (PV.outs p)) co] 26)])) (fun k=>k≤p.code.length∧p.code.take k=q.code.take k) (fun k=>p.code.length - k) (0) (⟨Nat.zero_le _,rfl⟩) fun k=>fun hk=>?_
 obtain ⟨hk1,hk2⟩:=hk
 refine Wc.gc 10 [0] ?_
 refine Wc.i (fun hc1=>?_) fun hc1=>?_
 refine Wc.gc 5 [] ?_
 refine aN [0,1] [] T.mixed [[0],[1,0],[2]] ?_
 refine Gm.at (α:=Sl.Instr) 3 T.sl23 ?_
 refine Gm.le 4 T.agg91 ?_
 refine Gm.r [[5],[6,1],[7]] ?_
 refine Gm.at (α:=Sl.Instr) 8 T.sl23 ?_
 refine Gm.le 9 T.agg91 ?_
 refine Gm.u 10 [] rfl (aAQ T.ai91 rfl rfl) ?_
 refine Gm.fin ?_
 refine Ar.next ?_
 refine Wc.i (fun hc2=>?_) fun hc2=>?_
 refine Wc.ga 11 [] ?_
 refine Ar.e1 ?_
 rotate_left
 refine Wc.ga 8 [] ?_
 rotate_left
 refine Wc.gc 12 [] ?_
 rotate_left
 · refine ⟨?_,rfl,rfl⟩
   have:p≠q:=by rintro rfl;exact hc2 rfl
   simp [this]
 · refine aH (k+1) ?_ ?_
   · exact ⟨by omega,oD (by omega) (by omega) hk2 (Decidable.not_not.1 hc2)⟩
   omega
 have hcode:p.code=q.code:=by
  have:k=p.code.length:=by omega
  subst this
  rw [List.take_length,List.take_of_length_le (by omega)] at hk2
  exact hk2
 clear hk1 hk2 hc1
 refine Wc.lp (ι:=Nat) (fun k=>([(6,.int .i64 (k:Int)),(3,.pointer (some ⟨b2,0,none⟩)),(2,.pointer (some ⟨b1,0,none⟩))],[(1,some b2,.cells #[.int .i64 (PV.ins q),.int .i64 (PV.regs q),.slice bc (List.length (PV.code q)) dc,.slice bo (List.length (PV.outs q)) do_] 26),(0,some b1,.cells #[.int .i64 (PV.ins p),.int .i64 (PV.regs p),.slice ac (List.length (PV.code p)) cc,.slice ao (List.length (PV.outs p)) co] 26)])) (fun k=>k≤p.outs.length∧p.outs.take k=q.outs.take k) (fun k=>p.outs.length - k) (0) (⟨Nat.zero_le _,rfl⟩) fun k=>fun hk=>?_
 obtain ⟨hk1,hk2⟩:=hk
 refine Wc.gc 10 [0] ?_
 refine Wc.i (fun hc1=>?_) fun hc1=>?_
 refine Wc.gc 5 [] ?_
 refine aN [0,1] [] T.mixed [[0],[1,0],[2]] ?_
 refine Gm.at (α:=Int) 3 T.sl24 ?_
 refine gO 4 [0] 0 T.one3 ?_
 refine Gm.r [[5],[6,1],[7]] ?_
 refine Gm.at (α:=Int) 8 T.sl24 ?_
 refine gO 9 [0] 0 T.one3 ?_
 refine Gm.r [[10]] ?_
 refine Gm.fin ?_
 refine Ar.next ?_
 refine Wc.i (fun hc2=>?_) fun hc2=>?_
 refine Wc.ga 11 [] ?_
 refine Ar.e1 ?_
 rotate_left
 refine Wc.ga 8 [] ?_
 rotate_left
 refine Wc.ga 11 [] ?_
 refine Ar.e1 ?_
 rotate_left
 · refine ⟨?_,rfl,rfl⟩
   have:p≠q:=by rintro rfl;exact hc2 rfl
   simp [this]
 · refine aH (k+1) ?_ ?_
   · exact ⟨by omega,oD (by omega) (by omega) hk2 (Decidable.not_not.1 hc2)⟩
   omega
 refine ⟨?_,rfl,rfl⟩
 have houts:p.outs=q.outs:=by
  have:k=p.outs.length:=by omega
  subst this
  rw [List.take_length,List.take_of_length_le (by omega)] at hk2
  exact hk2
 have:p=q:=by cases p;cases q;simp_all
 simp [this]
theorem c15 (G:Imm) (k1 k2:Int) (pl:List R2) (pa qa:Option Addr) (pc qc:Nat) (xp yp zp:PV) (xac xao yac yao zac zao uac uao vac vao wac wao:Option Addr) (xcc xoc ycc yoc zcc zoc ucc uoc vcc voc wcc woc:Nat) (hpa:Arr G pa pl) (hqa:Arr G qa pl) (hpl:pl.length≤1048576) (hxc:Arr G xac xp.code) (hxo:Arr G xao xp.outs) (hyc:Arr G yac yp.code) (hyo:Arr G yao yp.outs) (hzc:Arr G zac zp.code) (hzo:Arr G zao zp.outs) (huc:Arr G uac xp.code) (huo:Arr G uao xp.outs) (hvc:Arr G vac yp.code) (hvo:Arr G vao yp.outs) (hwc:Arr G wac zp.code) (hwo:Arr G wao zp.outs) (hx1:xp.code.length≤1048576) (hx2:xp.outs.length≤1048576) (hy1:yp.code.length≤1048576) (hy2:yp.outs.length≤1048576) (hz1:zp.code.length≤1048576) (hz2:zp.outs.length≤1048576) :
 Does Tryz.prog 15 [.agg #[.int .i64 k1,.int .i64 k2,.slice pa pl.length pc,.int .i64 xp.ins,.int .i64 xp.regs,.slice xac xp.code.length xcc,.slice xao xp.outs.length xoc,.int .i64 yp.ins,.int .i64 yp.regs,.slice yac yp.code.length ycc,.slice yao yp.outs.length yoc,.int .i64 zp.ins,.int .i64 zp.regs,.slice zac zp.code.length zcc,.slice zao zp.outs.length zoc],.agg #[.int .i64 k1,.int .i64 k2,.slice qa pl.length qc,.int .i64 xp.ins,.int .i64 xp.regs,.slice uac xp.code.length ucc,.slice uao xp.outs.length uoc,.int .i64 yp.ins,.int .i64 yp.regs,.slice vac yp.code.length vcc,.slice vao yp.outs.length voc,.int .i64 zp.ins,.int .i64 zp.regs,.slice wac zp.code.length wcc,.slice wao zp.outs.length woc]] G []
  (fun v G' Ho=>v=.bool (decide (1=1))∧G'=G∧Ho=[]):=by
 refine D0 Tryz.func15 Tryz.ntmps15 fun w=>?_
 refine Wc.gl 2 [] ?_
 refine Wl.x 0 fun b1=>?_
 refine Wl.x 1 fun b2=>?_
 refine Wl.gl 12 [0,1] ?_
 refine dB 11 ?_
 refine aA 12 [0,1] ?_
 refine dB 18 ?_
 refine Wl.gc 27 [0,1,0] ?_
 refine Wc.lp (ι:=Nat) (fun k=>([(5,.int .i64 (k:Int)),(3,.pointer (some ⟨b2,0,none⟩)),(2,.pointer (some ⟨b1,0,none⟩))],[(1,some b2,.cells #[.int .i64 k1,.int .i64 k2,.slice qa (List.length pl) qc,.int .i64 (PV.ins xp),.int .i64 (PV.regs xp),.slice uac (List.length (PV.code xp)) ucc,.slice uao (List.length (PV.outs xp)) uoc,.int .i64 (PV.ins yp),.int .i64 (PV.regs yp),.slice vac (List.length (PV.code yp)) vcc,.slice vao (List.length (PV.outs yp)) voc,.int .i64 (PV.ins zp),.int .i64 (PV.regs zp),.slice wac (List.length (PV.code zp)) wcc,.slice wao (List.length (PV.outs zp)) woc] 28),(0,some b1,.cells #[.int .i64 k1,.int .i64 k2,.slice pa (List.length pl) pc,.int .i64 (PV.ins xp),.int .i64 (PV.regs xp),.slice xac (List.length (PV.code xp)) xcc,.slice xao (List.length (PV.outs xp)) xoc,.int .i64 (PV.ins yp),.int .i64 (PV.regs yp),.slice yac (List.length (PV.code yp)) ycc,.slice yao (List.length (PV.outs yp)) yoc,.int .i64 (PV.ins zp),.int .i64 (PV.regs zp),.slice zac (List.length (PV.code zp)) zcc,.slice zao (List.length (PV.outs zp)) zoc] 28)])) (fun k=>k≤pl.length) (fun k=>pl.length - k) (0) (Nat.zero_le _) fun k=>fun (hk:k≤pl.length)=>?_
 refine Wc.gc 10 [0] ?_
 refine Wc.i (fun hc1=>?_) fun hc1=>?_
 refine Wc.gc 5 [] ?_
 refine aN [0,1] [] T.mixed [[0],[1,0],[2]] ?_
 refine Gm.at (α:=R2) 3 T.sl22 ?_
 refine Gm.le 4 T.agg52 ?_
 refine Gm.r [[5],[6,1],[7]] ?_
 refine Gm.at (α:=R2) 8 T.sl22 ?_
 refine Gm.le 9 T.agg52 ?_
 refine Gm.u 10 [] rfl (yR [_,_] [_,_] T.ai52 rfl rfl rfl rfl) ?_
 refine Gm.fin ?_
 refine Ar.next ?_
 refine Wc.i (fun hc2=>?_) fun hc2=>?_
 refine Wc.ga 11 [] ?_
 refine Ar.e1 ?_
 rotate_left
 refine Wc.ga 8 [] ?_
 rotate_left
 refine Wc.gl 8 [] ?_
 refine Wl.p (bC 0 T.agg26 rfl rfl rfl rfl) ?_
 refine aA 1 [] ?_
 refine Wl.p (bC 1 T.agg26 rfl rfl rfl rfl) ?_
 refine Wl.k0 rfl (c60 _ _ _ _ _ _ _ _ _ _ _ ‹_› ‹_› ‹_› ‹_› (by omega) (by omega)) ?_
 refine aA 1 [] ?_
 apply aM 6 50 56 rfl
 intro hg1
 refine aA 3 [] ?_
 refine Wl.p (bC 0 T.agg26 rfl rfl rfl rfl) ?_
 refine aA 3 [] ?_
 refine Wl.p (bC 1 T.agg26 rfl rfl rfl rfl) ?_
 refine aA 1 [] ?_
 refine Wl.k0 rfl (c60 _ _ _ _ _ _ _ _ _ _ _ ‹_› ‹_› ‹_› ‹_› (by omega) (by omega)) ?_
 refine aA 1 [] ?_
 exact Wl.b 6 0
 intro hg1
 refine aA 6 [] ?_
 exact Wl.b 6 0
 refine aA 1 [] ?_
 apply aM 6 57 63 rfl
 intro hg1
 refine aA 3 [] ?_
 refine Wl.p (bC 0 T.agg26 rfl rfl rfl rfl) ?_
 refine aA 3 [] ?_
 refine Wl.p (bC 1 T.agg26 rfl rfl rfl rfl) ?_
 refine aA 1 [] ?_
 refine Wl.k0 rfl (c60 _ _ _ _ _ _ _ _ _ _ _ ‹_› ‹_› ‹_› ‹_› (by omega) (by omega)) ?_
 refine aA 1 [] ?_
 exact Wl.b 6 0
 intro hg1
 refine aA 6 [] ?_
 exact Wl.b 6 0
 refine Wl.ga 4 [] ?_
 refine Ar.e1 ?_
 rotate_left
 · exact absurd rfl ‹_›
 · refine aH (k+1) ?_ ?_
   · omega
   omega
 exact ⟨by simp,rfl,rfl⟩
theorem c18 (G:Imm) (a:Option Addr) (c:Nat) (l:List U8) (ha:Arr G a l) (hl:l.length≤1048576) :
 Does Tryz.prog 18 [.slice a l.length c] G [] (fun v G' Ho=>∃ s d,v=.slice s l.length d∧Arr G' s l∧l.length≤d∧Ho=[]):=by
 by_cases hne:a=none
 · have h0:l=[]:=by
    rcases ha.2 with h | ⟨b,o,h,_⟩
    · exact List.eq_nil_of_length_eq_zero h
    rw [hne] at h;cases h
   subst hne
   subst h0
   have hyes:(none:Option Addr)=none:=rfl
   refine D0 Tryz.func18 Tryz.ntmps18 fun w=>?_
   refine Wc.gl 9 [] ?_
   refine Wl.p (cQ T.sl38 rfl rfl) ?_
   refine Wl.ga 10 [1] ?_
   refine Ar.e1 ?_
   exact ⟨none,0,rfl,Arr.nil _,Nat.le_refl _,rfl⟩
 refine D0 Tryz.func18 Tryz.ntmps18 fun w=>?_
 refine Wc.gl 9 [] ?_
 refine Wl.p (cQ T.sl38 rfl rfl) ?_
 refine Wl.gl 7 [0] ?_
 refine sX 0 rfl T.sl38 fun b1=>?_
 refine aA 1 [] ?_
 refine Wl.reH 0 (Row 5 ([]:List U8) []) rfl rfl ?_
 refine Wl.append (α:=U8) (xs:=[]) (ys:=l) (junk:=[]) 0 rfl T.sl38 T.el5 rfl rfl rfl (.inr ⟨b1,rfl,rfl,Nat.le_refl _,Nat.zero_le _⟩) (nG ha) (by rw [List.length_nil];omega) (by rw [List.length_nil];simp only [maxLen];omega) fun a1 c1 junk1 ho1=>?_
 rw [List.nil_append] at ho1 ⊢
 have hc1:=ho1.le
 refine Wl.ga 4 [] ?_
 refine Ar.freezeRow 0 rfl ho1 fun G1 hle1 hA1=>?_
 refine Ar.e1 ?_
 exact ⟨a1,c1,rfl,hA1,hc1,rfl⟩
theorem yC {B:List U8} {regs:Int}:∀ (n:Nat) (s:RS) (acc:List Sl.Instr),(eO B regs n s acc).1.length≤acc.length+n
 | 0,s,acc=>Nat.le_refl _
 | n+1,s,acc=>by
   rw [eO]
   cases zH B s regs with
   | mk i t =>
     dsimp only
     split
     · show acc.length≤_;omega
     have:=yC (B:=B) (regs:=regs) n t (acc++[i])
     rw [List.length_append] at this
     have e:[i].length=1:=rfl
     omega
theorem yD {B:List U8} {regs:Int}:∀ (n:Nat) (s:RS) (acc:List Int),(fZ B regs n s acc).1.length≤acc.length+n
 | 0,s,acc=>Nat.le_refl _
 | n+1,s,acc=>by
   rw [fZ]
   cases wi B s 0 (regs - 1) with
   | mk i t =>
     dsimp only
     have:=yD (B:=B) (regs:=regs) n t (acc++[i])
     rw [List.length_append] at this
     have e:[i].length=1:=rfl
     omega
theorem aCO {B:List U8}:∀ (n:Nat) (s:RS) (acc:List R2),(kR B n s acc).1.length≤acc.length+n
 | 0,s,acc=>Nat.le_refl _
 | n+1,s,acc=>by
   rw [kR]
   cases sg B s with
   | mk i t =>
     dsimp only
     cases sg B t with
     | mk j u =>
       dsimp only
       have:=aCO (B:=B) n u (acc++[⟨i,j⟩])
       rw [List.length_append] at this
       have e:[(⟨i,j⟩:R2)].length=1:=rfl
       omega
def oU (p:PV):Prop:=p.code.length≤16384∧p.outs.length≤255
theorem rX {B:List U8} {s:RS} (h:(cZ B s).2.wr=false):oU (cZ B s).1:=by
 obtain ⟨ins,t1,e1⟩:∃ x t,wi B s 1 128=(x,t):=⟨_,_,rfl⟩
 obtain ⟨regs,t2,e2⟩:∃ x t,wi B t1 ins 128=(x,t):=⟨_,_,rfl⟩
 obtain ⟨x,t3,e3⟩:∃ x t,nx B t2 (fun x=>decide (x*256≤16384))=(x,t):=⟨_,_,rfl⟩
 obtain ⟨l,t4,e4⟩:∃ y t,nx B t3 (fun y=>decide (x*256+y≤16384))=(y,t):=⟨_,_,rfl⟩
 obtain ⟨r,t5,e5⟩:∃ r t,eO B regs (x*256+l).toNat t4 []=(r,t):=⟨_,_,rfl⟩
 obtain ⟨n,t6,e6⟩:∃ x t,wi B t5 1 128=(x,t):=⟨_,_,rfl⟩
 obtain ⟨q,t7,e7⟩:∃ r t,fZ B regs n.toNat t6 []=(r,t):=⟨_,_,rfl⟩
 rw [qF e1 e2 e3 e4 rfl e5 e6 rfl e7] at h ⊢
 replace h:t7.wr=false:=h
 have h6:t6.wr=false:=by
  cases hw:t6.wr with
  | false=>rfl
  | true =>
    have e:=mY (B:=B) (regs:=regs) n.toNat t6 [] hw
    rw [e7] at e
    replace e:t7=t6:=e
    rw [e,hw] at h;cases h
 have h5:=aR e6 h6
 have h4:t4.wr=false:=by
  cases hw:t4.wr with
  | false=>rfl
  | true =>
    rw [vA _ _ _ hw] at e5
    have e:=(Prod.mk.inj e5).2
    have:=h5.2.2
    rw [←e,hw] at this;cases this
 have h3:=aGF (B:=B) (s:=t3) (g:=fun y=>decide (x*256+y≤16384)) (by rw [e4];exact h4)
 have e9:=h3.2.2.2
 rw [e4] at e9
 have h9:=of_decide_eq_true h3.2.2.1
 have hl:=(Prod.mk.inj e9).1
 rw [←hl] at h9
 have l1:=yC (B:=B) (regs:=regs) (x*256+l).toNat t4 []
 have l2:=yD (B:=B) (regs:=regs) n.toNat t6 []
 rw [e5] at l1
 rw [e7] at l2
 refine ⟨?_,?_⟩
 · show r.length≤16384
   have:r.length≤0+(x*256+l).toNat:=l1
   omega
 show q.length≤255
 have:q.length≤0+n.toNat:=l2
 omega
theorem tP {B:List U8} (h:(dS B).2.wr=false):(dS B).1.pl.length≤255∧oU (dS B).1.x∧oU (dS B).1.y∧oU (dS B).1.z:=by
 obtain ⟨k1,t1,e1⟩:∃ x t,wi B (oA B 4) 1 8=(x,t):=⟨_,_,rfl⟩
 obtain ⟨k2,t2,e2⟩:∃ x t,wi B t1 1 8=(x,t):=⟨_,_,rfl⟩
 obtain ⟨n,t3,e3⟩:∃ x t,wi B t2 0 255=(x,t):=⟨_,_,rfl⟩
 obtain ⟨pl,t,e4⟩:∃ x u,kR B n.toNat t3 []=(x,u):=⟨_,_,rfl⟩
 obtain ⟨x,t4,e5⟩:∃ x u,cZ B t=(x,u):=⟨_,_,rfl⟩
 obtain ⟨y,t6,e6⟩:∃ x u,cZ B t4=(x,u):=⟨_,_,rfl⟩
 obtain ⟨z,t7,e7⟩:∃ x u,cZ B t6=(x,u):=⟨_,_,rfl⟩
 rw [aAA e1 e2 e3 rfl e4 e5 e6 e7] at h ⊢
 replace h:(wY B t7).wr=false:=h
 have h7:t7.wr=false:=by
  cases hw:t7.wr with
  | false=>rfl
  | true=>rw [tO hw,hw] at h;cases h
 have h6:=kW (congrArg Prod.snd e7) h7
 have h4:=kW (congrArg Prod.snd e6) h6
 have h3:=kW (congrArg Prod.snd e5) h4
 have hn:t3.wr=false:=by
  cases hw:t3.wr with
  | false=>rfl
  | true =>
    have e:=tE (B:=B) n.toNat t3 [] hw
    rw [e4] at e
    replace e:t=t3:=e
    rw [e,hw] at h3;cases h3
 have hn2:=aR e3 hn
 have l1:=aCO (B:=B) n.toNat t3 []
 rw [e4] at l1
 have px:=rX (B:=B) (s:=t) (by rw [e5];exact h4)
 have py:=rX (B:=B) (s:=t4) (by rw [e6];exact h6)
 have pz:=rX (B:=B) (s:=t6) (by rw [e7];exact h7)
 rw [e5] at px
 rw [e6] at py
 rw [e7] at pz
 refine ⟨?_,px,py,pz⟩
 show pl.length≤255
 have:pl.length≤0+n.toNat:=l1
 omega
def noU:UV:=⟨0,0,[],⟨0,0,[],[]⟩,⟨0,0,[],[]⟩,⟨0,0,[],[]⟩⟩
def qO (B:List U8):UV×Int×Int:=
 if (dS B).2.wr=true∨(dS B).2.k<B.length then (noU,170,(dS B).2.k)
 else if (cX (dS B).1.k1 (dS B).1.k2 (dS B).1.pl (dS B).1.x (dS B).1.y (dS B).1.z).2≠0 then (noU,(cX (dS B).1.k1 (dS B).1.k2 (dS B).1.pl (dS B).1.x (dS B).1.y (dS B).1.z).2,(cX (dS B).1.k1 (dS B).1.k2 (dS B).1.pl (dS B).1.x (dS B).1.y (dS B).1.z).1)
 else ((dS B).1,0,0)
def UnitIn (G:Imm) (u:UV) (pa:Option Addr) (pc:Nat) (x y z:PH):Prop:=u.pl.length≤pc∧Arr G pa u.pl∧PHof G u.x x∧PHof G u.y y∧PHof G u.z z
theorem UnitIn.up {G G':Imm} {u:UV} {pa:Option Addr} {pc:Nat} {x y z:PH} (h:UnitIn G u pa pc x y z) (hle:G.le G'):UnitIn G' u pa pc x y z:=⟨h.1,h.2.1.up hle,h.2.2.1.up hle,h.2.2.2.1.up hle,h.2.2.2.2.up hle⟩
theorem nQ (G:Imm):UnitIn G noU none 0 ⟨0,0,none,0,0,none,0,0⟩ ⟨0,0,none,0,0,none,0,0⟩ ⟨0,0,none,0,0,none,0,0⟩:=
 ⟨Nat.le_refl _,Arr.nil _,⟨rfl,rfl,rfl,rfl,Arr.nil _,Arr.nil _⟩,⟨rfl,rfl,rfl,rfl,Arr.nil _,Arr.nil _⟩,rfl,rfl,rfl,rfl,Arr.nil _,Arr.nil _⟩
def aCP (B:List U8) (v:Value) (G':Imm):Prop:=∃ (pa:Option Addr) (pc:Nat) (x y z:PH),v=.tuple #[nB (qO B).1.k1 (qO B).1.k2 pa (qO B).1.pl.length pc x y z,.agg #[.int .i64 (qO B).2.1,.int .i64 (qO B).2.2]]∧UnitIn G' (qO B).1 pa pc x y z
def oV (u:UV):Prop:=u.pl.length≤255∧oU u.x∧oU u.y∧oU u.z
theorem aJL (B:List U8):oV (qO B).1:=by
 have hno:oV noU:=⟨by decide,⟨by decide,by decide⟩,⟨by decide,by decide⟩,by decide,by decide⟩
 unfold qO
 split
 · exact hno
 rename_i h
 split
 · exact hno
 exact tP (Bool.eq_false_iff.2 fun h'=>h (.inl h'))
theorem c13U (G:Imm) (u:UV) (pa:Option Addr) (pc:Nat) (x y z:PH) (h:UnitIn G u pa pc x y z) (hs:oV u) :
 Does Tryz.prog 13 [nB u.k1 u.k2 pa u.pl.length pc x y z] G [] (fun v G' Ho=>v=.tuple #[.int .i64 (cX u.k1 u.k2 u.pl u.x u.y u.z).1,.int .i64 (cX u.k1 u.k2 u.pl u.x u.y u.z).2]∧Ho=[]):=by
 obtain ⟨k1,k2,pl,xp,yp,zp⟩:=u
 obtain ⟨hpc,hpa,⟨e1,e2,e3,e4,hxc,hxo⟩,⟨f1,f2,f3,f4,hyc,hyo⟩,g1,g2,g3,g4,hzc,hzo⟩:=h
 obtain ⟨h1,⟨h2,h3⟩,⟨h4,h5⟩,h6,h7⟩:=hs
 dsimp only at *
 obtain ⟨xi,xr,xac,xcn,xcc,xao,xon,xoc⟩:=x
 obtain ⟨yi,yr,yac,ycn,ycc,yao,yon,yoc⟩:=y
 obtain ⟨zi,zr,zac,zcn,zcc,zao,zon,zoc⟩:=z
 dsimp only at *
 subst e1 e2 e3 e4 f1 f2 f3 f4 g1 g2 g3 g4
 exact c13 G k1 k2 pl pa pc xp yp zp xac xao yac yao zac zao xcc xoc ycc yoc zcc zoc hpa hpc (by omega) hxc hxo h2 (by omega) hyc hyo h4 (by omega) hzc hzo h6 (by omega)
theorem c14U (G:Imm) (u:UV) (pa:Option Addr) (pc:Nat) (x y z:PH) (h:UnitIn G u pa pc x y z) (hs:oV u) :
 Does Tryz.prog 14 [nB u.k1 u.k2 pa u.pl.length pc x y z] G [] (fun v G' Ho=>v=.tuple #[.int .i64 (cX u.k1 u.k2 u.pl u.x u.y u.z).1,.int .i64 (cX u.k1 u.k2 u.pl u.x u.y u.z).2]∧Ho=[]):=by
 obtain ⟨k1,k2,pl,xp,yp,zp⟩:=u
 obtain ⟨hpc,hpa,⟨e1,e2,e3,e4,hxc,hxo⟩,⟨f1,f2,f3,f4,hyc,hyo⟩,g1,g2,g3,g4,hzc,hzo⟩:=h
 obtain ⟨h1,⟨h2,h3⟩,⟨h4,h5⟩,h6,h7⟩:=hs
 dsimp only at *
 obtain ⟨xi,xr,xac,xcn,xcc,xao,xon,xoc⟩:=x
 obtain ⟨yi,yr,yac,ycn,ycc,yao,yon,yoc⟩:=y
 obtain ⟨zi,zr,zac,zcn,zcc,zao,zon,zoc⟩:=z
 dsimp only at *
 subst e1 e2 e3 e4 f1 f2 f3 f4 g1 g2 g3 g4
 exact c14 G k1 k2 pl pa pc xp yp zp xac xao yac yao zac zao xcc xoc ycc yoc zcc zoc hpa hpc (by omega) hxc hxo h2 (by omega) hyc hyo h4 (by omega) hzc hzo h6 (by omega)
theorem c15U (G:Imm) (u:UV) (pa qa:Option Addr) (pc qc:Nat) (x y z x' y' z':PH) (h:UnitIn G u pa pc x y z) (h':UnitIn G u qa qc x' y' z') (hs:oV u) :
 Does Tryz.prog 15 [nB u.k1 u.k2 pa u.pl.length pc x y z,nB u.k1 u.k2 qa u.pl.length qc x' y' z'] G [] (fun v G' Ho=>v=.bool (decide (1=1))∧G'=G∧Ho=[]):=by
 obtain ⟨k1,k2,pl,xp,yp,zp⟩:=u
 obtain ⟨hpc,hpa,⟨e1,e2,e3,e4,hxc,hxo⟩,⟨f1,f2,f3,f4,hyc,hyo⟩,g1,g2,g3,g4,hzc,hzo⟩:=h
 obtain ⟨hqc,hqa,⟨e1',e2',e3',e4',huc,huo⟩,⟨f1',f2',f3',f4',hvc,hvo⟩,g1',g2',g3',g4',hwc,hwo⟩:=h'
 obtain ⟨h1,⟨h2,h3⟩,⟨h4,h5⟩,h6,h7⟩:=hs
 dsimp only at *
 obtain ⟨xi,xr,xac,xcn,xcc,xao,xon,xoc⟩:=x
 obtain ⟨yi,yr,yac,ycn,ycc,yao,yon,yoc⟩:=y
 obtain ⟨zi,zr,zac,zcn,zcc,zao,zon,zoc⟩:=z
 obtain ⟨ui,ur,uac,ucn,ucc,uao,uon,uoc⟩:=x'
 obtain ⟨vi,vr,vac,vcn,vcc,vao,von,voc⟩:=y'
 obtain ⟨wi,wr,wac,wcn,wcc,wao,won,woc⟩:=z'
 dsimp only at *
 subst e1 e2 e3 e4 f1 f2 f3 f4 g1 g2 g3 g4 e1' e2' e3' e4' f1' f2' f3' f4' g1' g2' g3' g4'
 exact c15 G k1 k2 pl pa qa pc qc xp yp zp xac xao yac yao zac zao uac uao vac vao wac wao xcc xoc ycc yoc zcc zoc ucc uoc vcc voc wcc woc hpa hqa (by omega) hxc hxo hyc hyo hzc hzo huc huo hvc hvo hwc hwo (by omega) (by omega) (by omega) (by omega) (by omega) (by omega)
theorem aHA {B:List U8} (h:(dS B).2.wr=true∨(dS B).2.k<B.length):qO B=(noU,170,((dS B).2.k:Int)):=if_pos h
theorem aOB {B:List U8} {u:UV} {t:RS} (e:dS B=(u,t)) (h1:t.wr=false) (h2:t.k=B.length) (h3:(cX u.k1 u.k2 u.pl u.x u.y u.z).2≠0):qO B=(noU,(cX u.k1 u.k2 u.pl u.x u.y u.z).2,(cX u.k1 u.k2 u.pl u.x u.y u.z).1):=by
 unfold qO
 rw [e]
 rw [if_neg (by rintro (h | h);· exact absurd (h1.symm.trans h) (by decide)
                · exact absurd h2 (Nat.ne_of_lt h)),if_pos h3]
theorem aOC {B:List U8} {u:UV} {t:RS} (e:dS B=(u,t)) (h1:t.wr=false) (h2:t.k=B.length) (h3:(cX u.k1 u.k2 u.pl u.x u.y u.z).2=0):qO B=(u,0,0):=by
 unfold qO
 rw [e]
 rw [if_neg (by rintro (h | h);· exact absurd (h1.symm.trans h) (by decide)
                · exact absurd h2 (Nat.ne_of_lt h)),if_neg (not_not_intro h3)]
section
attribute [local irreducible] cX dS
theorem c17 (G:Imm) (a:Option Addr) (c:Nat) (B:List U8) (hA:Arr G a B) (hc:B.length≤c) (hB:Bytes B) (hl:B.length≤65520) :
 Does Tryz.prog 17 [.slice a B.length c] G [] (fun v G' Ho=>aCP B v G'∧Ho=[]):=by
 refine D0 Tryz.func17 Tryz.ntmps17 fun w=>?_
 refine Wc.gl 2 [] ?_
 refine Wl.alloc 0 rfl T.zero28 fun b1=>?_
 refine Wl.alloc 1 rfl T.zero42 fun b2=>?_
 refine Wl.gl 5 [] ?_
 refine Wl.k 9 rfl (c66 _ a c B hA hc hB hl) fun v1 G1 Ho1 hle1 hp=>?_
 obtain ⟨u,t,hd,htk,rfl,⟨hbad,rfl⟩ | ⟨hw,hte,pa,pc,h0,h1,h2,rfl,hpc,hpa,hx,hy,hz⟩⟩:=hp
 · refine aA 3 [] ?_
   refine Wl.alloc 2 rfl T.zero28 fun b3=>?_
   refine Wl.alloc 3 rfl T.zero42 fun b4=>?_
   refine Wl.gc 14 [2,3,3,1] ?_
   refine Wc.draw [0,1,2,3] [(1,3),(0,2)] T.mixed rfl ?_
   refine Gm.u 0 [] rfl (Qy.build (cs:=[_,_,_,_,_,_,_,_,_,_,_,_,_,_,_]) T.st28 rfl rfl rfl) ?_
   refine Gm.r [[1,3]] ?_
   refine Gm.o1 2 ?_
   refine aA 1 [0] ?_
   refine Wl.o1 3 ?_
   refine aA 1 [1] ?_
   refine aZ ?_
   refine Ar.ga 3 [] ?_
   refine bQ (.inr rfl) (Ho:=Hp.only _ []) rfl (.agg 0 rfl rfl T.agg28) (.agg 1 rfl rfl T.agg42) (aC _ _) ?_
   refine ⟨?_,rfl⟩
   unfold aCP
   rw [aHA (by rw [hd];exact hbad),hd]
   exact ⟨none,0,_,_,_,rfl,nQ _⟩
 have hU:UnitIn G1 u pa pc h0 h1 h2:=⟨hpc,hpa,hx,hy,hz⟩
 have hsh:oV u:=by have:=tP (B:=B) (by rw [hd];exact hw);rw [hd] at this;exact this
 refine aA 3 [] ?_
 refine Wl.alloc 2 rfl T.zero28 fun b3=>?_
 refine Wl.alloc 3 rfl T.zero42 fun b4=>?_
 refine Wl.gl 18 [2,3,3,0,2] ?_
 refine Wl.k 4 rfl (c13U _ u pa pc h0 h1 h2 ‹_› hsh) fun v2 G2 Ho2 hle2 hp=>?_
 obtain ⟨rfl,rfl⟩:=hp
 replace hpa:=hpa.up hle2
 refine Wl.gc 14 [] ?_
 refine Wc.i (fun hc1=>?_) fun hc1=>?_
 refine Wc.gl 2 [] ?_
 refine Wl.p (Qy.build (cs:=[_,_,_,_,_,_,_,_,_,_,_,_,_,_,_]) T.st28 rfl rfl rfl) ?_
 refine aA 2 [] ?_
 refine Wl.p (Qy.build (cs:=[_,_]) T.st42 rfl rfl rfl) ?_
 refine Wl.ga 6 [0,1] ?_
 rotate_left
 refine Wc.gl 5 [2] ?_
 refine Wl.p (Qy.build (cs:=[_,_]) T.st42 rfl rfl rfl) ?_
 refine Wl.ga 5 [0,1] ?_
 rotate_left
 · refine bQ (.inr rfl) (Ho:=Hp.only _ []) rfl (.agg 0 rfl rfl T.agg28) (.agg 1 rfl rfl T.agg42) (aC _ _) ?_
   refine ⟨?_,rfl⟩
   unfold aCP
   rw [aOB hd hw hte ‹_›]
   exact ⟨none,0,_,_,_,rfl,nQ _⟩
 refine bQ (.inr rfl) (Ho:=Hp.only _ []) rfl (.agg 0 rfl rfl T.agg28) (.agg 1 rfl rfl T.agg42) (aC _ _) ?_
 refine ⟨?_,rfl⟩
 unfold aCP
 rw [aOC hd hw hte (Decidable.not_not.1 ‹_›)]
 exact ⟨pa,pc,h0,h1,h2,rfl,hU.up hle2⟩
theorem c19 (G:Imm) (a:Option Addr) (c:Nat) (B:List U8) (hA:Arr G a B) (hc:B.length≤c) (hB:Bytes B) (hl:B.length≤65520) :
 Does Tryz.prog 19 [.slice a B.length c] G [] (fun v G' Ho=>aCP B v G'∧Ho=[]):=by
 refine D0 Tryz.func19 Tryz.ntmps19 fun w=>?_
 refine Wc.gl 2 [] ?_
 refine Wl.alloc 0 rfl T.zero28 fun b1=>?_
 refine Wl.alloc 1 rfl T.zero42 fun b2=>?_
 refine Wl.gl 5 [] ?_
 refine Wl.k 9 rfl (c16 _ a c B hA hc hB hl) fun v1 G1 Ho1 hle1 hp=>?_
 obtain ⟨u,t,hd,htk,rfl,⟨hbad,rfl⟩ | ⟨hw,hte,hd',pa,pc,h0,h1,h2,rfl,hpc,hpa,hx,hy,hz⟩⟩:=hp
 · refine aA 3 [] ?_
   refine Wl.alloc 2 rfl T.zero28 fun b3=>?_
   refine Wl.gl 14 [2,1] ?_
   refine Wl.p (Qy.build (cs:=[_,_,_,_,_,_,_,_,_,_,_,_,_,_,_]) T.st28 rfl rfl rfl) ?_
   refine aA 1 [] ?_
   refine Wl.p (Qy.build (cs:=[_,_]) T.st42 rfl rfl rfl) ?_
   refine Wl.ga 6 [0,1] ?_
   refine bQ (.inr rfl) (Ho:=Hp.only _ []) rfl (.agg 0 rfl rfl T.agg28) (.agg 1 rfl rfl T.agg42) (aC _ _) ?_
   refine ⟨?_,rfl⟩
   unfold aCP
   rw [aHA (by rw [hd];exact hbad),hd]
   exact ⟨none,0,_,_,_,rfl,nQ _⟩
 have hU:UnitIn G1 u pa pc h0 h1 h2:=⟨hpc,hpa,hx,hy,hz⟩
 have hsh:oV u:=by have:=tP (B:=B) (by rw [hd'];exact hw);rw [hd'] at this;exact this
 refine aA 3 [] ?_
 refine Wl.alloc 2 rfl T.zero28 fun b3=>?_
 refine Wl.gl 17 [2,0,2] ?_
 refine Wl.k 3 rfl (c14U _ u pa pc h0 h1 h2 ‹_› hsh) fun v2 G2 Ho2 hle2 hp=>?_
 obtain ⟨rfl,rfl⟩:=hp
 replace hpa:=hpa.up hle2
 refine Wl.gc 14 [] ?_
 refine Wc.i (fun hc1=>?_) fun hc1=>?_
 refine Wc.gl 2 [] ?_
 refine Wl.p (Qy.build (cs:=[_,_,_,_,_,_,_,_,_,_,_,_,_,_,_]) T.st28 rfl rfl rfl) ?_
 refine aA 2 [] ?_
 refine Wl.p (Qy.build (cs:=[_,_]) T.st42 rfl rfl rfl) ?_
 refine Wl.ga 6 [0,1] ?_
 rotate_left
 refine Wc.gl 5 [2] ?_
 refine Wl.p (Qy.build (cs:=[_,_]) T.st42 rfl rfl rfl) ?_
 refine Wl.ga 5 [0,1] ?_
 rotate_left
 · refine bQ (.inr rfl) (Ho:=Hp.only _ []) rfl (.agg 0 rfl rfl T.agg28) (.agg 1 rfl rfl T.agg42) (aC _ _) ?_
   refine ⟨?_,rfl⟩
   unfold aCP
   rw [aOB hd' hw hte ‹_›]
   exact ⟨none,0,_,_,_,rfl,nQ _⟩
 refine bQ (.inr rfl) (Ho:=Hp.only _ []) rfl (.agg 0 rfl rfl T.agg28) (.agg 1 rfl rfl T.agg42) (aC _ _) ?_
 refine ⟨?_,rfl⟩
 unfold aCP
 rw [aOC hd' hw hte (Decidable.not_not.1 ‹_›)]
 exact ⟨pa,pc,h0,h1,h2,rfl,hU.up hle2⟩
end
end Go.Proofs.YtfdcckcadfhpeaaGreatDoor
namespace Go.Sl.Ev
open Go Go.Sl
def bnd (o:Oper):List Nat:=(o.after.toList.filter (Region.binds .any)).map (·.on)
def qP {α:Type} (p:α→Bool) (l:List α):Bool:=List.rec true (fun x _ ih=>p x && ih) l
def aJM {α:Type} (p:α→Bool) (l:List α):Bool:=List.rec false (fun x _ ih=>p x || ih) l
theorem eP {α:Type} {p:α→Bool}:∀ {l:List α},qP p l=true↔∀ x∈l,p x=true:=by
 intro l
 induction l with
 | nil=>exact ⟨fun _ x h=>(by cases h),fun _=>rfl⟩
 | cons a l ih =>
   show (p a && qP p l)=true↔_
   rw [Bool.and_eq_true,ih]
   exact ⟨fun h x hx=>by rcases List.mem_cons.1 hx with rfl | hx;exact h.1;exact h.2 x hx,fun h=>⟨h a List.mem_cons_self,fun x hx=>h x (List.mem_cons_of_mem _ hx)⟩⟩
theorem vS {α:Type} {p:α→Bool}:∀ {l:List α},aJM p l=true↔∃ x∈l,p x=true:=by
 intro l
 induction l with
 | nil=>exact ⟨fun h=>(by cases h),fun ⟨x,h,_⟩=>(by cases h)⟩
 | cons a l ih =>
   show (p a || aJM p l)=true↔_
   rw [Bool.or_eq_true,ih]
   exact ⟨fun h=>by rcases h with h | ⟨x,h1,h2⟩;exact ⟨a,List.mem_cons_self,h⟩;exact ⟨x,List.mem_cons_of_mem _ h1,h2⟩,fun ⟨x,h1,h2⟩=>by rcases List.mem_cons.1 h1 with rfl | h1;exact .inl h2;exact .inr ⟨x,h1,h2⟩⟩
def rdy (m i:Nat) (o:Oper):Bool:=not (Nat.testBit m i) && qP (Nat.testBit m) (bnd o)
def vT (o:Oper) (i:Nat):Bool:=aJM (Nat.beq i) (bnd o)
def aJN (p:Nat→Oper→Bool) (l:List Oper):Nat→Bool:=List.rec (fun _=>true) (fun o _ ih j=>p j o && ih (Nat.succ j)) l
def sO (p:Nat→Oper→Bool) (l:List Oper):Nat→Option Nat:=List.rec (fun _=>none) (fun o _ ih j=>bif p j o then some j else ih (Nat.succ j)) l
theorem aAB {p:Nat→Oper→Bool}:∀ {l:List Oper} {j:Nat},aJN p l j=true→∀ k o,l[k]?=some o→p (j+k) o=true:=by
 intro l
 induction l with
 | nil=>intro j _ k o h;simp at h
 | cons x l ih =>
   intro j h k o hk
   have h':(p j x && aJN p l (j+1))=true:=h
   rw [Bool.and_eq_true] at h'
   cases k with
   | zero=>simp at hk;subst hk;exact h'.1
   | succ k =>
     have:=ih h'.2 k o (by simpa using hk)
     rw [show j+(k+1)=j+1+k by omega];exact this
theorem aOD {p:Nat→Oper→Bool}:∀ {l:List Oper} {j i:Nat},sO p l j=some i→∃ k o,i=j+k∧l[k]?=some o∧p i o=true:=by
 intro l
 induction l with
 | nil=>intro j i h;cases h
 | cons x l ih =>
   intro j i h
   have h':(bif p j x then some j else sO p l (j+1))=some i:=h
   rcases aE h' with ⟨h1,h2⟩ | ⟨_,h2⟩
   · cases h2;exact ⟨0,x,rfl,rfl,h1⟩
   obtain ⟨k,o,e,h3,h4⟩:=ih h2
   exact ⟨k+1,o,by omega,by simpa using h3,h4⟩
def mB:Op→Bool
 | .move _ | .assign _ | .pick .. | .unOp .. | .binOp .. | .convert .. | .extract .. | .nilCheck _ | .fieldAddr .. | .field .. | .load .. | .makeFunc .. | .indexAddr .. | .index .. | .slice .. | .build .. | .lookup ..=>true
 | .call ⟨.builtin .len,_,_⟩ | .call ⟨.builtin .cap,_,_⟩ | .call ⟨.builtin .min,_,_⟩ | .call ⟨.builtin .max,_,_⟩=>true
 | _=>false
def frB (all:Array Oper) (m i:Nat) (oi:Oper) (l:List Oper):Bool:=aJN (fun j oj=>Nat.beq j i || (Nat.testBit m j || (vT oj i || oi.apart all oj))) l 0
def rY (m i:Nat):Nat:=m ||| (1 <<< i)
inductive Pk where
 | look
 | only
 | race (R:List Nat)
 | make (R:List Nat)
def aOE:Op→Bool
 | .alloc _ | .box .. | .makeSlice .. | .buildSlice .. | .makeMap _ none=>true
 | _=>false
def isT (d:Nat):Operand→Bool | .tmp t=>Nat.beq t d | _=>false
def vU (o:Oper):Bool:=aOE o.op && (match o.guard with | none=>(match o.dst with | some d=>not (aJM (isT d) o.op.operands.toList) | none=>false) | some _=>false)
def memB (R:List Nat) (i:Nat):Bool:=aJM (Nat.beq i) R
def vV (l:List Oper) (i:Nat) (p:Oper→Bool):Bool:=match nth l i with | some o=>p o | none=>false
def setR (R:List Nat) (m:Nat):Nat:=List.rec m (fun j _ ih=>rY ih j) R
def mD (l:List Oper) (m:Nat):List Nat:=List.rec (motive:=fun _=>Nat→List Nat) (fun _=>[]) (fun o _ ih j=>bif rdy m j o then j :: ih (Nat.succ j) else ih (Nat.succ j)) l 0
def yE (l:List Oper) (m:Nat) (Rc:List Nat) (i:Nat) (o:Oper) (R:List Nat):Bool:=
 (rdy m i o && qP (fun k=>Nat.beq k i || memB R k) Rc) && ((not (memB R i) && qP (fun j=>vV l j fun oj=>(vU oj && not (Nat.testBit m j)) && (oj.apart l.toArray o && qP (fun k=>Nat.beq k j || vV l k fun ok=>oj.apart l.toArray ok) R)) R) &&
  aJN (fun j oj=>Nat.beq j i || not (rdy (setR R m) j oj)) l 0)
def vW (R Rc:List Nat):Bool:=match R,Rc with | [],[]=>true | _,_=>false
theorem vX {R Rc:List Nat} (h:vW R Rc=true):R=[]∧Rc=[]:=by
 cases R <;> cases Rc <;> first | exact ⟨rfl,rfl⟩ | cases h
def vY (l:List Oper) (f:Nat):Nat→List Nat→Option (List (Nat×Pk)):=
 Nat.rec (fun m Rc=>bif aJN (fun j o=>not (rdy m j o)) l 0 then (bif vW [] Rc then some [] else none) else none)
  (fun _ ih m Rc=>match sO (fun i o=>mB o.op && (rdy m i o && frB l.toArray m i o l)) l 0 with
   | some i=>(match ih (rY m i) Rc with | some p=>some ((i,.look) :: p) | none=>none)
   | none=>(match sO (fun i o=>rdy m i o && not (vU o)) l 0 with
     | some i=>bif vV l i (fun o=>yE l m Rc i o ((mD l m).filter fun j=>not (Nat.beq j i))) then
      (bif vW ((mD l m).filter fun j=>not (Nat.beq j i)) Rc then (match ih (rY m i) [] with | some p=>some ((i,.only) :: p) | none=>none) else
      bif vV l i (fun o=>not (aOE o.op) && (match o.guard with | none=>true | some _=>false)) then (match ih (rY m i) ((mD l m).filter fun j=>not (Nat.beq j i)) with | some p=>some ((i,.race ((mD l m).filter fun j=>not (Nat.beq j i))) :: p) | none=>none) else none) else none
     | none=>(match sO (rdy m) l 0 with
       | some i=>bif vV l i (fun o=>vU o && yE l m Rc i o ((mD l m).filter fun j=>not (Nat.beq j i))) then
        (bif vW ((mD l m).filter fun j=>not (Nat.beq j i)) Rc then (match ih (rY m i) [] with | some p=>some ((i,.only) :: p) | none=>none) else
        (match ih (rY m i) ((mD l m).filter fun j=>not (Nat.beq j i)) with | some p=>some ((i,.make ((mD l m).filter fun j=>not (Nat.beq j i))) :: p) | none=>none)) else none
       | none=>none))) f
def vZ (l:List Oper):Option (List (Nat×Pk)):=bif Region.noSelect l.toArray && l.all bZ then vY l l.length 0 [] else none
def LM (l:List Oper) (L:Array Bool) (m:Nat):Prop:=L.size=l.length∧∀ i,L.getD i false=Nat.testBit m i
theorem LM.in {l:List Oper} {L:Array Bool} {m:Nat} (h:LM l L m) {i:Nat} (hi:i<l.length):L.getD i true=Nat.testBit m i:=by
 rw [←h.2 i]
 have:i<L.size:=by rw [h.1];exact hi
 simp [this]
theorem LM.set {l:List Oper} {L:Array Bool} {m i:Nat} (h:LM l L m) (hi:i<l.length):LM l (L.setIfInBounds i true) (rY m i):=by
 refine ⟨by simp [h.1],fun j=>?_⟩
 unfold rY
 rw [Nat.testBit_or,←h.2 j]
 have hsz:i<L.size:=by rw [h.1];exact hi
 by_cases e:i=j
 · subst e
   have:(1 <<< i).testBit i=true:=by rw [Nat.testBit_shiftLeft];simp
   rw [this,Bool.or_true]
   simp [hsz]
 have:(1 <<< i).testBit j=false:=by rw [Nat.one_shiftLeft,Nat.testBit_two_pow_of_ne e]
 rw [this,Bool.or_false]
 rw [Array.getD_eq_getD_getElem?,Array.getD_eq_getD_getElem?,Array.getElem?_setIfInBounds_ne e]
theorem LM.start (l:List Oper):LM l (Array.replicate l.length false) 0:=by
 refine ⟨by simp,fun i=>?_⟩
 rw [Nat.zero_testBit,Array.getD_eq_getD_getElem?,Array.getElem?_replicate]
 split <;> rfl
theorem tQ {l:List Oper} {L:Array Bool} {m j:Nat} {o:Oper} (h:LM l L m) (hj:l[j]?=some o):rdy m j o=true↔j∈Region.ready .any l.toArray L:=by
 have hlt:j<l.length:=(List.getElem?_eq_some_iff.1 hj).1
 rw [mem_ready]
 unfold rdy
 rw [Bool.and_eq_true,Bool.not_eq_true',eP,h.in hlt]
 have hj':l.toArray[j]?=some o:=by simpa using hj
 refine ⟨fun ⟨h1,h2⟩=>⟨h1,o,hj',fun e he hb=>?_⟩,fun ⟨h1,o',ho',h2⟩=>⟨h1,fun x hx=>?_⟩⟩
 · rw [h.2];exact h2 e.on (List.mem_map.2 ⟨e,List.mem_filter.2 ⟨Array.mem_toList_iff.2 he,hb⟩,rfl⟩)
 rw [hj'] at ho';cases ho'
 obtain ⟨e,he,rfl⟩:=List.mem_map.1 hx
 obtain ⟨he1,he2⟩:=List.mem_filter.1 he
 rw [←h.2];exact h2 e (Array.mem_toList_iff.1 he1) he2
theorem wA {o:Oper} {i:Nat}:vT o i=true↔∃ e∈o.after,Region.binds .any e=true∧e.on=i:=by
 unfold vT
 rw [vS]
 refine ⟨fun ⟨x,hx,hb⟩=>?_,fun ⟨e,he,hb,hi⟩=>⟨i,List.mem_map.2 ⟨e,List.mem_filter.2 ⟨Array.mem_toList_iff.2 he,hb⟩,hi⟩,by simp⟩⟩
 have:=Nat.eq_of_beq_eq_true hb
 subst this
 obtain ⟨e,he,rfl⟩:=List.mem_map.1 hx
 obtain ⟨he1,he2⟩:=List.mem_filter.1 he
 exact ⟨e,Array.mem_toList_iff.1 he1,he2,rfl⟩
def wB (R:List Nat) (L:Array Bool):Array Bool:=R.foldr (fun j L=>L.setIfInBounds j true) L
structure RaceOk (l:List Oper) (L:Array Bool) (Rc:List Nat) (i:Nat) (R:List Nat):Prop where
 rd:i∈Region.ready .any l.toArray L
 sub:∀ k∈Rc,k=i∨k∈R
 ni:i ∉ R
 mks:∀ j∈R,∃ oj,l[j]?=some oj∧vU oj=true∧L.getD j true=false∧(∀ o,l[i]?=some o→oj.apart l.toArray o=true)∧∀ k∈R,k≠j→∀ ok,l[k]?=some ok→oj.apart l.toArray ok=true
 only:∀ j,j∈Region.ready .any l.toArray (wB R L)→j=i
def PlanOk (l:List Oper):Array Bool→List Nat→List (Nat×Pk)→Prop
 | L,Rc,[]=>Region.ready .any l.toArray L=[]∧Rc=[]
 | L,Rc,(i,.look) :: p=>(∃ o,l[i]?=some o∧mB o.op=true∧i∈Region.ready .any l.toArray L∧∀ j oj,l.toArray[j]?=some oj→j≠i→L.getD j true=false→(∀ e∈oj.after,Region.binds .any e=true→e.on≠i)→o.apart l.toArray oj=true)∧PlanOk l (L.setIfInBounds i true) Rc p
 | L,Rc,(i,.only) :: p=>Rc=[]∧(∃ o,l[i]?=some o∧i∈Region.ready .any l.toArray L∧∀ j∈Region.ready .any l.toArray L,j=i)∧PlanOk l (L.setIfInBounds i true) [] p
 | L,Rc,(i,.race R) :: p=>RaceOk l L Rc i R∧(∃ o,l[i]?=some o∧o.guard=none∧aOE o.op=false)∧PlanOk l (L.setIfInBounds i true) R p
 | L,Rc,(i,.make R) :: p=>RaceOk l L Rc i R∧(∃ o,l[i]?=some o∧vU o=true)∧PlanOk l (L.setIfInBounds i true) R p
theorem lX {l:List Oper} {i:Nat} {p:Oper→Bool} (h:vV l i p=true):∃ o,l[i]?=some o∧p o=true:=by
 unfold vV at h
 split at h
 · rename_i o ho;exact ⟨o,by rw [←gV];exact ho,h⟩
 cases h
theorem aCQ {R:List Nat} {i:Nat}:memB R i=true↔i∈R:=by
 unfold memB
 rw [vS]
 exact ⟨fun ⟨x,h1,h2⟩=>by rw [Nat.eq_of_beq_eq_true h2];exact h1,fun h=>⟨i,h,by simp⟩⟩
theorem aHB {l:List Oper}:∀ {R:List Nat} {L:Array Bool} {m:Nat},LM l L m→(∀ j∈R,j<l.length)→LM l (wB R L) (setR R m)
 | [],_,_,h,_=>h
 | j :: R,_,_,h,hr=>(aHB h fun k hk=>hr k (List.mem_cons_of_mem _ hk)).set (hr j (List.mem_cons_self ..))
theorem aCR {l:List Oper} {m:Nat} {L:Array Bool} {Rc R:List Nat} {i:Nat} {o:Oper} (hL:LM l L m) (ho:l[i]?=some o) (h:yE l m Rc i o R=true):RaceOk l L Rc i R:=by
 unfold yE at h
 simp only [Bool.and_eq_true] at h
 obtain ⟨⟨h1,h2⟩,⟨h3,h4⟩,h5⟩:=h
 have hmk:∀ j∈R,∃ oj,l[j]?=some oj∧vU oj=true∧Nat.testBit m j=false∧oj.apart l.toArray o=true∧∀ k∈R,k≠j→∀ ok,l[k]?=some ok→oj.apart l.toArray ok=true:=fun j hj=>by
  have:=eP.1 h4 j hj
  obtain ⟨oj,e1,e2⟩:=lX this
  simp only [Bool.and_eq_true,Bool.not_eq_true'] at e2
  obtain ⟨⟨e3,e4⟩,e5,e6⟩:=e2
  refine ⟨oj,e1,e3,e4,e5,fun k hk hne ok hok=>?_⟩
  have:=eP.1 e6 k hk
  simp only [Bool.or_eq_true] at this
  rcases this with h | h
  · exact absurd (Nat.eq_of_beq_eq_true h) hne
  obtain ⟨ok',e7,e8⟩:=lX h
  rw [hok] at e7;cases e7;exact e8
 have hlt:∀ j∈R,j<l.length:=fun j hj=>by obtain ⟨oj,e1,_⟩:=hmk j hj;exact (List.getElem?_eq_some_iff.1 e1).1
 refine ⟨(tQ hL ho).1 h1,fun k hk=>?_,fun hi=>?_,fun j hj=>?_,fun j hj=>?_⟩
 · have:=eP.1 h2 k hk
   simp only [Bool.or_eq_true] at this
   exact this.imp Nat.eq_of_beq_eq_true aCQ.1
 · rw [aCQ.2 hi] at h3;cases h3
 · obtain ⟨oj,e1,e2,e3,e4,e5⟩:=hmk j hj
   exact ⟨oj,e1,e2,by rw [hL.in (hlt j hj)];exact e3,fun o' ho'=>by rw [ho] at ho';cases ho';exact e4,e5⟩
 obtain ⟨_,oj,hoj,_⟩:=mem_ready.1 hj
 have hoj':l[j]?=some oj:=by simpa using hoj
 have:=aAB h5 j oj hoj'
 rw [Nat.zero_add,(tQ (aHB hL hlt) hoj').2 hj] at this
 simp only [Bool.not_true,Bool.or_false] at this
 exact Nat.eq_of_beq_eq_true this
theorem aOF {l:List Oper}:∀ {f m:Nat} {L:Array Bool} {Rc:List Nat} {p:List (Nat×Pk)},LM l L m→vY l f m Rc=some p→PlanOk l L Rc p∧p.length=f:=by
 intro f
 induction f with
 | zero =>
   intro m L Rc p hL h
   have h':(bif aJN (fun j o=>not (rdy m j o)) l 0 then (bif vW [] Rc then some [] else none) else none)=some p:=h
   rcases aE h' with ⟨h1,h2⟩ | ⟨_,h2⟩
   · rcases aE h2 with ⟨h3,h2⟩ | ⟨_,h2⟩
     · obtain ⟨_,rfl⟩:=vX h3
       cases h2
       refine ⟨⟨List.eq_nil_iff_forall_not_mem.2 fun j hj=>?_,rfl⟩,rfl⟩
       obtain ⟨_,o,ho,_⟩:=mem_ready.1 hj
       have ho':l[j]?=some o:=by simpa using ho
       have:=aAB h1 j o ho'
       rw [Nat.zero_add] at this
       rw [(tQ hL ho').2 hj] at this
       cases this
     cases h2
   · cases h2
 | succ f ih =>
   intro m L Rc p hL h
   have h':(match sO (fun i o=>mB o.op && (rdy m i o && frB l.toArray m i o l)) l 0 with
    | some i=>(match vY l f (rY m i) Rc with | some p=>some ((i,.look) :: p) | none=>none)
    | none=>(match sO (fun i o=>rdy m i o && not (vU o)) l 0 with
      | some i=>bif vV l i (fun o=>yE l m Rc i o ((mD l m).filter fun j=>not (Nat.beq j i))) then
       (bif vW ((mD l m).filter fun j=>not (Nat.beq j i)) Rc then (match vY l f (rY m i) [] with | some p=>some ((i,.only) :: p) | none=>none) else
       bif vV l i (fun o=>not (aOE o.op) && (match o.guard with | none=>true | some _=>false)) then (match vY l f (rY m i) ((mD l m).filter fun j=>not (Nat.beq j i)) with | some p=>some ((i,.race ((mD l m).filter fun j=>not (Nat.beq j i))) :: p) | none=>none) else none) else none
      | none=>(match sO (rdy m) l 0 with
        | some i=>bif vV l i (fun o=>vU o && yE l m Rc i o ((mD l m).filter fun j=>not (Nat.beq j i))) then
         (bif vW ((mD l m).filter fun j=>not (Nat.beq j i)) Rc then (match vY l f (rY m i) [] with | some p=>some ((i,.only) :: p) | none=>none) else
         (match vY l f (rY m i) ((mD l m).filter fun j=>not (Nat.beq j i)) with | some p=>some ((i,.make ((mD l m).filter fun j=>not (Nat.beq j i))) :: p) | none=>none)) else none
        | none=>none)))=some p:=h
   have lt:∀ {i:Nat} {o:Oper},l[i]?=some o→i<l.length:=fun h=>(List.getElem?_eq_some_iff.1 h).1
   have one:∀ {i:Nat} {o:Oper},l[i]?=some o→RaceOk l L [] i []→(∃ o,l[i]?=some o∧i∈Region.ready .any l.toArray L∧∀ j∈Region.ready .any l.toArray L,j=i):=fun ho hr=>⟨_,ho,hr.rd,hr.only⟩
   split at h'
   · rename_i i hi
     obtain ⟨k,o,rfl,ho,hp⟩:=aOD hi
     rw [Nat.zero_add] at *
     simp only [Bool.and_eq_true] at hp
     split at h'
     · rename_i q hq
       cases h'
       obtain ⟨e1,e2⟩:=ih (hL.set (lt ho)) hq
       refine ⟨⟨⟨o,ho,hp.1,(tQ hL ho).1 hp.2.1,fun j oj hj hne hun hno=>?_⟩,e1⟩,by rw [List.length_cons,e2]⟩
       have hj':l[j]?=some oj:=by simpa using hj
       have:=aAB hp.2.2 j oj hj'
       rw [Nat.zero_add] at this
       simp only [Bool.or_eq_true] at this
       rcases this with h1 | h1 | h1 | h1
       · exact absurd (Nat.eq_of_beq_eq_true h1) hne
       · rw [hL.in (lt hj')] at hun;rw [hun] at h1;cases h1
       · obtain ⟨e,he,hb,hi⟩:=wA.1 h1
         exact absurd hi (hno e he hb)
       exact h1
     cases h'
   split at h'
   · rename_i i hi
     rcases aE h' with ⟨h1,h2⟩ | ⟨_,h2⟩
     · obtain ⟨o,ho,hr⟩:=lX h1
       generalize ((mD l m).filter fun j=>not (Nat.beq j i))=R at hr h2
       have hro:=aCR hL ho hr
       rcases aE h2 with ⟨h3,h2⟩ | ⟨_,h2⟩
       · obtain ⟨rfl,rfl⟩:=vX h3
         split at h2
         · rename_i q hq
           cases h2
           obtain ⟨e1,e2⟩:=ih (hL.set (lt ho)) hq
           exact ⟨⟨rfl,one ho hro,e1⟩,by rw [List.length_cons,e2]⟩
         cases h2
       rcases aE h2 with ⟨h3,h4⟩ | ⟨_,h4⟩
       · obtain ⟨o',ho',hg⟩:=lX h3
         split at h4
         · rename_i q hq
           cases h4
           obtain ⟨e1,e2⟩:=ih (hL.set (lt ho)) hq
           rw [Bool.and_eq_true,Bool.not_eq_true'] at hg
           refine ⟨⟨hro,⟨o',ho',?_,hg.1⟩,e1⟩,by rw [List.length_cons,e2]⟩
           cases hgd:o'.guard with
           | none=>rfl
           | some g=>rw [hgd] at hg;cases hg.2
         cases h4
       cases h4
     cases h2
   split at h'
   · rename_i i hi
     rcases aE h' with ⟨h1,h2⟩ | ⟨_,h2⟩
     · obtain ⟨o,ho,hr⟩:=lX h1
       rw [Bool.and_eq_true] at hr
       obtain ⟨hmk,hr⟩:=hr
       generalize ((mD l m).filter fun j=>not (Nat.beq j i))=R at hr h2
       have hro:=aCR hL ho hr
       rcases aE h2 with ⟨h3,h2⟩ | ⟨_,h2⟩
       · obtain ⟨rfl,rfl⟩:=vX h3
         split at h2
         · rename_i q hq
           cases h2
           obtain ⟨e1,e2⟩:=ih (hL.set (lt ho)) hq
           exact ⟨⟨rfl,one ho hro,e1⟩,by rw [List.length_cons,e2]⟩
         cases h2
       split at h2
       · rename_i q hq
         cases h2
         obtain ⟨e1,e2⟩:=ih (hL.set (lt ho)) hq
         exact ⟨⟨hro,⟨o,ho,hmk⟩,e1⟩,by rw [List.length_cons,e2]⟩
       cases h2
     cases h2
   cases h'
theorem aOG {l:List Oper} {p:List (Nat×Pk)} (h:vZ l=some p):Region.noSelect l.toArray=true∧l.all bZ=true∧PlanOk l (Array.replicate l.length false) [] p∧p.length=l.length:=by
 unfold vZ at h
 rcases aE h with ⟨h1,h2⟩ | ⟨_,h2⟩
 · rw [Bool.and_eq_true] at h1
   obtain ⟨e1,e2⟩:=aOF (LM.start l) h2
   exact ⟨h1.1,h1.2,e1,e2⟩
 cases h2
def MkRes (P:Program) (op:Op) (ρ:Pl) (h:Tr CB) (nx:Nat) (a:Act) (c:CV) (h':Tr CB) (nx':Nat):Prop:=
 ∃ (b:CB) (s:Nat) (o:Obj) (V:Nat→Value),nx'=nx+1∧h'=h.set (some b) Fit nx∧nx+1≤Fit∧stB b=nx∧DB nx ρ s b o∧
  (∀ (ρ':Pl) (p:Nat),ρ' nx=(p,s)→Kn (nx+1) ρ' c (V p))∧
  ∀ (w:World) (d:Option Tmp) (ty:TypeId) (pos:String) (after:Array Edge) (g:Option (Nat×Bool)),(execOp a.eval ⟨d,op,ty,pos,after,g⟩).run P w=.ok (.value (V w.heap.size)) (w.alloc o)
def mkrK:Op→Option (List Operand)
 | .alloc _=>some []
 | .box _ x=>some [x]
 | .makeSlice _ x y=>some [x,y]
 | .buildSlice _ _ parts=>some (parts.toList.map (·.2))
 | .makeMap _ none=>some []
 | _=>none
section
variable {P:Program} {nx n:Nat} {ρ:Pl} {E:Tr CV} {h:Tr CB} {a:Act}
theorem aOH (hs:Slots ρ E nx n a) {op:Op} {xs:List Operand} (hx:mkrK op=some xs) {c:CV} {h':Tr CB} {nx':Nat} (hw:wm P E h nx op=.val c h' nx'):MkRes P op ρ h nx a c h' nx':=by
 have hv:wv P E h nx op=.val c h' nx'∨mv P E h nx op=.val c h' nx':=by
  unfold wm at hw
  split at hw
  · exact .inr hw
  exact .inl hw
 cases op with
 | alloc T =>
   rcases hv with hv | hv
   · have hv':(match zeQ P T with | some z=>bif Nat.ble (Nat.succ nx) Fit then Ro.val (.ptr nx 0) (h.set (some (.cells (ofR z) T false nx)) Fit nx) (Nat.succ nx) else .bad | none=>.bad)=.val c h' nx':=hv
     split at hv'
     · rename_i z hz
       rcases aE hv' with ⟨hf,h1⟩ | ⟨_,h1⟩
       · cases h1
         obtain ⟨i,v,hi,hv,kz⟩:=vL hz nx ρ
         refine ⟨_,v.cells.toList.length,.cells v.cells.toList.toArray T (0,0),fun p=>.pointer (some ⟨p,0,none⟩),rfl,rfl,bA hf,rfl,fK kz T,fun ρ' p hρ=>⟨Nat.lt_succ_self nx,?_⟩,fun w d ty pos after g=>?_⟩
         · show _=Value.pointer (some ⟨(ρ' nx).1,0,none⟩)
           rw [hρ]
         simp [execOp,Instr.alloc,newVar,newRow,zeroValue,typeInfo,hi,hv]
       cases h1
     cases hv'
   · cases hv
 | box T x =>
   rcases hv with hv | hv
   · have hv':(match evo E x with
      | some c=>match kI c with
        | some l=>bif Nat.ble (Nat.succ nx) Fit then Ro.val (.ptr nx 0) (h.set (some (.cells (ofR l) T false nx)) Fit nx) (Nat.succ nx) else .bad
        | none=>.bad
      | none=>.bad)=.val c h' nx':=hv
     split at hv'
     · rename_i c1 hc
       split at hv'
       · rename_i l hl
         rcases aE hv' with ⟨hf,h1⟩ | ⟨_,h1⟩
         · cases h1
           obtain ⟨v,e1,k1⟩:=aJ hs hc
           have kz:=kU k1 hl
           refine ⟨_,v.cells.toList.length,.cells v.cells.toList.toArray T (0,0),fun p=>.pointer (some ⟨p,0,none⟩),rfl,rfl,bA hf,rfl,fK kz T,fun ρ' p hρ=>⟨Nat.lt_succ_self nx,?_⟩,fun w d ty pos after g=>?_⟩
           · show _=Value.pointer (some ⟨(ρ' nx).1,0,none⟩)
             rw [hρ]
           simp [execOp,Instr.box,newVar,newRow,fT e1]
         cases h1
       cases hv'
     cases hv'
   · cases hv
 | makeSlice T x y =>
   rcases hv with hv | hv
   · have hv':(match elQ P T with
      | some (e,sz,by',z)=>match evo E x with
        | some (.int _ n)=>match evo E y with
          | some (.int _ c)=>bif ile 0 n && (ile n c && (Nat.ble (Nat.mul by' c.toNat) 281474976710656 && (Nat.ble c.toNat 4611686018427387904 && Nat.ble (Nat.succ nx) Fit))) then
           Ro.val (.sl nx 0 n.toNat sz (some c.toNat)) (h.set (some (.cells (ofR (aEM z c.toNat)) e false nx)) Fit nx) (Nat.succ nx) else .bad
          | _=>.bad
        | _=>.bad
      | none=>.bad)=.val c h' nx':=hv
     split at hv'
     · rename_i e sz by' z hz
       split at hv'
       · rename_i k N hx
         split at hv'
         · rename_i k' C hy
           rcases aE hv' with ⟨hb,h1⟩ | ⟨_,h1⟩
           · cases h1
             simp only [Bool.and_eq_true,dN,decide_eq_true_eq] at hb
             obtain ⟨hb1,hb2,hb3,hb4,hb5⟩:=hb
             have hb3:by'*C.toNat≤281474976710656:=bA hb3
             have hb4:=bA hb4
             obtain ⟨hu,i,zv,hi,hzv,hsz,hby,kz,hzl,h0⟩:=rV hz nx ρ
             obtain ⟨v1,e1,k1⟩:=aJ hs hx
             obtain ⟨v2,e2,k2⟩:=aJ hs hy
             rw [DV.int.1 k1.2] at e1
             rw [DV.int.1 k2.2] at e2
             have hbc:(i.bytes:Int)*C≤281474976710656:=by
              have:((by'*C.toNat:Nat):Int)=(i.bytes:Int)*C:=by rw [Int.natCast_mul,Int.toNat_of_nonneg (by omega),hby]
              omega
             have hmade:madeCells zv.cells (C.toNat*i.size)=(List.replicate C.toNat zv.cells.toList).flatten.toArray:=by
              have:=tM (zs:=zv.cells.toList) (by omega) C.toNat
              rw [hzl] at this
              rw [hsz,←this]
             have hlen:(List.replicate C.toNat zv.cells.toList).flatten.length=C.toNat*sz:=by simp [←hzl]
             refine ⟨_,C.toNat*sz,.cells (List.replicate C.toNat zv.cells.toList).flatten.toArray e (0,0),fun p=>.slice (some ⟨p,0,none⟩) N.toNat C.toNat,rfl,rfl,bA hb5,rfl,by rw [←hlen];exact fK (tF kz C.toNat) e,fun ρ' p hρ=>⟨Nat.lt_succ_self nx,?_⟩,fun w d ty pos after g=>?_⟩
             · refine eL.2 ⟨by rw [hρ],by rw [hρ];show 0+C.toNat*sz≤C.toNat*sz;omega,by omega,?_⟩
               simp only [maxLen];omega
             have hrun:=run_make (P:=P) w T e i zv hu hi hzv k k' N C hb1 hb2 hbc (by omega)
             rw [hmade] at hrun
             simp only [execOp,fT e1,fT e2,Sem.run_bind,hrun,Result.andThen_ok,Sem.run_pure]
           cases h1
         cases hv'
       cases hv'
     cases hv'
   · cases hv
 | buildSlice T N parts =>
   obtain ⟨parts⟩:=parts
   rcases hv with hv | hv
   · have hv':(match elQ P T with
      | some (e,sz,_,z)=>bif Nat.ble 1 N && (Nat.ble (Nat.mul N sz) 16777216 && Nat.ble (Nat.succ nx) Fit) then
       (match qL E (dW N sz) (Nat.mul N sz) parts (aEM z N) with
       | some l=>Ro.val (.sl nx 0 N sz (some N)) (h.set (some (.cells (ofR l) e false nx)) Fit nx) (Nat.succ nx)
       | none=>.bad) else .bad
      | none=>.bad)=.val c h' nx':=hv
     split at hv'
     · rename_i e sz by' z hz
       rcases aE hv' with ⟨hb,h1⟩ | ⟨_,h1⟩
       · split at h1
         · rename_i l hl
           cases h1
           simp only [Bool.and_eq_true] at hb
           obtain ⟨hu,i,zv,hi,hzv,hsz,hby,kz,hzl,h0⟩:=rV hz nx ρ
           have kr:=tF kz N
           obtain ⟨vs,e1,o1,k1⟩:=qM hs kr hl
           have hN:=Nat.le_of_ble_eq_true hb.1
           have hNs:N*sz≤16777216:=Nat.le_of_ble_eq_true hb.2.1
           have hpos:0<N*sz:=Nat.mul_pos hN h0
           have hlen:(List.replicate N zv.cells.toList).flatten.length=N*sz:=by simp [←hzl]
           have hf:=pE (fun i=>some (i*sz,sz)) (dW N sz) (fun i x h=>by
            simp only [dW,List.getElem?_map,Option.map_eq_some_iff] at h
            obtain ⟨j,hj,rfl⟩:=h
            obtain ⟨hlt,hj⟩:=List.getElem?_eq_some_iff.1 hj
            simp at hj;subst hj;rfl) vs (List.replicate N zv.cells.toList).flatten (N*sz) hlen o1
           have hmade:((Array.range (N*i.size)).map (zv.cells[· % zv.cells.size]!))=(List.replicate N zv.cells.toList).flatten.toArray:=by
            have:=tM (zs:=zv.cells.toList) (by omega) N
            rw [hzl] at this
            simpa [madeCells,hsz] using this
           have hmm:(parts.toArray.map fun (i,x)=>(i,a.eval x))=vs.toArray:=by rw [←(lookN a (default:World)).parts e1];simp
           have hlenF:(iO (dW N sz) (List.replicate N zv.cells.toList).flatten vs).length=N*sz:=by
            rw [←cL k1,yA hl (by rw [cL kr,hlen];exact Nat.le_refl _),cL kr,hlen]
           refine ⟨_,(iO (dW N sz) (List.replicate N zv.cells.toList).flatten vs).length,.cells (iO (dW N sz) (List.replicate N zv.cells.toList).flatten vs).toArray e (0,0),fun p=>.slice (some ⟨p,0,none⟩) N N,rfl,rfl,bA hb.2.2,rfl,fK k1 e,fun ρ' p hρ=>⟨Nat.lt_succ_self nx,?_⟩,fun w d ty pos after g=>?_⟩
           · refine eL.2 ⟨by rw [hρ],by rw [hρ,hlenF];omega,Nat.le_refl _,?_⟩
             have:=Nat.le_mul_of_pos_right N h0
             simp only [maxLen];omega
           have hrun:=run_buildSlice (P:=P) w T e N vs.toArray (iO (dW N sz) (List.replicate N zv.cells.toList).flatten vs).toArray i zv hu hi hzv (by rw [hsz];omega) (by rw [hsz];omega) (by rw [hmade,hsz];exact hf)
           simp only [execOp,hmm,Sem.run_bind,hrun,Result.andThen_ok,Sem.run_pure]
         cases h1
       cases h1
     cases hv'
   · have hv':(bif Nat.beq N 0 && Nat.ble (Nat.succ nx) Fit then (match parts with
      | []=>(match slQ P T with | some (e,sz)=>Ro.val (.sl nx 0 0 sz (some 0)) (h.set (some (.cells (ofR .nil) e false nx)) Fit nx) (Nat.succ nx) | none=>.bad)
      | _=>.bad) else .bad)=.val c h' nx':=hv
     rcases aE hv' with ⟨hb,h1⟩ | ⟨_,h1⟩
     · rw [Bool.and_eq_true] at hb
       have hN:=Nat.eq_of_beq_eq_true hb.1
       subst hN
       cases parts with
       | cons q qs=>cases h1
       | nil =>
         simp only at h1
         split at h1
         · rename_i e sz hT
           cases h1
           have hT':=eW hT
           refine ⟨_,0,.cells #[] e (0,0),fun p=>.slice (some ⟨p,0,none⟩) 0 0,rfl,rfl,bA hb.2,rfl,fK (vs:=[]) KL.nil e,fun ρ' p hρ=>⟨Nat.lt_succ_self nx,?_⟩,fun w d ty pos after g=>?_⟩
           · refine eL.2 ⟨by rw [hρ],by rw [hρ];omega,Nat.le_refl _,by simp [maxLen]⟩
           simp [execOp,Instr.buildSlice,run_underlying hT'.1,run_sizeOf w hT'.2,Instr.fill,newRow,show Array.range 0=#[] from Array.eq_empty_of_size_eq_zero (by simp)]
         cases h1
     · cases h1
 | makeMap T o =>
   cases o with
   | some x=>cases hx
   | none =>
     rcases hv with hv | hv
     · cases hv
     · have hrun:∀ (w:World) (d:Option Tmp) (ty:TypeId) (pos:String) (after:Array Edge) (g:Option (Nat×Bool)),(execOp a.eval ⟨d,.makeMap T none,ty,pos,after,g⟩).run P w=.ok (.value (.map (some w.heap.size))) (w.alloc (cE ([]:List (Int×Int)))):=fun w d ty pos after g=>by
        simp only [execOp,Option.map_none,Sem.run_bind,kM,Result.andThen_ok,Sem.run_pure];rfl
       have hk:∀ (ρ':Pl) (p:Nat),ρ' nx=(p,0)→Kn (nx+1) ρ' (.mp nx) (.map (some p)):=fun ρ' p hρ=>⟨Nat.lt_succ_self nx,by rw [DV.mp,hρ]⟩
       unfold mv mv0 at hv
       rcases aE hv with ⟨hf,h1⟩ | ⟨_,h1⟩
       · rcases aE h1 with ⟨_,h2⟩ | ⟨_,h2⟩
         · cases h2
           exact ⟨_,0,_,fun p=>.map (some p),rfl,rfl,bA hf,rfl,rfl,hk,hrun⟩
         rcases aE h2 with ⟨_,h3⟩ | ⟨_,h3⟩
         · cases h3
           exact ⟨_,0,_,fun p=>.map (some p),rfl,rfl,bA hf,rfl,rfl,hk,hrun⟩
         cases h3
       · cases h1
 | _=>cases hx
end
inductive Cmd where
 | code (c:Code) (n:Nat) (E:Tr CV) (h:Tr CB) (nx:Nat)
 | loop (c:Code) (n:Nat) (E:Tr CV) (h:Tr CB) (nx:Nat)
 | ops (all l:List Oper) (n:Nat) (E:Tr CV) (h:Tr CB) (nx:Nat)
 | one (o:Oper) (n:Nat) (E:Tr CV) (h:Tr CB) (nx:Nat)
 | call (f:Nat) (args:CV) (h:Tr CB) (nx:Nat)
 | round (t:Nat) (args:CV) (h:Tr CB) (nx:Nat)
 | reg (l:List Oper) (plan:List (Nat×Pk)) (pend:List (Nat×Nat×Nat)) (n:Nat) (E:Tr CV) (h:Tr CB) (nx:Nat)
inductive Res where
 | bad (why:Nat) (at_:List Oper)
 | ok (x:Exit) (E:Tr CV) (h:Tr CB) (nx:Nat)
 | ret (v:CV) (h:Tr CB) (nx:Nat)
def fnQ (P:Program) (f:Nat):Option Func:=match nth P.funcs.toList f with
 | some fn => bif fn.name == "runtime.NumGoroutine" then none else some fn
 | none=>none
theorem aSR {P : Program} {f : Nat} {fn : Func} (h : fnQ P f = some fn) : P.funcs[f]? = some fn ∧ (fn.name == "runtime.NumGoroutine") = false := by
 unfold fnQ at h
 split at h
 · rename_i g hg
   rcases aE h with ⟨_,h⟩ | ⟨h1,h⟩
   · cases h
   cases h
   rw [gV,Array.getElem?_toList] at hg
   exact ⟨hg,h1⟩
 cases h
def aCS (l:CV):Nat→Tr CV→Tr CV:=lrec (fun _ E=>E) (fun a _ ih i E=>ih (Nat.succ i) (E.set (some a) Fit i)) l
def resC (P:Program) (E:Tr CV) (h:Tr CB):ResultVar→Option CV
 | .tmp t=>E.get t
 | .cell t T=>qv P E h (.load T (.tmp t))
def resL (P:Program) (E:Tr CV) (h:Tr CB) (l:List ResultVar):Option CV:=List.rec (some .nil) (fun x _ ih=>match resC P E h x with | some a=>(match ih with | some b=>some (.cons a b) | none=>none) | none=>none) l
def aCT (P:Program) (E:Tr CV) (h:Tr CB) (l:List ResultVar):Option CV:=match resL P E h l with
 | some (.cons a .nil)=>some a
 | some x=>some (.tup x)
 | none=>none
def hZ (E:Tr CV) (n:Nat) (d:Option Nat) (v:CV):Option (Tr CV):=match d with
 | some d=>bif Nat.ble (Nat.succ d) n then some (E.set (some v) Fit d) else none
 | none=>some E
def eqB (a b:Bool):Bool:=bif a then b else not b
def sP (ih:Cmd→Res) (E:Tr CV) (n:Nat) (h:Tr CB) (nx:Nat) (dst:Option Nat):Op→Res
 | .call ⟨.value f,⟨args⟩,_⟩=>match evo E f with
   | some (.fn g fst cap)=>match aJD E args with
     | some l=>(match ih (.call g (kS fst (kS l cap)) h nx) with
       | .ret v h nx=>(match hZ E n dst v with | some E=>.ok .normal E h nx | none=>.bad 11 [])
       | .ok _ _ _ _=>.bad 12 []
       | r=>r)
     | none=>.bad 13 []
   | some (.yl t)=>match aJD E args with
     | some l=>(match ih (.round t l h nx) with
       | .ret v h nx=>(match hZ E n dst v with | some E=>.ok .normal E h nx | none=>.bad 51 [])
       | .ok _ _ _ _=>.bad 52 []
       | r=>r)
     | none=>.bad 53 []
   | _=>.bad 14 []
 | op => .bad 15 [⟨none, op, 0, "", #[], none⟩]
def gdQ (l:List Oper) (E:Tr CV) (o:Oper):Option Bool:=match o.guard with
 | none=>some true
 | some (j,want)=>match kF l j with
   | some t=>match E.get t with
     | some (.bool b)=>some (eqB b want)
     | some (.tup .nil)=>some false
     | _=>none
   | none=>none
def bD (o:Oper) (pend:List (Nat×Nat×Nat)):List (Nat×Nat×Nat):=List.rec [] (fun x _ ih=>bif not (mB o.op) && vT o x.2.1 then ih else x :: ih) pend
def gQ (h:Tr CB) (pend:List (Nat×Nat×Nat)):Bool:=qP (fun x=>match h.get x.1 with | some b=>Nat.ble (Nat.succ (stB b)) x.2.2 | none=>false) pend
def noR (c:Code):Bool:=
 Code.rec (motive:=fun _=>Bool) true (fun _ _ _=>true) (fun _ _ a b=>a && b) (fun _ _ _ a b=>a && b) (fun _ _ a=>a) (fun _ a=>a) (fun _ _ _ _ _ _=>false) (fun _=>true) (fun _ a=>a) (fun _=>true) (fun _=>true) true (fun _=>true) c
def psE (n:Nat) (ps:List Nat):CV→Tr CV→Option (Tr CV):=List.rec (fun l E=>match l with | .nil=>some E | _=>none)
 (fun p _ ih l E=>match l with | .cons a b=>bif Nat.ble (Nat.succ p) n then ih b (E.set (some a) Fit p) else none | _=>none) ps
def aJO:Exit→Option (Option Code)
 | .normal=>some none
 | .ret=>some (some .ret)
 | .exit id=>some (some (.exit id))
 | _=>none
def aCU:LoopState→Bool | .ready=>true | _=>false
def aAC:LoopState→Bool | .busy=>true | _=>false
abbrev cW:=List (Nat×(CV→Option CV))
def prQ (pr:cW) (f:Nat):Option (CV→Option CV):=List.rec none (fun x _ ih=>bif Nat.beq x.1 f then some x.2 else ih) pr
def stC4 (P:Program) (ih:Cmd→Res) (n:Nat) (E:Tr CV) (h:Tr CB) (nx:Nat) (a:Code) (b:Code):Res:=match ih (.code a n E h nx) with
 | .ok x E h nx=>(match x with
   | .normal=>ih (.code b n E h nx)
   | x=>.ok x E h nx)
 | r=>r
def stC5 (P:Program) (ih:Cmd→Res) (n:Nat) (E:Tr CV) (h:Tr CB) (nx:Nat) (c:Operand) (a:Code) (b:Code):Res:=match evo E c with
 | some (.bool t)=>ih (.code (bif t then a else b) n E h nx)
 | _=>.bad 1 []
def stC6 (P:Program) (ih:Cmd→Res) (n:Nat) (E:Tr CV) (h:Tr CB) (nx:Nat) (id:Nat) (c:Code):Res:=match ih (.code c n E h nx) with
 | .ok x E h nx=>(match x with
   | .exit id'=>bif Nat.beq id' id then .ok .normal E h nx else .ok (.exit id') E h nx
   | x=>.ok x E h nx)
 | r=>r
def stC7 (P:Program) (ih:Cmd→Res) (n:Nat) (E:Tr CV) (h:Tr CB) (nx:Nat) (c:Code):Res:=match ih (.code c n E h nx) with
 | .ok x E h nx=>(match x with
   | .normal=>.ok .normal E h nx
   | .ret=>.ok .ret E h nx
   | .exit id=>.ok (.exit id) E h nx
   | _=>.bad 22 [])
 | r=>r
def stC8 (P:Program) (ih:Cmd→Res) (n:Nat) (E:Tr CV) (h:Tr CB) (nx:Nat) (g:Operand) (ps:List Nat) (asg:Code) (body:Code):Res:=match evo E g with
 | some (.fn f .nil cap)=>bif Nat.ble (Nat.succ nx) Fit then
   (match ih (.call f (.cons (.yl nx) cap) (h.set (some (.lp E n ps asg body .ready none nx)) Fit nx) (Nat.succ nx)) with
   | .ret _ h' nx'=>(match h'.get nx with
     | some (.lp _ _ _ _ _ st p _)=>bif aAC st || not (Nat.ble (Nat.succ nx') Fit) then .bad 41 [] else
       (match p with
       | none=>.ok .normal E (h'.set none Fit nx) (Nat.succ nx')
       | some c=>ih (.code c n E (h'.set none Fit nx) (Nat.succ nx')))
     | _=>.bad 42 [])
   | .ok _ _ _ _=>.bad 43 []
   | r=>r) else .bad 44 []
 | _=>.bad 45 []
def aOI (P:Program) (ih:Cmd→Res) (n:Nat) (E:Tr CV) (h:Tr CB) (nx:Nat) (l:List Oper):Res:=bif P.follows .mixedOrders then (match vZ l with
 | some p=>ih (.reg l p [] n E h nx)
 | none=>.bad 23 l) else .bad 24 []
def stC11 (P:Program) (ih:Cmd→Res) (n:Nat) (E:Tr CV) (h:Tr CB) (nx:Nat) (l:List Oper):Res:=bif l.all bZ then ih (.ops l l n E h nx) else .bad 2 []
def stC (P:Program) (ih:Cmd→Res) (n:Nat) (E:Tr CV) (h:Tr CB) (nx:Nat):Code→Res
 | .skip=>.ok .normal E h nx
 | .label _=>.ok .normal E h nx
 | .exit id=>.ok (.exit id) E h nx
 | .ret=>.ok .ret E h nx
 | .seq a b=>stC4 P ih n E h nx a b
 | .cond c a b=>stC5 P ih n E h nx c a b
 | .block id c=>stC6 P ih n E h nx id c
 | .scope c=>stC7 P ih n E h nx c
 | .rangeFunc g ⟨ps⟩ asg body=>stC8 P ih n E h nx g ps asg body
 | .loop c=>ih (.loop c n E h nx)
 | .region _ ⟨l⟩ true=>aOI P ih n E h nx l
 | .region _ ⟨l⟩ false=>stC11 P ih n E h nx l
 | _=>.bad 3 []
def stG (ih:Cmd→Res) (all:List Oper) (o:Oper) (rest:List Oper) (n:Nat) (E:Tr CV) (h:Tr CB) (nx:Nat) (j:Nat) (want:Bool):Res:=
 (match kF all j with
  | some t=>(match E.get t with
    | some (.bool b)=>bif eqB b want then
     (match ih (.one o n E h nx) with
     | .ok x E h nx=>ih (.ops all rest n E h nx)
     | r=>r)
      else (match hZ E n o.dst (.tup .nil) with | some E=>ih (.ops all rest n E h nx) | none=>.bad 4 [])
    | some (.tup .nil)=>(match hZ E n o.dst (.tup .nil) with | some E=>ih (.ops all rest n E h nx) | none=>.bad 4 [])
    | _=>.bad 5 [])
  | none=>.bad 6 [])
def aCV (P:Program) (pr:cW) (ih:Cmd→Res) (c:Code) (n:Nat) (E:Tr CV) (h:Tr CB) (nx:Nat):Res:=match ih (.code c n E h nx) with
 | .ok x E h nx=>(match x with
   | .normal=>ih (.loop c n E h nx)
   | x=>.ok x E h nx)
 | r=>r
def aOJ (P:Program) (pr:cW) (ih:Cmd→Res) (all:List Oper) (l:List Oper) (n:Nat) (E:Tr CV) (h:Tr CB) (nx:Nat):Res:=match l with
 | []=>.ok .normal E h nx
 | o :: rest=>match o.guard with
   | none=>(match ih (.one o n E h nx) with
     | .ok x E h nx=>ih (.ops all rest n E h nx)
     | r=>r)
   | some (j,want)=>stG ih all o rest n E h nx j want
def qQ (P:Program) (pr:cW) (ih:Cmd→Res) (o:Oper) (n:Nat) (E:Tr CV) (h:Tr CB) (nx:Nat):Res:=match qv P E h o.op with
 | some c=>(match hZ E n o.dst c with | some E=>.ok .normal E h nx | none=>.bad 7 [])
 | none=>match wm P E h nx o.op with
   | .val c h nx=>(match hZ E n o.dst c with | some E=>.ok .normal E h nx | none=>.bad 8 [])
   | .unit h nx=>(match o.dst with | none=>.ok .normal E h nx | some _=>.bad 10 [])
   | .bad=>sP ih E n h nx o.dst o.op
def bU (l:List Oper) (R:List Nat) (E:Tr CV):Tr CV:=List.rec E (fun j _ ih=>match kF l j with | some d=>ih.set none Fit d | none=>ih) R
def iQ (P:Program) (l:List Oper) (R:List Nat) (n:Nat) (E:Tr CV) (h:Tr CB) (nx:Nat):Bool:=
 qP (fun j=>vV l j fun o=>(match o.dst with | some d=>Nat.ble (Nat.succ d) n | none=>false) && (match wm P E h nx o.op with | .val _ _ _=>true | _=>false)) R
def qR (P:Program) (pr:cW) (ih:Cmd→Res) (l:List Oper) (plan:List (Nat×Pk)) (pend:List (Nat×Nat×Nat)) (n:Nat) (E:Tr CV) (h:Tr CB) (nx:Nat):Res:=match plan with
 | []=>.ok .normal E h nx
 | (i,.look) :: plan=>match nth l i with
   | some o=>(match gdQ l E o with
     | some g=>(bif g then (match qv P E h o.op with
      | some c=>(match hZ E n o.dst c with
        | some E'=>ih (.reg l plan (match rdT E o.op with | some t=>(t,i,nx) :: pend | none=>pend) n E' h nx)
        | none=>.bad 25 [o])
      | none=>.bad 26 [o])
      else (match hZ E n o.dst (.tup .nil) with | some E=>ih (.reg l plan pend n E h nx) | none=>.bad 27 [o]))
     | none=>.bad 30 [o])
   | none=>.bad 31 []
 | (i,.only) :: plan=>match nth l i with
   | some o=>(match gdQ l E o with
     | some g=>(bif g then (match ih (.one o n E h nx) with
      | .ok _ E h nx=>bif gQ h (bD o pend) then ih (.reg l plan (bD o pend) n E h nx) else .bad 28 [o]
      | r=>r)
      else (match hZ E n o.dst (.tup .nil) with | some E=>ih (.reg l plan (bD o pend) n E h nx) | none=>.bad 29 [o]))
     | none=>.bad 30 [o])
   | none=>.bad 31 []
 | (i,.race R) :: plan=>match nth l i with
   | some o=>bif iQ P l R n (bU l R E) h nx then (match ih (.one o n (bU l R E) h nx) with
    | .ok _ E h nx=>bif gQ h (bD o pend) then ih (.reg l plan (bD o pend) n E h nx) else .bad 28 [o]
    | r=>r) else .bad 32 [o]
   | none=>.bad 31 []
 | (i,.make R) :: plan=>match nth l i with
   | some o=>bif iQ P l R n (bU l R E) h nx then (match wm P (bU l R E) h nx o.op with
    | .val c h nx=>(match hZ (bU l R E) n o.dst c with | some E=>ih (.reg l plan (bD o pend) n E h nx) | none=>.bad 33 [o])
    | _=>.bad 34 [o]) else .bad 35 [o]
   | none=>.bad 31 []
def step5 (P:Program) (pr:cW) (ih:Cmd→Res) (t:Nat) (args:CV) (h:Tr CB) (nx:Nat):Res:=match h.get t with
 | some (.lp E n ps asg body st _ _)=>bif aCU st && (noR asg && (noR body && Nat.ble n 100000)) then
   (match psE n ps args E with
   | some E1=>match ih (.code asg n E1 h nx) with
     | .ok .normal E2 h2 nx2=>(match h2.get t with
       | some (.lp E0 n0 ps0 as0 body0 st0 p0 _)=>bif aCU st0 && Nat.ble (Nat.succ nx2) Fit then
         (match ih (.code body n E2 (h2.set (some (.lp E0 n0 ps0 as0 body0 .busy p0 nx2)) Fit t) (Nat.succ nx2)) with
         | .ok x _ h3 nx3=>(match h3.get t with
           | some (.lp E4 n4 ps4 as4 body4 _ _ _)=>bif Nat.ble (Nat.succ nx3) Fit then
             (match aJO x with
             | some none=>.ret (.bool true) (h3.set (some (.lp E4 n4 ps4 as4 body4 .ready none nx3)) Fit t) (Nat.succ nx3)
             | some (some c)=>.ret (.bool false) (h3.set (some (.lp E4 n4 ps4 as4 body4 .done (some c) nx3)) Fit t) (Nat.succ nx3)
             | none=>.bad 46 []) else .bad 47 []
           | _=>.bad 48 [])
         | .ret _ _ _=>.bad 49 []
         | r=>r) else .bad 50 []
       | _=>.bad 54 [])
     | .ok _ _ _ _=>.bad 55 []
     | .ret _ _ _=>.bad 56 []
     | r=>r
   | none=>.bad 57 []) else .bad 58 []
 | _=>.bad 59 []
def step6 (P:Program) (pr:cW) (ih:Cmd→Res) (f:Nat) (args:CV) (h:Tr CB) (nx:Nat):Res:=match prQ pr f with
 | some g=>(match g args with | some v=>.ret v h nx | none=>.bad 60 [])
 | none=>match fnQ P f with
 | some fn=>(match fn.body with
   | some c=>bif Nat.ble (cC args) fn.ntmps && Nat.ble fn.ntmps 100000 then (match ih (.code c fn.ntmps (aCS args 0 .e) h nx) with
     | .ok x E h nx=>(match x with
       | .normal=>(match aCT P E h fn.results.toList with | some v=>.ret v h nx | none=>.bad 16 [])
       | .ret=>(match aCT P E h fn.results.toList with | some v=>.ret v h nx | none=>.bad 16 [])
       | _=>.bad 17 [])
     | .ret _ _ _=>.bad 18 []
     | r=>r) else .bad 19 []
   | none=>.bad 20 [])
 | none=>.bad 21 []
def step (P:Program) (pr:cW) (ih:Cmd→Res):Cmd→Res
 | .code c n E h nx=>stC P ih n E h nx c
 | .loop c n E h nx=>aCV P pr ih c n E h nx
 | .ops all l n E h nx=>aOJ P pr ih all l n E h nx
 | .one o n E h nx=>qQ P pr ih o n E h nx
 | .reg l plan pend n E h nx=>qR P pr ih l plan pend n E h nx
 | .round t args h nx=>step5 P pr ih t args h nx
 | .call f args h nx=>step6 P pr ih f args h nx
def run (P:Program) (pr:cW) (fuel:Nat):Cmd→Res:=Nat.rec (fun _=>.bad 0 []) (fun _ ih=>step P pr ih) fuel
structure Nx (ρ:Pl) (h:Tr CB) (nx:Nat) (w:World) (ρ':Pl) (h':Tr CB) (nx':Nat) (w':World):Prop where
 le:nx≤nx'
 fit:nx'≤Fit
 ext:Ext nx ρ ρ'
 old:Old ρ h nx w ρ' h' w'
theorem Nx.refl {ρ:Pl} {h:Tr CB} {nx:Nat} {w:World} (hf:nx≤Fit):Nx ρ h nx w ρ h nx w:=⟨Nat.le_refl _,hf,Ext.refl _ _,OldX.refl⟩
theorem Nx.trans {Φ:Imm→Prop} {w0:Bas Φ} {ρ ρ' ρ2:Pl} {h h' h2:Tr CB} {nx nx' nx2:Nat} {w w' w2:World} (hm:Mem ρ w0 h nx w) (a:Nx ρ h nx w ρ' h' nx' w') (b:Nx ρ' h' nx' w' ρ2 h2 nx2 w2):Nx ρ h nx w ρ2 h2 nx2 w2:=
 ⟨Nat.le_trans a.le b.le,b.fit,a.ext.trans b.ext a.le,a.old.trans hm b.old a.le a.ext⟩
def aJP (l:List Oper) (i j:Nat):Prop:=∃ o,l[j]?=some o∧mB o.op=false∧vT o i=true
def CP (l:List Oper) (cs:List (Nat×Nat×Obj)) (L:Array Bool) (w:World):Prop:=∀ x∈cs,(∀ j,aJP l x.1 j→L.getD j false=false)→w.heap[x.2.1]?=some x.2.2
def Down (l:List Oper) (L:Array Bool):Prop:=∀ j o,l[j]?=some o→L.getD j false=true→∀ e∈o.after,Region.binds .any e=true→L.getD e.on false=true
def PendOk (l:List Oper) (L:Array Bool) (ρ:Pl) (w:World) (nx:Nat) (pend:List (Nat×Nat×Nat)) (cs:List (Nat×Nat×Obj)):Prop:=
 ∀ x∈cs,(∃ j,aJP l x.1 j∧L.getD j false=true)∨∃ t bound,(t,x.1,bound)∈pend∧t<nx∧(ρ t).1=x.2.1∧bound≤nx∧w.heap[x.2.1]?=some x.2.2
theorem PendOk.cp {l:List Oper} {L:Array Bool} {ρ:Pl} {w:World} {nx:Nat} {pend:List (Nat×Nat×Nat)} {cs:List (Nat×Nat×Obj)} (h:PendOk l L ρ w nx pend cs):CP l cs L w:=fun x hx hw=>by
 rcases h x hx with ⟨j,h1,h2⟩ | ⟨t,b,_,_,_,_,h3⟩
 · rw [hw j h1] at h2;cases h2
 exact h3
structure Early where
 j:Nat
 p:Nat
 o:Obj
 V:Nat→Value
structure EOk (P:Program) (l:List Oper) (ρ:Pl) (h:Tr CB) (a:Act) (w ws:World) (e:Early):Prop where
 ex:∃ oj d,l[e.j]?=some oj∧vU oj=true∧oj.dst=some d∧a.tmps[d]?=some (e.V e.p)∧∀ w2,(execOp a.eval oj).run P w2=.ok (.value (e.V w2.heap.size)) (w2.alloc e.o)
 lt:e.p<w.heap.size
 at_:w.heap[e.p]?=some e.o
 ge:ws.heap.size≤e.p
 un:∀ t b,h.get t=some b→(ρ t).1≠e.p
structure LR (L:Array Bool) (S:List Early) (Lm:Array Bool):Prop where
 size:Lm.size=L.size
 iff:∀ j,Lm.getD j false=true↔(L.getD j false=true∨∃ e∈S,e.j=j)
 un:∀ e∈S,L.getD e.j true=false
structure RI {Φ:Imm→Prop} (P:Program) (l:List Oper) (n:Nat) (E:Tr CV) (h:Tr CB) (nx:Nat) (pend:List (Nat×Nat×Nat)) (ρ ρs:Pl) (w0:Bas Φ) (a:Act) (w ws:World) (hs:Tr CB) (nxs:Nat) (L Lm:Array Bool) (Rc:List Nat) (S:List Early) (cs:List (Nat×Nat×Obj)):Prop where
 rel:Rel ρ w0 n E h nx a w
 lr:LR L S Lm
 down:Down l Lm
 sub:∀ e∈S,e.j∈Rc
 ndj:(S.map (·.j)).Nodup
 ndp:(S.map (·.p)).Nodup
 eok:∀ e∈S,EOk P l ρ h a w ws e
 pend:PendOk l Lm ρ w nx pend cs
 ms:Mem ρs w0 hs nxs ws
 nxb:Nx ρs hs nxs ws ρ h nx w
def Kept (d:Option Nat) (a a':Act):Prop:=∀ i,d≠some i→a'.tmps[i]?=a.tmps[i]?
def aF (P:Program) (Φ:Imm→Prop):Cmd→Res→Prop
 | .code c n E h nx,.ok x E' h' nx'=>∀ (r:Option Nat) (ρ:Pl) (w0:Bas Φ) (a:Act) (w:World),Rel ρ w0 n E h nx a w→nx≤Fit→n≤100000→(r=none∨noR c=true)→
  ∀ Q:Exit→Act→World→Prop,(∀ ρ' a' w',Nx ρ h nx w ρ' h' nx' w'→Rel ρ' w0 n E' h' nx' a' w'→Q x a' w')→c.wpIn (FF r) 0 P Q a w
 | .loop c n E h nx,.ok x E' h' nx'=>∀ (r:Option Nat) (ρ:Pl) (w0:Bas Φ) (a:Act) (w:World),Rel ρ w0 n E h nx a w→nx≤Fit→n≤100000→(r=none∨noR c=true)→
  ∀ Q:Exit→Act→World→Prop,(∀ ρ' a' w',Nx ρ h nx w ρ' h' nx' w'→Rel ρ' w0 n E' h' nx' a' w'→Q x a' w')→aDP r P c Q a w
 | .ops all l n E h nx,.ok x E' h' nx'=>x=.normal∧∀ (ρ:Pl) (w0:Bas Φ) (a:Act) (w:World),Rel ρ w0 n E h nx a w→nx≤Fit→n≤100000→
  ∀ K:Act→World→Prop,(∀ ρ' a' w',Nx ρ h nx w ρ' h' nx' w'→Rel ρ' w0 n E' h' nx' a' w'→K a' w')→bK P all.toArray l a w K
 | .one o n E h nx,.ok x E' h' nx'=>x=.normal∧∀ (ρ:Pl) (w0:Bas Φ) (a:Act) (w:World),Rel ρ w0 n E h nx a w→nx≤Fit→n≤100000→
  ∀ K:Act→World→Prop,(∀ ρ' a' w',Nx ρ h nx w ρ' h' nx' w'→Rel ρ' w0 n E' h' nx' a' w'→Kept o.dst a a'→K a' w')→iR P o a w K
 | .call f args h nx,.ret v h' nx'=>dP P f∧∀ (ρ:Pl) (w0:Bas Φ) (w:World) (vs:List Value),Mem ρ w0 h nx w→KL nx ρ args vs→nx≤Fit→
  Calls P f vs.toArray w (fun e w'=>∃ u ρ',e=.returned u∧Nx ρ h nx w ρ' h' nx' w'∧Kn nx' ρ' v u∧Mem ρ' w0 h' nx' w')
 | .round t args h nx,.ret v h' nx'=>∀ (ρ:Pl) (w0:Bas Φ) (w:World) (vs:List Value),Mem ρ w0 h nx w→KL nx ρ args vs→nx≤Fit→
  ∃ f tmps assign body,(Instr.yield (ρ t).1 vs.toArray).run P w=.ok (.round (ρ t).1 f tmps assign body) w∧
   RoundIn Fence.wide 0 P (ρ t).1 f tmps assign body w (fun e w'=>∃ u ρ',e=.returned u∧Nx ρ h nx w ρ' h' nx' w'∧Kn nx' ρ' v u∧Mem ρ' w0 h' nx' w')
 | .reg l plan pend n E h nx,.ok x E' h' nx'=>x=.normal∧∀ (ρ ρs:Pl) (w0:Bas Φ) (a:Act) (w ws:World) (hs:Tr CB) (nxs:Nat) (L Lm:Array Bool) (Rc:List Nat) (S:List Early) (cs:List (Nat×Nat×Obj)) (f:Nat),RI P l n E h nx pend ρ ρs w0 a w ws hs nxs L Lm Rc S cs→nx≤Fit→n≤100000→
  Region.noSelect l.toArray=true→PlanOk l L Rc plan→plan.length=f+S.length→
  ∀ K:Act→World→Prop,(∀ ρ' a' w',Nx ρs hs nxs ws ρ' h' nx' w'→Rel ρ' w0 n E' h' nx' a' w'→K a' w')→gm P l.toArray K (CP l cs) f Lm a w
 | _,.bad _ _=>True
 | _,_=>False
section
variable {P:Program} {Φ:Imm→Prop} {pr:cW} {nx nx' n:Nat} {ρ ρ':Pl} {w0:Bas Φ} {w w':World} {E:Tr CV} {h h':Tr CB} {a:Act}
theorem Slots.up (hs:Slots ρ E nx n a) (hn:nx≤nx') (he:Ext nx ρ ρ'):Slots ρ' E nx' n a:=⟨hs.1,fun i x hx=>by
 obtain ⟨v,h1,h2⟩:=hs.2 i x hx
 exact ⟨v,h1,h2.up hn he⟩⟩
theorem eT (hs:Slots ρ E nx n a) {d:Option Nat} {c:CV} {v:Value} {E':Tr CV} (hn:n≤100000) (hp:hZ E n d c=some E') (hk:Kn nx ρ c v):Slots ρ E' nx n (a.put d v):=by
 cases d with
 | none=>cases hp;exact hs
 | some d =>
   have hp':(bif Nat.ble (Nat.succ d) n then some (E.set (some c) Fit d) else none)=some E':=hp
   rcases aE hp' with ⟨h1,h2⟩ | ⟨_,h2⟩
   · cases h2
     have hd:d<n:=Nat.le_of_ble_eq_true h1
     refine ⟨by show (a.tmps.setIfInBounds d v).size=n;simp [hs.1],fun i x hx=>?_⟩
     rw [bB (some c) Fit E d i (by rw [vO];omega)] at hx
     show ∃ u,(a.tmps.setIfInBounds d v)[i]?=some u∧_
     by_cases e:i=d
     · subst e
       rw [if_pos rfl] at hx
       cases hx
       exact ⟨v,by simp [hs.1,hd],hk⟩
     rw [if_neg e] at hx
     obtain ⟨u,h1,h2⟩:=hs.2 i x hx
     exact ⟨u,by rw [Array.getElem?_setIfInBounds_ne (Ne.symm e)];exact h1,h2⟩
   cases h2
theorem wC:Kn nx ρ (.tup .nil) undef:=⟨trivial,DV.tup.2 ⟨[],rfl,rfl⟩⟩
theorem jR (a:Act) (d:Option Nat) (v:Value):(a.put d v).defers=a.defers:=by cases d <;> rfl
theorem oW (hs:Slots ρ E nx n a) {all:List Oper} {j t:Nat} {b:Bool} (hd:kF all j=some t) (he:E.get t=some (.bool b)):yielded all.toArray a.tmps j=some b:=by
 obtain ⟨v,h1,h2⟩:=hs.2 t _ he
 rw [DV.bool.1 h2.2] at h1
 rw [lL] at hd
 unfold yielded
 have:(all.toArray[j]?).bind (·.dst)=some t:=by simpa using hd
 rw [this]
 simp [h1]
theorem wD (hs:Slots ρ E nx n a) {all:List Oper} {j t:Nat} (hd:kF all j=some t) (he:E.get t=some (.tup .nil)):yielded all.toArray a.tmps j=none:=by
 obtain ⟨v,h1,h2⟩:=hs.2 t _ he
 obtain ⟨vs,h3,h4⟩:=DV.tup.1 h2.2
 have:vs=[]:=h3
 subst this
 rw [h4] at h1
 rw [lL] at hd
 unfold yielded
 have:(all.toArray[j]?).bind (·.dst)=some t:=by simpa using hd
 rw [this]
 simp [h1]
theorem Mem.cong {h2:Tr CB} (hm:Mem ρ w0 h nx w) (e:∀ t,h2.get t=h.get t):Mem ρ w0 h2 nx w:=
 ⟨hm.upd,fun t b ht=>hm.own t b (by rw [←e];exact ht),fun t t' b b' h1 h2=>hm.one t t' b b' (by rw [←e];exact h1) (by rw [←e];exact h2),hm.imm,hm.nod,fun b hb=>⟨(hm.kept b hb).1,(hm.kept b hb).2.1,fun t c ht=>(hm.kept b hb).2.2 t c (by rw [←e];exact ht)⟩⟩
theorem OldX.cong {h2:Tr CB} (ho:Old ρ h nx w ρ' h' w') (e:∀ t,h2.get t=h'.get t):Old ρ h nx w ρ' h2 w':=⟨fun t b ht=>ho.old t b (by rw [←e];exact ht),ho.fr,fun t b ht=>ho.nw t b (by rw [←e];exact ht),ho.sz⟩
theorem Kept.put (a:Act) (d:Option Nat) (v:Value):Kept d a (a.put d v):=fun i hi=>by
 cases d with
 | none=>rfl
 | some d =>
   show (a.tmps.setIfInBounds d v)[i]?=_
   rw [Array.getElem?_setIfInBounds_ne (fun e=>hi (by rw [e]))]
theorem Kept.refl (d:Option Nat) (a:Act):Kept d a a:=fun _ _=>rfl
def pendQ (P:Program) (Q:Exit→Act→World→Prop) (p:Option Code) (a:Act) (w:World):Prop:=match p with
 | none=>Q .normal a w
 | some c=>c.wpIn (FF none) 0 P Q a w
theorem aOK {g:Operand} {f:Nat} {cap:CV} {ps:List Nat} {asg body:Code} {v:CV} {h':Tr CB} {nx':Nat} {E4:Tr CV} {n4:Nat} {ps4:List Nat} {as4 body4:Code} {st:LoopState} {p0:Option Code} {stm:Nat}
 (hg:evo E g=some (.fn f .nil cap)) (hfit:Nat.ble (Nat.succ nx) Fit=true) (H1:aF P Φ (.call f (.cons (.yl nx) cap) (h.set (some (.lp E n ps asg body .ready none nx)) Fit nx) (Nat.succ nx)) (.ret v h' nx'))
 (hlp:h'.get nx=some (.lp E4 n4 ps4 as4 body4 st p0 stm)) (hst:aAC st=false) (hfit':Nat.ble (Nat.succ nx') Fit=true)
 (ρ:Pl) (w0:Bas Φ) (a:Act) (w:World) (hR:Rel ρ w0 n E h nx a w) (hf:nx≤Fit) (hn:n≤100000) (Q:Exit→Act→World→Prop)
 (hQ:∀ ρ' a' w',Nx ρ h nx w ρ' (h'.set none Fit nx) (Nat.succ nx') w'→Rel ρ' w0 n E (h'.set none Fit nx) (Nat.succ nx') a' w'→pendQ P Q p0 a' w') :
 (Code.rangeFunc g ⟨ps⟩ asg body).wpIn (FF none) 0 P Q a w:=by
 obtain ⟨os,hR⟩:=hR
 obtain ⟨isf,H1⟩:=H1
 have hf1:=bA hfit
 refine wpIn_rangeFunc fun fn _=>?_
 obtain ⟨q,hq⟩:∃ q:Loop,q={ state:=.ready,pending:=none,fn,tmps:=a.tmps,params:=ps.toArray,assign:=asg,body,defers:=w.heap.size }:=⟨_,rfl⟩
 obtain ⟨gv,e1,k1⟩:=aJ hR.slots hg
 obtain ⟨xs,ys,kx,ky,rfl⟩:=rU k1
 have hx0:xs=[]:=kx.2
 subst hx0
 obtain ⟨m1,o1⟩:=hR.mem.keep
 have hsz:(w.alloc (.deferred (some []))).heap.size=w.heap.size+1:=World.size_alloc ..
 obtain ⟨ρ1,x1,p1,m2,o2⟩:=m1.new (b:=.lp E n ps asg body .ready none nx) (o:=.loop q) (s:=0) (w':=(w.alloc (.deferred (some []))).alloc (.loop q)) hf1 rfl (dJ _ _) (dO _ _) (cG _ _)
  ⟨q,rfl,by rw [hq],by rw [hq],by rw [hq],by rw [hq],by rw [hq],by rw [hq];exact hR.slots.1,fun i x hx=>by rw [hq];exact hR.slots.2 i x hx⟩
 rw [hsz] at p1
 obtain ⟨fnn,hf1',hf2,hf3⟩:=isf
 refine ⟨w.heap.size+1,[mark w.heap.size],(w.alloc (.deferred (some []))).alloc (.loop q),{ target:=.fn (.func f) ys.toArray,args:=#[.func (.yield (w.heap.size+1)) #[] #[]] },(w.alloc (.deferred (some []))).alloc (.loop q),f,
  (.func (.yield (w.heap.size+1)) #[] #[] :: ys).toArray,(w.alloc (.deferred (some []))).alloc (.loop q),?_,?_,?_,?_,fun h=>by simp [FF] at h,?_⟩
 · have:=run_enterLoop_outer (P:=P) (w:=w) fn a.tmps ps.toArray asg body
   rw [hq];exact this
 · have hev:Act.eval a g=.func (.func f) #[] ys.toArray:=fT e1
   simp only [resolve,hev]
   simp [go_sem]
 · intro f' hf';trivial
 · simp [invoke,iS _ _ hf1' hf2 hf3]
 have hky:KL (nx+1) ρ1 cap ys:=ky.up (Nat.le_succ _) x1
 have hyl:Kn (nx+1) ρ1 (.yl nx) (.func (.yield (w.heap.size+1)) #[] #[]):=⟨Nat.lt_succ_self _,by show _=_;rw [p1]⟩
 have hC:=H1 ρ1 ⟨w0.w,w.heap.size :: (os++w0.ks),w0.G,w0.ok,w0.s⟩ _ (.func (.yield (w.heap.size+1)) #[] #[] :: ys) m2 (KL.cons hyl hky) hf1
 refine lC.2 (hC.mono fun ex w' ⟨u,ρ2,h1,h2,h3,h4⟩=>?_)
 subst h1
 have hb:=h4.own nx _ hlp
 have e3:ρ2 nx=ρ1 nx:=h2.ext nx (Nat.lt_succ_self _)
 rw [e3,p1] at hb
 obtain ⟨_,_,_,o,ho,hdb⟩:=hb
 obtain ⟨q4,rfl,g1,g2,g3,g4,g5,g6,g7⟩:=hdb
 have hend:(Instr.endLoop (w.heap.size+1)).run P w'=.ok q4.pending (w'.putObj (w.heap.size+1) (.loop { q4 with state:=.exhausted })):=run_endLoop ho (by rw [g1];intro hh;subst hh;cases hst)
 have hlt:=(Array.getElem?_eq_some_iff.1 ho).1
 have e4:(ρ2 nx).1=w.heap.size+1:=by rw [e3,p1]
 have hfit2:=bA hfit'
 obtain ⟨m3,o3⟩:=h4.write (b':=.lp E4 n4 ps4 as4 body4 .exhausted p0 nx') (o:=.loop { q4 with state:=.exhausted }) (w':=w'.putObj (w.heap.size+1) (.loop { q4 with state:=.exhausted })) (by omega) rfl hlp
  (by rw [e4];exact lK w' _ _) (by rw [e4];exact World.putObj_heap_same hlt) ⟨_,rfl,rfl,g2,g3,g4,g5,g6,fun i x hx=>g7 i x hx⟩
 have hnx:nx<nx':=h2.le
 obtain ⟨m4,o4⟩:=m3.kill hfit2 (t:=nx) (by omega)
 have hset:∀ t,(h'.set none Fit nx).get t=((h'.set (some (CB.lp E4 n4 ps4 as4 body4 .exhausted p0 nx')) Fit nx).set none Fit nx).get t:=fun t=>by
  rw [bB _ _ _ _ _ (by omega),bB _ _ _ _ _ (by omega),bB _ _ _ _ _ (by omega)]
  split <;> rfl
 have m4:=m4.cong hset
 have o4:=o4.cong hset
 have hnxx:Nx ρ h nx w ρ2 (h'.set none Fit nx) (Nat.succ nx') (w'.putObj (w.heap.size+1) (.loop { q4 with state:=.exhausted })):=by
  have a1:Nx ρ h nx w ρ h nx (w.alloc (.deferred (some []))):=⟨Nat.le_refl _,hf,Ext.refl _ _,o1⟩
  have a2:Nx ρ h nx (w.alloc (.deferred (some []))) ρ1 _ (nx+1) _:=⟨Nat.le_succ _,hf1,x1,o2⟩
  have a3:=(a1.trans hR.mem a2).trans hR.mem h2
  have a4:Nx ρ2 h' nx' w' ρ2 _ (nx'+1) _:=⟨Nat.le_succ _,hfit2,Ext.refl _ _,o3⟩
  have a5:=a3.trans hR.mem a4
  exact a5.trans hR.mem ⟨Nat.le_refl _,hfit2,Ext.refl _ _,o4⟩
 have hRel:Rel ρ2 w0 n E (h'.set none Fit nx) (Nat.succ nx') { a with defers:=[mark w.heap.size]++a.defers } (w'.putObj (w.heap.size+1) (.loop { q4 with state:=.exhausted })):=
  ⟨w.heap.size :: os,hR.slots.up hnxx.le hnxx.ext,by show [mark w.heap.size]++a.defers=_;rw [hR.defers];rfl,m4,fun b hb=>by
   rcases List.mem_cons.1 hb with rfl | hb
   · exact hR.ss
   exact hR.mks b hb,Nat.le_trans hR.ss hnxx.old.sz⟩
 have H:=hQ _ _ _ hnxx hRel
 rw [←g2] at H
 exact ⟨q4.pending,_,hend,H⟩
theorem iA {ih:Cmd→Res} (H:∀ c,aF P Φ c (ih c)) (c:Code) (n:Nat) (E:Tr CV) (h:Tr CB) (nx:Nat):aF P Φ (.code c n E h nx) (step P pr ih (.code c n E h nx)):=by
 have quiet:∀ (x:Exit) (c:Code),(∀ (r:Option Nat) (a:Act) (w:World) (Q:Exit→Act→World→Prop),Q x a w→c.wpIn (FF r) 0 P Q a w)→aF P Φ (.code c n E h nx) (.ok x E h nx):=fun x c hc r ρ w0 a w hR hf hn hrr =>
  fun Q hQ=>hc r a w Q (hQ ρ a w (Nx.refl hf) hR)
 cases c with
 | skip=>exact quiet .normal _ fun r a w Q hq=>wpIn_skip hq
 | label l=>exact quiet .normal _ fun r a w Q hq=>wpIn_label hq
 | exit id=>exact quiet (.exit id) _ fun r a w Q hq=>wpIn_exit hq
 | ret=>exact quiet .ret _ fun r a w Q hq=>wpIn_ret hq
 | goto l=>trivial
 | refuse s=>trivial
 | rangeFunc g ps asg body =>
   obtain ⟨ps⟩:=ps
   show aF P Φ _ (match evo E g with
    | some (.fn f .nil cap)=>bif Nat.ble (Nat.succ nx) Fit then
      (match ih (.call f (.cons (.yl nx) cap) (h.set (some (.lp E n ps asg body .ready none nx)) Fit nx) (Nat.succ nx)) with
      | .ret _ h' nx'=>(match h'.get nx with
        | some (.lp _ _ _ _ _ st p _)=>bif aAC st || not (Nat.ble (Nat.succ nx') Fit) then .bad 41 [] else
          (match p with
          | none=>.ok .normal E (h'.set none Fit nx) (Nat.succ nx')
          | some c=>ih (.code c n E (h'.set none Fit nx) (Nat.succ nx')))
        | _=>.bad 42 [])
      | .ok _ _ _ _=>.bad 43 []
      | r=>r) else .bad 44 []
    | _=>.bad 45 [])
   split
   · rename_i f cap hg
     refine aU (aF P Φ _) (fun hfit=>?_) fun _=>trivial
     have H1:=H (.call f (.cons (.yl nx) cap) (h.set (some (.lp E n ps asg body .ready none nx)) Fit nx) (Nat.succ nx))
     generalize ih (.call f (.cons (.yl nx) cap) (h.set (some (.lp E n ps asg body .ready none nx)) Fit nx) (Nat.succ nx))=q at H1
     cases q with
     | bad=>trivial
     | ok _ _ _ _=>trivial
     | ret v h' nx' =>
       show aF P Φ _ (match h'.get nx with
        | some (.lp _ _ _ _ _ st p _)=>bif aAC st || not (Nat.ble (Nat.succ nx') Fit) then .bad 41 [] else
          (match p with
          | none=>.ok .normal E (h'.set none Fit nx) (Nat.succ nx')
          | some c=>ih (.code c n E (h'.set none Fit nx) (Nat.succ nx')))
        | _=>.bad 42 [])
       split
       · rename_i E4 n4 ps4 as4 body4 st p stm hlp
         refine aU (aF P Φ _) (fun _=>trivial) fun hbz=>?_
         rw [Bool.or_eq_false_iff,Bool.not_eq_false'] at hbz
         have hgo:=aOK (P:=P) (Φ:=Φ) (ps:=ps) (asg:=asg) (body:=body) hg hfit H1 hlp hbz.1 hbz.2
         cases p with
         | none =>
           intro r ρ w0 a w hR hf hn hrr Q hQ
           have hr0:r=none:=hrr.elim id (fun q=>by cases (show (false:Bool)=true from q))
           subst hr0
           exact hgo ρ w0 a w hR hf hn Q fun ρ' a' w' e1 e2=>hQ ρ' a' w' e1 e2
         | some c =>
           show aF P Φ _ (ih (.code c n E (h'.set none Fit nx) (Nat.succ nx')))
           have H2:=H (.code c n E (h'.set none Fit nx) (Nat.succ nx'))
           generalize ih (.code c n E (h'.set none Fit nx) (Nat.succ nx'))=q2 at H2
           cases q2 with
           | bad=>trivial
           | ret _ _ _=>exact H2.elim
           | ok x2 E2 h2 nx2 =>
             intro r ρ w0 a w hR hf hn hrr Q hQ
             have hr0:r=none:=hrr.elim id (fun q=>by cases (show (false:Bool)=true from q))
             subst hr0
             exact hgo ρ w0 a w hR hf hn Q fun ρ' a' w' e1 e2=>H2 none ρ' w0 a' w' e2 e1.fit hn (.inl rfl) Q fun ρ2 a2 w2 f1 f2=>hQ ρ2 a2 w2 (e1.trans hR.mem f1) f2
       trivial
   · trivial
 | region id ops draw =>
   obtain ⟨l⟩:=ops
   cases draw with
   | true =>
     show aF P Φ _ (bif P.follows .mixedOrders then (match vZ l with
      | some p=>ih (.reg l p [] n E h nx)
      | none=>.bad 23 l) else .bad 24 [])
     cases hmx:P.follows .mixedOrders with
     | false=>trivial
     | true =>
       simp only [cond_true]
       split
       · rename_i p hp
         have H1:=H (.reg l p [] n E h nx)
         generalize ih (.reg l p [] n E h nx)=q at H1
         cases q with
         | bad=>trivial
         | ret v h' nx'=>exact H1.elim
         | ok x E' h' nx' =>
           obtain ⟨rfl,H1⟩:=H1
           obtain ⟨hns,hnd,hpl,hlen⟩:=aOG hp
           intro r ρ w0 a w hR hf hn hrr Q hQ
           have hR':Rel ρ w0 n E h nx a w.drew:=by
            obtain ⟨os,hR⟩:=hR
            exact ⟨os,hR.slots,hR.defers,⟨hR.mem.upd.drew,hR.mem.own,hR.mem.one,hR.mem.imm,hR.mem.nod,hR.mem.kept⟩,hR.mks,hR.ss⟩
           have hg:=H1 ρ ρ w0 a w.drew w.drew h nx (Array.replicate l.length false) (Array.replicate l.length false) [] [] [] p.length ⟨hR',⟨rfl,fun j=>⟨.inl,fun h=>h.elim (fun q=>q) fun ⟨_,h,_⟩=>by cases h⟩,fun e he=>by cases he⟩,(fun j o hj hl=>by
            rw [(LM.start l).2,Nat.zero_testBit] at hl;cases hl),(fun e he=>by cases he),List.nodup_nil,List.nodup_nil,(fun e he=>by cases he),(fun x hx=>by cases hx),hR'.mem,Nx.refl hf⟩ hf hn hns hpl rfl (Q .normal) fun ρ' a' w' e1 e2=>hQ ρ' a' w' ⟨e1.le,e1.fit,e1.ext,⟨e1.old.old,e1.old.fr,e1.old.nw,e1.old.sz⟩⟩ e2
           rw [hlen] at hg
           have:=tX (r:=r) (n:=0) (by simpa using hnd) _ _ _ _ hg
           exact wpIn_region_any hmx (by simpa using this)
       · trivial
   | false =>
     show aF P Φ _ (bif l.all bZ then ih (.ops l l n E h nx) else .bad 2 [])
     cases hd:l.all bZ with
     | false=>trivial
     | true =>
       show aF P Φ _ (ih (.ops l l n E h nx))
       have H1:=H (.ops l l n E h nx)
       generalize ih (.ops l l n E h nx)=q at H1
       cases q with
       | bad=>trivial
       | ret v h' nx'=>exact H1.elim
       | ok x E' h' nx' =>
         obtain ⟨rfl,H1⟩:=H1
         intro r ρ w0 a w hR hf hn hrr Q hQ
         exact wpIn_region_lit (jU l a w hd (H1 ρ w0 a w hR hf hn _ hQ))
 | scope c =>
   show aF P Φ _ (match ih (.code c n E h nx) with
    | .ok x E h nx=>(match x with
      | .normal=>.ok .normal E h nx
      | .ret=>.ok .ret E h nx
      | .exit id=>.ok (.exit id) E h nx
      | _=>.bad 22 [])
    | r=>r)
   have H1:=H (.code c n E h nx)
   generalize ih (.code c n E h nx)=q at H1
   cases q with
   | bad=>trivial
   | ret v h' nx'=>exact H1.elim
   | ok x E' h' nx' =>
     have go:(∀ Q:Exit→Act→World→Prop,∀ a w,Q x a w→yT Q x a w)→aF P Φ (.code (.scope c) n E h nx) (.ok x E' h' nx'):=fun hx r ρ w0 a w hR hf hn hrr Q hQ =>
      uD (H1 r ρ w0 a w hR hf hn hrr _ fun ρ' a' w' e1 e2=>hx Q _ _ (hQ ρ' a' w' e1 e2))
     cases x with
     | normal=>exact go fun Q a w hq=>hq
     | ret=>exact go fun Q a w hq=>hq
     | exit id=>exact go fun Q a w hq=>hq
     | _=>trivial
 | loop c =>
   show aF P Φ _ (ih (.loop c n E h nx))
   have H1:=H (.loop c n E h nx)
   generalize ih (.loop c n E h nx)=q at H1
   cases q with
   | bad=>trivial
   | ret v h' nx'=>exact H1.elim
   | ok x E' h' nx' =>
     intro r ρ w0 a w hR hf hn hrr Q hQ b k cs hro hb' hr
     obtain ⟨e,a',w',hq,harr⟩:=H1 r ρ w0 a w hR hf hn hrr Q hQ b k cs hro hb' hr
     exact ⟨e,a',w',hq,.of_steps (.one (fenced_calm hb' hr rfl) stepR_loop) harr⟩
 | cond c x y =>
   show aF P Φ _ (match evo E c with
    | some (.bool t)=>ih (.code (bif t then x else y) n E h nx)
    | _=>.bad 1 [])
   split
   · rename_i t ht
     have H1:=H (.code (bif t then x else y) n E h nx)
     generalize ih (.code (bif t then x else y) n E h nx)=q at H1
     cases q with
     | bad=>trivial
     | ret v h' nx'=>exact H1.elim
     | ok x' E' h' nx' =>
       intro r ρ w0 a w hR hf hn hrr Q hQ
       obtain ⟨v,e1,g1⟩:=aJ hR.slots ht
       have e2:a.eval c=.bool t:=by rw [←DV.bool.1 g1.2];exact fT e1
       refine wpIn_cond e2 ?_
       have:=H1 r ρ w0 a w hR hf hn (hrr.imp id fun q=>by have q':(noR x && noR y)=true:=q;rw [Bool.and_eq_true] at q';cases t <;> first | exact q'.1 | exact q'.2) Q hQ
       cases t <;> exact this
   · trivial
 | seq x y =>
   show aF P Φ _ (match ih (.code x n E h nx) with
    | .ok x E h nx=>(match x with
      | .normal=>ih (.code y n E h nx)
      | x=>.ok x E h nx)
    | r=>r)
   have H1:=H (.code x n E h nx)
   generalize ih (.code x n E h nx)=q at H1
   cases q with
   | bad=>trivial
   | ret v h' nx'=>exact H1.elim
   | ok x' E' h' nx' =>
     have pass:x'≠.normal→aF P Φ (.code (.seq x y) n E h nx) (.ok x' E' h' nx'):=fun hx=>by
      intro r ρ w0 a w hR hf hn hrr Q hQ
      refine wpIn_seq (H1 r ρ w0 a w hR hf hn (hrr.imp id fun q=>(Bool.and_eq_true _ _▸(show (noR x && noR y)=true from q)).1) _ fun ρ' a' w' e1 e2=>?_)
      have:=hQ ρ' a' w' e1 e2
      cases x' <;> first | exact absurd rfl hx | exact this
     cases x' with
     | normal =>
       show aF P Φ _ (ih (.code y n E' h' nx'))
       have H2:=H (.code y n E' h' nx')
       generalize ih (.code y n E' h' nx')=q2 at H2
       cases q2 with
       | bad=>trivial
       | ret v h2 nx2=>exact H2.elim
       | ok x2 E2 h2 nx2 =>
         intro r ρ w0 a w hR hf hn hrr Q hQ
         refine wpIn_seq (H1 r ρ w0 a w hR hf hn (hrr.imp id fun q=>(Bool.and_eq_true _ _▸(show (noR x && noR y)=true from q)).1) _ fun ρ' a' w' e1 e2=>?_)
         exact H2 r ρ' w0 a' w' e2 e1.fit hn (hrr.imp id fun q=>(Bool.and_eq_true _ _▸(show (noR x && noR y)=true from q)).2) Q fun ρ2 a2 w2 f1 f2=>hQ ρ2 a2 w2 (e1.trans hR.mem f1) f2
     | _=>exact pass (by intro h;cases h)
 | block id c =>
   show aF P Φ _ (match ih (.code c n E h nx) with
    | .ok x E h nx=>(match x with
      | .exit id'=>bif Nat.beq id' id then .ok .normal E h nx else .ok (.exit id') E h nx
      | x=>.ok x E h nx)
    | r=>r)
   have H1:=H (.code c n E h nx)
   generalize ih (.code c n E h nx)=q at H1
   cases q with
   | bad=>trivial
   | ret v h' nx'=>exact H1.elim
   | ok x' E' h' nx' =>
     have go:∀ x2,(∀ (Q:Exit→Act→World→Prop) a w,Q x2 a w→Exit.inBlock id Q x' a w)→aF P Φ (.code (.block id c) n E h nx) (.ok x2 E' h' nx'):=fun x2 hx r ρ w0 a w hR hf hn hrr Q hQ =>
      wpIn_block (H1 r ρ w0 a w hR hf hn hrr _ fun ρ' a' w' e1 e2=>hx Q _ _ (hQ ρ' a' w' e1 e2))
     cases x' with
     | exit id' =>
       show aF P Φ _ (bif Nat.beq id' id then .ok .normal E' h' nx' else .ok (.exit id') E' h' nx')
       cases hb:Nat.beq id' id with
       | true =>
         have e:=Nat.eq_of_beq_eq_true hb
         exact go .normal fun Q a w hq=>by simp only [Exit.inBlock,e,if_true];exact hq
       | false =>
         have e:=aET hb
         exact go (.exit id') fun Q a w hq=>by simp only [Exit.inBlock,e,if_false];exact hq
     | normal=>exact go _ fun Q a w hq=>hq
     | ret=>exact go _ fun Q a w hq=>hq
     | goto l=>exact go _ fun Q a w hq=>hq
     | panic ch=>exact go _ fun Q a w hq=>hq
     | outgrown=>exact go _ fun Q a w hq=>hq
theorem qS {r:Option Nat} {c:Code} {Q:Exit→Act→World→Prop} {a:Act} {w:World} (h:c.wpIn (FF r) 0 P (Exit.then (aDP r P c Q) Q) a w):aDP r P c Q a w:=by
 intro b k cs hro hb' hr
 obtain ⟨x,a₁,w₁,hq,harr⟩:=h b (.inLoop c :: k) cs hro hb' hr
 cases x with
 | normal =>
   obtain ⟨e₂,a₂,w₂,hq₂,harr₂⟩:=hq b k cs hro hb' hr
   exact ⟨e₂,a₂,w₂,hq₂,.of_steps (StepsIn.trans harr (.one (fenced_calm hb' hr rfl) stepR_inLoop)) harr₂⟩
 | exit id=>exact ⟨_,a₁,w₁,hq,.pass (x:=.inLoop c) rfl (fun _ _=>.inl (by simp)) harr⟩
 | goto l=>exact ⟨_,a₁,w₁,hq,.pass (x:=.inLoop c) rfl (fun _ _=>.inl (by simp)) harr⟩
 | ret=>exact ⟨_,a₁,w₁,hq,.pass (x:=.inLoop c) rfl (fun _ _=>.inl (by simp)) harr⟩
 | panic ch=>exact ⟨_,a₁,w₁,hq,.pass (x:=.inLoop c) rfl (fun _ _=>.inl (by simp)) harr⟩
 | outgrown=>exact ⟨_,a₁,w₁,hq,.pass (x:=.inLoop c) rfl (fun _ _=>.inl (by simp)) harr⟩
theorem aEU {op:Op} {t:Nat} {c:CV} (hr:rdT E op=some t) (hq:qv P E h op=some c):∃ b,h.get t=some b:=by
 unfold rdT at hr
 split at hr
 · rename_i T x
   split at hr
   · rename_i t' o hx
     cases hr
     have hq':(match evo E x with
      | some (.ptr t o)=>match h.get t with
        | some (.cells l _ _ _)=>bif eC P T then aJB l o else
          (match agQ P T with
          | some k=>bif Nat.beq (cC (cU l o k)) k then some (.agg (cU l o k)) else none
          | none=>none)
        | _=>none
      | _=>none)=some c:=hq
     rw [hx] at hq'
     simp only at hq'
     split at hq'
     · rename_i hb;exact ⟨_,hb⟩
     cases hq'
   cases hr
 · rename_i T x i cc
   split at hr
   · rename_i t' hx
     cases hr
     have hq':qvL P E h T x i cc=some c:=hq
     unfold qvL at hq'
     rw [hx] at hq'
     simp only at hq'
     split at hq'
     · split at hq'
       · rename_i l st hb;exact ⟨_,hb⟩
       · rename_i l st hb;exact ⟨_,hb⟩
       cases hq'
     cases hq'
   cases hr
 cases hr
theorem step_loop {ih:Cmd→Res} (H:∀ c,aF P Φ c (ih c)) (c:Code) (n:Nat) (E:Tr CV) (h:Tr CB) (nx:Nat):aF P Φ (.loop c n E h nx) (step P pr ih (.loop c n E h nx)):=by
 show aF P Φ _ (match ih (.code c n E h nx) with
  | .ok x E h nx=>(match x with
    | .normal=>ih (.loop c n E h nx)
    | x=>.ok x E h nx)
  | r=>r)
 have H1:=H (.code c n E h nx)
 generalize ih (.code c n E h nx)=q at H1
 cases q with
 | bad=>trivial
 | ret v h' nx'=>exact H1.elim
 | ok x' E' h' nx' =>
   have pass:x'≠.normal→aF P Φ (.loop c n E h nx) (.ok x' E' h' nx'):=fun hx r ρ w0 a w hR hf hn hrr Q hQ=>by
    refine qS (H1 r ρ w0 a w hR hf hn hrr _ fun ρ' a' w' e1 e2=>?_)
    have:=hQ ρ' a' w' e1 e2
    cases x' <;> first | exact absurd rfl hx | exact this
   cases x' with
   | normal =>
     show aF P Φ _ (ih (.loop c n E' h' nx'))
     have H2:=H (.loop c n E' h' nx')
     generalize ih (.loop c n E' h' nx')=q2 at H2
     cases q2 with
     | bad=>trivial
     | ret v h2 nx2=>exact H2.elim
     | ok x2 E2 h2 nx2 =>
       intro r ρ w0 a w hR hf hn hrr Q hQ
       refine qS (H1 r ρ w0 a w hR hf hn hrr _ fun ρ' a' w' e1 e2=>?_)
       exact H2 r ρ' w0 a' w' e2 e1.fit hn hrr Q fun ρ2 a2 w2 f1 f2=>hQ ρ2 a2 w2 (e1.trans hR.mem f1) f2
   | _=>exact pass (by intro h;cases h)
theorem kX {ih:Cmd→Res} (H:∀ c,aF P Φ c (ih c)) (o:Oper) (n:Nat) (E:Tr CV) (h:Tr CB) (nx:Nat):aF P Φ (.one o n E h nx) (step P pr ih (.one o n E h nx)):=by
 obtain ⟨dst,op,ty,pos,after,g⟩:=o
 show aF P Φ _ (match qv P E h op with
  | some c=>(match hZ E n dst c with | some E=>.ok .normal E h nx | none=>.bad 7 [])
  | none=>match wm P E h nx op with
    | .val c h nx=>(match hZ E n dst c with | some E=>.ok .normal E h nx | none=>.bad 8 [])
    | .unit h nx=>(match dst with | none=>.ok .normal E h nx | some _=>.bad 10 [])
    | .bad=>sP ih E n h nx dst op)
 split
 · rename_i c hq
   split
   · rename_i E' hp
     refine ⟨rfl,fun ρ w0 a w hR hf hn K hK=>?_⟩
     obtain ⟨ob,hob⟩:∃ ob:Nat→Obj,∀ t b,h.get t=some b→w.heap[(ρ t).1]?=some (ob t)∧DB nx ρ (ρ t).2 b (ob t):=by
      refine ⟨fun t=>(w.heap[(ρ t).1]?).getD default,fun t b hb=>?_⟩
      obtain ⟨_,_,_,o,h1,h2⟩:=hR.mem.own t b hb
      exact ⟨by show _=some ((w.heap[(ρ t).1]?).getD default);rw [h1];rfl,by show DB _ _ _ _ ((w.heap[(ρ t).1]?).getD default);rw [h1];exact h2⟩
     obtain ⟨v,k1,k2⟩:=aGW (ob:=ob) hR.slots (fun t b _ hb=>(hob t b hb).2) hq
     have hr:(execOp a.eval ⟨dst,op,ty,pos,after,g⟩).run P w=.ok (.value v) w:=by
      refine k2 w (fun t ht=>?_) dst ty pos after g
      obtain ⟨b,hb⟩:=aEU ht hq
      exact (hob t b hb).1
     unfold iR
     rw [hr]
     exact hK ρ _ w (Nx.refl hf) (hR.put (eT hR.slots hn hp k1)) (Kept.put _ _ _)
   trivial
 have hw:∀ (ρ:Pl) (w0:Bas Φ) (a:Act) (w:World),Slots ρ E nx n a→Mem ρ w0 h nx w→nx≤Fit→Wd P op ρ w0 h nx a w (wm P E h nx op):=fun ρ w0 a w hR hm hf=>wm_ok hR hm hf
 revert hw
 generalize wm P E h nx op=q
 intro hw
 cases q with
 | val c h' nx' =>
   show aF P Φ _ (match hZ E n dst c with | some E=>.ok .normal E h' nx' | none=>.bad 8 [])
   split
   · rename_i E' hp
     refine ⟨rfl,fun ρ w0 a w hR hf hn K hK=>?_⟩
     obtain ⟨os,hR⟩:=hR
     obtain ⟨k1,v,w',ρ',e1,e2,e3,e4,e5,e6⟩:=hw ρ (w0.plus os) a w hR.slots hR.mem hf
     unfold iR
     rw [e6 dst ty pos after g]
     exact hK ρ' _ w' ⟨k1,e4,e1,e5⟩ ⟨os,eT (hR.slots.up k1 e1) hn hp e2,(jR _ _ _).trans hR.defers,e3,hR.mks,Nat.le_trans hR.ss e5.sz⟩ (Kept.put _ _ _)
   · trivial
 | unit h' nx' =>
   show aF P Φ _ (match dst with | none=>.ok .normal E h' nx' | some _=>.bad 10 [])
   cases dst with
   | some d=>trivial
   | none =>
     refine ⟨rfl,fun ρ w0 a w hR hf hn K hK=>?_⟩
     obtain ⟨os,hR⟩:=hR
     obtain ⟨k1,w',ρ',e1,e3,e4,e5,e6⟩:=hw ρ (w0.plus os) a w hR.slots hR.mem hf
     unfold iR
     rw [e6 ty pos after g]
     exact hK ρ' _ w' ⟨k1,e4,e1,e5⟩ ⟨os,hR.slots.up k1 e1,hR.defers,e3,hR.mks,Nat.le_trans hR.ss e5.sz⟩ (Kept.refl _ _)
 | bad =>
   show aF P Φ _ (sP ih E n h nx dst op)
   unfold sP
   split
   · rename_i f args ats _
     split
     · rename_i g' fst cap hfv
       split
       · rename_i l hl
         have H1:=H (.call g' (kS fst (kS l cap)) h nx)
         generalize ih (.call g' (kS fst (kS l cap)) h nx)=q at H1
         cases q with
         | bad=>trivial
         | ok _ _ _ _=>trivial
         | ret v h' nx' =>
           show aF P Φ _ (match hZ E n dst v with | some E=>.ok .normal E h' nx' | none=>.bad 11 [])
           split
           · rename_i E' hp
             obtain ⟨⟨fn,f1,f2,f3⟩,H1⟩:=H1
             refine ⟨rfl,fun ρ w0 a w hR hf hn K hK=>?_⟩
             obtain ⟨os,hR⟩:=hR
             obtain ⟨fv,e1,k1⟩:=aJ hR.slots hfv
             obtain ⟨xs,ys,k2,k3,rfl⟩:=rU k1
             obtain ⟨vs,e2,k4⟩:=tG hR.slots hl
             have hC:=H1 ρ (w0.plus os) w (xs++vs++ys) hR.mem (by rw [List.append_assoc];exact nO k2 (nO k4 k3)) hf
             have hrun:(execOp a.eval ⟨dst,.call ⟨.value f,⟨args⟩,ats⟩,ty,pos,after,g⟩).run P w=.ok (.enter g' (xs++vs++ys).toArray) w:=by
              have hargs:(args.map a.eval)=vs:=(lookN a w).evals e2
              simp [execOp,resolve,Deferred.ofValue,invoke,fT e1,hargs,iS w _ f1 f2 f3]
             unfold iR
             rw [hrun]
             refine hC.mono fun e w' ⟨u,ρ',q1,q2,q3,q4⟩=>⟨u,q1,?_⟩
             exact hK ρ' _ w' q2 ⟨os,eT (hR.slots.up q2.le q2.ext) hn hp q3,(jR _ _ _).trans hR.defers,q4,hR.mks,Nat.le_trans hR.ss q2.old.sz⟩ (Kept.put _ _ _)
           trivial
       trivial
     · rename_i t hfv
       split
       · rename_i l hl
         have H1:=H (.round t l h nx)
         generalize ih (.round t l h nx)=q at H1
         cases q with
         | bad=>trivial
         | ok _ _ _ _=>trivial
         | ret v h' nx' =>
           show aF P Φ _ (match hZ E n dst v with | some E=>.ok .normal E h' nx' | none=>.bad 51 [])
           split
           · rename_i E' hp
             refine ⟨rfl,fun ρ w0 a w hR hf hn K hK=>?_⟩
             obtain ⟨os,hR⟩:=hR
             obtain ⟨fv,e1,k1⟩:=aJ hR.slots hfv
             have e3:fv=.func (.yield (ρ t).1) #[] #[]:=k1.2
             subst e3
             obtain ⟨vs,e2,k4⟩:=tG hR.slots hl
             obtain ⟨f',tmps,assign,body,hy,hC⟩:=H1 ρ (w0.plus os) w vs hR.mem k4 hf
             have hrun:(execOp a.eval ⟨dst,.call ⟨.value f,⟨args⟩,ats⟩,ty,pos,after,g⟩).run P w=.ok (.round (ρ t).1 f' tmps assign body) w:=by
              have hargs:(args.map a.eval)=vs:=(lookN a w).evals e2
              simp [execOp,resolve,Deferred.ofValue,invoke,fT e1,hargs,hy]
             unfold iR
             rw [hrun]
             refine hC.mono fun e w' ⟨u,ρ',q1,q2,q3,q4⟩=>⟨u,q1,?_⟩
             exact hK ρ' _ w' q2 ⟨os,eT (hR.slots.up q2.le q2.ext) hn hp q3,(jR _ _ _).trans hR.defers,q4,hR.mks,Nat.le_trans hR.ss q2.old.sz⟩ (Kept.put _ _ _)
           trivial
       trivial
     trivial
   trivial
end
end Go.Sl.Ev
end
