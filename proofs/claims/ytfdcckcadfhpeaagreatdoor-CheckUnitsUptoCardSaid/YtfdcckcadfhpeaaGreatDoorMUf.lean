/- Parts of the proof (part 6): what the rows' text needs of the texts that lead to it. -/
import Derived.Test.YtfdcckcadfhpeaaGreatDoorMUe
set_option linter.unusedVariables false
set_option linter.unusedSimpArgs false
set_option linter.unusedSectionVars false
set_option maxRecDepth 100000
namespace Go.Proofs.YtfdcckcadfhpeaaGreatDoor
open Go Go.Sl
structure PtV where
 b:Nat
 o:Nat
instance:Inhabited PtV:=⟨⟨0,0⟩⟩
instance:Cells PtV:=⟨1,fun x=>[.pointer (some ⟨x.b,x.o,none⟩)],fun _=>rfl,fun _=>rfl⟩
set_option maxHeartbeats 4000000
theorem c12 (G:Imm) (k1 k2:Int) (pa:Option Addr) (pc:Nat) (pl:List R2) (x y z:PH) (xp yp zp:PV) (hp:Arr G pa pl) (hpl:pl.length≤1048576)
 (hx:PHof G xp x) (hy:PHof G yp y) (hz:PHof G zp z) (hx1:xp.code.length≤1048576) (hx2:xp.outs.length≤1048576) (hy1:yp.code.length≤1048576) (hy2:yp.outs.length≤1048576) (hz1:zp.code.length≤1048576) (hz2:zp.outs.length≤1048576) :
 Does Tryz.prog 12 [.agg #[.int .i64 k1,.int .i64 k2,.slice pa pl.length pc,.int .i64 x.ins,.int .i64 x.regs,.slice x.ac x.cn x.cc,.slice x.ao x.on x.oc,.int .i64 y.ins,.int .i64 y.regs,.slice y.ac y.cn y.cc,.slice y.ao y.on y.oc,.int .i64 z.ins,.int .i64 z.regs,.slice z.ac z.cn z.cc,.slice z.ao z.on z.oc]] G [] (fun v G' Ho=>∃ (s:Option Addr) (d:Nat) (u w q:PH),v=.agg #[.int .i64 k1,.int .i64 k2,.slice s pl.length d,.int .i64 u.ins,.int .i64 u.regs,.slice u.ac u.cn u.cc,.slice u.ao u.on u.oc,.int .i64 w.ins,.int .i64 w.regs,.slice w.ac w.cn w.cc,.slice w.ao w.on w.oc,.int .i64 q.ins,.int .i64 q.regs,.slice q.ac q.cn q.cc,.slice q.ao q.on q.oc]∧Arr G' s pl∧pl.length≤d∧PHof G' xp u∧PHof G' yp w∧PHof G' zp q∧Ho=[]):=by
 refine Does.enter Tryz.func12 rfl Tryz.ntmps12 rfl (fun w=>?_)
 refine Wc.gl 2 [] ?_
 refine Wl.box 0 rfl rfl rfl (fun b1=>?_)
 refine Wl.alloc 1 rfl T.zero28 (fun b2=>?_)
 refine Wl.gl 6 [0] ?_
 refine Wl.k 2 rfl (c33F _ _ _ _ (by assumption) (by omega)) (fun v1 G1 Ho1 hle1 hp=>?_)
 obtain ⟨s1,d1,rfl,hs1,hsd1,rfl⟩:=hp
 replace hp:=hp.up hle1
 refine Wl.gl 10 [0] ?_
 refine Wl.lit (α:=PtV) 2 [⟨_,_⟩,⟨_,_⟩,⟨_,_⟩] rfl T.sl86 T.el85 rfl rfl rfl rfl rfl (fun b3=>?_)
 refine Wl.gc 5 [] ?_
 refine Wc.loopG (ι:=Nat×Imm×PH×PH×PH) (fun (k,Gx,u,v,q)=>([(14,.int .i64 (k:Int)),(13,.int .i64 (↑(List.length [PtV.mk b1 (0+3),PtV.mk b1 (0+7),PtV.mk b1 (0+11)]):Int)),(12,.slice (some (Addr.mk b3 0 none)) (List.length [PtV.mk b1 (0+3),PtV.mk b1 (0+7),PtV.mk b1 (0+11)]) 3),(2,.pointer (some ⟨b2,0,none⟩)),(1,.pointer (some ⟨b1,0,none⟩))],[(0,some b1,.cells #[.int .i64 k1,.int .i64 k2,.slice s1 pl.length d1,.int .i64 u.ins,.int .i64 u.regs,.slice u.ac u.cn u.cc,.slice u.ao u.on u.oc,.int .i64 v.ins,.int .i64 v.regs,.slice v.ac v.cn v.cc,.slice v.ao v.on v.oc,.int .i64 q.ins,.int .i64 q.regs,.slice q.ac q.cn q.cc,.slice q.ao q.on q.oc] 28),(2,some b3,Row (α:=PtV) 85 ([PtV.mk b1 (0+3),PtV.mk b1 (0+7),PtV.mk b1 (0+11)]) ([])),(1,some b2,.cells #[.int .i64 0,.int .i64 0,.slice none 0 0,.int .i64 0,.int .i64 0,.slice none 0 0,.slice none 0 0,.int .i64 0,.int .i64 0,.slice none 0 0,.slice none 0 0,.int .i64 0,.int .i64 0,.slice none 0 0,.slice none 0 0] 28)])) (fun (k,Gx,u,v,q)=>Gx) (fun (k,Gx,u,v,q)=>k≤3∧G1.le Gx∧PHof Gx xp u∧PHof Gx yp v∧PHof Gx zp q) (fun (k,Gx,u,v,q)=>3 - k) ((0,G1,x,y,z)) (⟨Nat.zero_le _,Imm.le_refl _,hx.up hle1,hy.up hle1,hz.up hle1⟩) rfl ⟨rfl,rfl,rfl,rfl,rfl,trivial⟩ ⟨rfl,rfl,rfl,trivial⟩ (fun ⟨k,Gx,u,v,q⟩=>fun hk=>?_)
 obtain ⟨hk3,hle2,hu,hv,hq⟩:=hk
 refine Wc.gc 6 [] ?_
 refine Wc.cond rfl (fun hc1=>?_) (fun hc1=>?_)
 refine Wc.gl 6 [] ?_
 refine Wl.q rfl (Qy.indexAddr T.sl86 rfl rfl (by omega)) ?_
 rotate_left
 refine Wc.ga 12 [0,1] ?_
 refine Ar.out1 (.inr rfl) (Ho:=Hp.only _ []) rfl (.agg 1 rfl rfl T.agg28) (Hp.sub_only _ _) ?_
 rotate_left
 · have hk4:k=0∨k=1∨k=2:=by
    have h:(k:Int)<3:=hc1
    omega
   rcases hk4 with rfl | rfl | rfl
   · obtain ⟨ei,er,eac,ecn,ecc,eao,eon,eoc⟩:=u
     obtain ⟨e1,e2,e3,e4,hec,heo⟩:=hu
     dsimp only at e1 e2 e3 e4 hec heo
     subst e1 e2 e3 e4
     refine Wl.q rfl (Qy.load (v:=.pointer (some ⟨b1,3,none⟩)) 2 T.one85 rfl rfl rfl) ?_
     refine Wl.gc 3 [] ?_
     refine Wc.draw [1,2,0] [(0,17),(0,14)] T.mixed rfl ?_
     refine Gm.c 0 [] [] ?_
     refine Gm.c 1 [] [] ?_
     refine Gm.c 2 [] [] ?_
     refine Gm.c 3 [] [] ?_
     refine Gm.c 4 [] [] ?_
     refine Gm.c 5 [0] [0] ?_
     refine Gm.c 7 [] [] ?_
     refine Gm.c 8 [] [] ?_
     refine Gm.c 9 [] [] ?_
     refine Gm.c 10 [0] [0] ?_
     refine Gm.o1 6 ?_
     refine Wl.k 3 rfl (c52F _ _ _ _ (by assumption) (by omega)) (fun v3 G3 Ho3 hle3 hp=>?_)
     obtain ⟨s3,d3,rfl,hs3,rfl⟩:=hp
     replace hec:=hec.up hle3
     replace heo:=heo.up hle3
     refine Wl.on0 ?_
     refine Gm.o1 11 ?_
     refine Wl.k 3 rfl (c53F _ _ _ _ (by assumption) (by omega)) (fun v4 G4 Ho4 hle4 hp=>?_)
     obtain ⟨s4,d4,rfl,hs4,rfl⟩:=hp
     replace hs3:=hs3.up hle4
     replace hec:=hec.up hle4
     replace heo:=heo.up hle4
     refine Wl.on0 ?_
     refine Gm.c 12 [] [] ?_
     refine Gm.c 13 [] [] ?_
     refine Gm.o1 14 ?_
     refine Wl.ll0 1 [0] ?_
     refine Wl.on0 ?_
     refine Gm.c 15 [] [] ?_
     refine Gm.c 16 [] [] ?_
     refine Gm.o1 17 ?_
     refine Wl.ll0 1 [0] ?_
     refine Wl.on0 ?_
     refine Gm.fin ?_
     refine Ar.ga 6 [] ?_
     have hl9:Gx.le G4:=Imm.le_trans hle3 hle4
     refine Ar.re 14 rfl (show _=Value.int .i64 ((1:Nat):Int) from rfl) ?_
     refine Ar.again ((1,G4,⟨xp.ins,xp.regs,s3,xp.code.length,d3,s4,xp.outs.length,d4⟩,v,q)) ?_ ?_ rfl ⟨rfl,rfl,rfl,rfl,rfl,trivial⟩ ⟨rfl,rfl,rfl,trivial⟩
     · exact ⟨by omega,Imm.le_trans hle2 hl9,⟨rfl,rfl,rfl,rfl,hs3,hs4⟩,hv.up hl9,hq.up hl9⟩
     show 3 - 1<3 - 0
     omega
   · obtain ⟨ei,er,eac,ecn,ecc,eao,eon,eoc⟩:=v
     obtain ⟨e1,e2,e3,e4,hec,heo⟩:=hv
     dsimp only at e1 e2 e3 e4 hec heo
     subst e1 e2 e3 e4
     refine Wl.q rfl (Qy.load (v:=.pointer (some ⟨b1,7,none⟩)) 2 T.one85 rfl rfl rfl) ?_
     refine Wl.gc 3 [] ?_
     refine Wc.draw [1,2,0] [(0,17),(0,14)] T.mixed rfl ?_
     refine Gm.c 0 [] [] ?_
     refine Gm.c 1 [] [] ?_
     refine Gm.c 2 [] [] ?_
     refine Gm.c 3 [] [] ?_
     refine Gm.c 4 [] [] ?_
     refine Gm.c 5 [0] [0] ?_
     refine Gm.c 7 [] [] ?_
     refine Gm.c 8 [] [] ?_
     refine Gm.c 9 [] [] ?_
     refine Gm.c 10 [0] [0] ?_
     refine Gm.o1 6 ?_
     refine Wl.k 3 rfl (c52F _ _ _ _ (by assumption) (by omega)) (fun v3 G3 Ho3 hle3 hp=>?_)
     obtain ⟨s3,d3,rfl,hs3,rfl⟩:=hp
     replace hec:=hec.up hle3
     replace heo:=heo.up hle3
     refine Wl.on0 ?_
     refine Gm.o1 11 ?_
     refine Wl.k 3 rfl (c53F _ _ _ _ (by assumption) (by omega)) (fun v4 G4 Ho4 hle4 hp=>?_)
     obtain ⟨s4,d4,rfl,hs4,rfl⟩:=hp
     replace hs3:=hs3.up hle4
     replace hec:=hec.up hle4
     replace heo:=heo.up hle4
     refine Wl.on0 ?_
     refine Gm.c 12 [] [] ?_
     refine Gm.c 13 [] [] ?_
     refine Gm.o1 14 ?_
     refine Wl.ll0 1 [0] ?_
     refine Wl.on0 ?_
     refine Gm.c 15 [] [] ?_
     refine Gm.c 16 [] [] ?_
     refine Gm.o1 17 ?_
     refine Wl.ll0 1 [0] ?_
     refine Wl.on0 ?_
     refine Gm.fin ?_
     refine Ar.ga 6 [] ?_
     have hl9:Gx.le G4:=Imm.le_trans hle3 hle4
     refine Ar.re 14 rfl (show _=Value.int .i64 ((2:Nat):Int) from rfl) ?_
     refine Ar.again ((2,G4,u,⟨yp.ins,yp.regs,s3,yp.code.length,d3,s4,yp.outs.length,d4⟩,q)) ?_ ?_ rfl ⟨rfl,rfl,rfl,rfl,rfl,trivial⟩ ⟨rfl,rfl,rfl,trivial⟩
     · exact ⟨by omega,Imm.le_trans hle2 hl9,hu.up hl9,⟨rfl,rfl,rfl,rfl,hs3,hs4⟩,hq.up hl9⟩
     show 3 - 2<3 - 1
     omega
   obtain ⟨ei,er,eac,ecn,ecc,eao,eon,eoc⟩:=q
   obtain ⟨e1,e2,e3,e4,hec,heo⟩:=hq
   dsimp only at e1 e2 e3 e4 hec heo
   subst e1 e2 e3 e4
   refine Wl.q rfl (Qy.load (v:=.pointer (some ⟨b1,11,none⟩)) 2 T.one85 rfl rfl rfl) ?_
   refine Wl.gc 3 [] ?_
   refine Wc.draw [1,2,0] [(0,17),(0,14)] T.mixed rfl ?_
   refine Gm.c 0 [] [] ?_
   refine Gm.c 1 [] [] ?_
   refine Gm.c 2 [] [] ?_
   refine Gm.c 3 [] [] ?_
   refine Gm.c 4 [] [] ?_
   refine Gm.c 5 [0] [0] ?_
   refine Gm.c 7 [] [] ?_
   refine Gm.c 8 [] [] ?_
   refine Gm.c 9 [] [] ?_
   refine Gm.c 10 [0] [0] ?_
   refine Gm.o1 6 ?_
   refine Wl.k 3 rfl (c52F _ _ _ _ (by assumption) (by omega)) (fun v3 G3 Ho3 hle3 hp=>?_)
   obtain ⟨s3,d3,rfl,hs3,rfl⟩:=hp
   replace hec:=hec.up hle3
   replace heo:=heo.up hle3
   refine Wl.on0 ?_
   refine Gm.o1 11 ?_
   refine Wl.k 3 rfl (c53F _ _ _ _ (by assumption) (by omega)) (fun v4 G4 Ho4 hle4 hp=>?_)
   obtain ⟨s4,d4,rfl,hs4,rfl⟩:=hp
   replace hs3:=hs3.up hle4
   replace hec:=hec.up hle4
   replace heo:=heo.up hle4
   refine Wl.on0 ?_
   refine Gm.c 12 [] [] ?_
   refine Gm.c 13 [] [] ?_
   refine Gm.o1 14 ?_
   refine Wl.ll0 1 [0] ?_
   refine Wl.on0 ?_
   refine Gm.c 15 [] [] ?_
   refine Gm.c 16 [] [] ?_
   refine Gm.o1 17 ?_
   refine Wl.ll0 1 [0] ?_
   refine Wl.on0 ?_
   refine Gm.fin ?_
   refine Ar.ga 6 [] ?_
   have hl9:Gx.le G4:=Imm.le_trans hle3 hle4
   refine Ar.re 14 rfl (show _=Value.int .i64 ((3:Nat):Int) from rfl) ?_
   refine Ar.again ((3,G4,u,v,⟨zp.ins,zp.regs,s3,zp.code.length,d3,s4,zp.outs.length,d4⟩)) ?_ ?_ rfl ⟨rfl,rfl,rfl,rfl,rfl,trivial⟩ ⟨rfl,rfl,rfl,trivial⟩
   · exact ⟨by omega,Imm.le_trans hle2 hl9,hu.up hl9,hv.up hl9,⟨rfl,rfl,rfl,rfl,hs3,hs4⟩⟩
   show 3 - 3<3 - 2
   omega
 exact ⟨s1,d1,u,v,q,rfl,hs1.le hle2,hsd1,hu,hv,hq,rfl⟩
end Go.Proofs.YtfdcckcadfhpeaaGreatDoor
namespace Go.Proofs.YtfdcckcadfhpeaaGreatDoor
open Go Go.Sl
theorem take_eq_stepU {α:Type} [Inhabited α] {l m:List α} {k:Nat} (hl:k<l.length) (hm:k<m.length) (h:l.take k=m.take k) (he:l[((k:Nat):Int).toNat]?.getD default=m[((k:Nat):Int).toNat]?.getD default):l.take (k+1)=m.take (k+1):=by
 rw [Int.toNat_natCast,List.getElem?_eq_getElem hl,List.getElem?_eq_getElem hm] at he
 rw [List.take_add_one,List.take_add_one,h,List.getElem?_eq_getElem hl,List.getElem?_eq_getElem hm]
 simp only [Option.getD_some] at he
 rw [he]
set_option maxHeartbeats 4000000
theorem c60 (G:Imm) (p q:PV) (ac ao bc bo:Option Addr) (cc co dc do_:Nat) (hc:Arr G ac p.code) (ho:Arr G ao p.outs) (hc':Arr G bc q.code) (ho':Arr G bo q.outs) (h1:p.code.length≤1099511627776) (h2:p.outs.length≤1099511627776) :
 Does Tryz.prog 60 [.agg #[.int .i64 p.ins,.int .i64 p.regs,.slice ac p.code.length cc,.slice ao p.outs.length co],.agg #[.int .i64 q.ins,.int .i64 q.regs,.slice bc q.code.length dc,.slice bo q.outs.length do_]] G []
  (fun v G' Ho=>v=.bool (decide (p=q))∧G'=G∧Ho=[]):=by
 refine Does.enter Tryz.func60 rfl Tryz.ntmps60 rfl (fun w=>?_)
 refine Wc.gl 2 [] ?_
 refine Wl.box 0 rfl rfl rfl (fun b1=>?_)
 refine Wl.box 1 rfl rfl rfl (fun b2=>?_)
 refine Wl.gl 12 [0,1] ?_
 apply Wl.joinOr 6 12 18 rfl
 intro hg1
 refine Wl.ll0 11 [0,1] ?_
 exact Wl.back 6 0 rfl rfl rfl rfl rfl
 intro hg1
 refine Wl.ll0 6 [] ?_
 exact Wl.back 6 0 rfl rfl rfl rfl rfl
 refine Wl.ll0 1 [] ?_
 apply Wl.joinOr 8 19 27 rfl
 intro hg1
 refine Wl.ll0 15 [0,1] ?_
 exact Wl.back 8 0 rfl rfl rfl rfl rfl
 intro hg1
 refine Wl.ll0 8 [] ?_
 exact Wl.back 8 0 rfl rfl rfl rfl rfl
 refine Wl.ll0 1 [] ?_
 apply Wl.joinOr 8 28 36 rfl
 intro hg1
 refine Wl.ll0 15 [0,1] ?_
 exact Wl.back 8 0 rfl rfl rfl rfl rfl
 intro hg1
 refine Wl.ll0 8 [] ?_
 exact Wl.back 8 0 rfl rfl rfl rfl rfl
 refine Wl.gc 2 [] ?_
 refine Wc.cond rfl (fun hc1=>?_) (fun hc1=>?_)
 refine Wc.ga 7 [] ?_
 refine Ar.e1 ?_
 rotate_left
 refine Wc.gc 9 [] ?_
 rotate_left
 · refine ⟨?_,rfl,rfl⟩
   have:p≠q:=by rintro rfl;omega
   simp [this]
 simp only [not_or,ne_eq,Decidable.not_not] at hc1
 obtain ⟨⟨⟨e1,e2⟩,e3⟩,e4⟩:=hc1
 refine Wc.loop (ι:=Nat) (fun k=>([(5,.int .i64 (k:Int)),(3,.pointer (some ⟨b2,0,none⟩)),(2,.pointer (some ⟨b1,0,none⟩))],[(1,some b2,.cells #[.int .i64 (PV.ins q),.int .i64 (PV.regs q),.slice bc (List.length (PV.code q)) dc,.slice bo (List.length (PV.outs q)) do_] 26),(0,some b1,.cells #[.int .i64 (PV.ins p),.int .i64 (PV.regs p),.slice ac (List.length (PV.code p)) cc,.slice ao (List.length (PV.outs p)) co] 26)])) (fun k=>k≤p.code.length∧p.code.take k=q.code.take k) (fun k=>p.code.length - k) (0) (⟨Nat.zero_le _,rfl⟩) ⟨rfl,rfl,rfl,trivial⟩ ⟨rfl,rfl,trivial⟩ (fun k=>fun hk=>?_)
 obtain ⟨hk1,hk2⟩:=hk
 refine Wc.gc 10 [0] ?_
 refine Wc.cond rfl (fun hc1=>?_) (fun hc1=>?_)
 refine Wc.gc 5 [] ?_
 refine Wc.draw [0,1] [] T.mixed rfl ?_
 refine Gm.c 0 [] [] ?_
 refine Gm.c 1 [0] [0] ?_
 refine Gm.c 2 [] [] ?_
 refine Gm.u 3 [] rfl (Qy.at (α:=Sl.Instr) T.sl23 rfl rfl (by assumption) (by omega)) ?_
 refine Gm.u 4 [] rfl (Qy.loadsG T.agg91 rfl (Arr.elem (by assumption) (by omega)) rfl) ?_
 refine Gm.c 5 [] [] ?_
 refine Gm.c 6 [1] [1] ?_
 refine Gm.c 7 [] [] ?_
 refine Gm.u 8 [] rfl (Qy.at (α:=Sl.Instr) T.sl23 rfl rfl (by assumption) (by omega)) ?_
 refine Gm.u 9 [] rfl (Qy.loadsG T.agg91 rfl (Arr.elem (by assumption) (by omega)) rfl) ?_
 refine Gm.u 10 [] rfl (Qy.neqInstr T.ai91 rfl rfl) ?_
 refine Gm.fin ?_
 refine Ar.next ?_
 refine Wc.cond rfl (fun hc2=>?_) (fun hc2=>?_)
 refine Wc.ga 11 [] ?_
 refine Ar.e1 ?_
 rotate_left
 refine Wc.ga 8 [] ?_
 rotate_left
 refine Wc.gc 12 [] ?_
 rotate_left
 · refine ⟨?_,rfl,rfl⟩
   have:p≠q:=by rintro rfl;exact hc2 rfl
   simp [this]
 · refine Ar.again (k+1) ?_ ?_ rfl ⟨rfl,rfl,rfl,trivial⟩ ⟨rfl,rfl,trivial⟩
   · exact ⟨by omega,take_eq_stepU (by omega) (by omega) hk2 (Decidable.not_not.1 hc2)⟩
   omega
 have hcode:p.code=q.code:=by
  have:k=p.code.length:=by omega
  subst this
  rw [List.take_length,List.take_of_length_le (by omega)] at hk2
  exact hk2
 clear hk1 hk2 hc1
 refine Wc.loop (ι:=Nat) (fun k=>([(6,.int .i64 (k:Int)),(3,.pointer (some ⟨b2,0,none⟩)),(2,.pointer (some ⟨b1,0,none⟩))],[(1,some b2,.cells #[.int .i64 (PV.ins q),.int .i64 (PV.regs q),.slice bc (List.length (PV.code q)) dc,.slice bo (List.length (PV.outs q)) do_] 26),(0,some b1,.cells #[.int .i64 (PV.ins p),.int .i64 (PV.regs p),.slice ac (List.length (PV.code p)) cc,.slice ao (List.length (PV.outs p)) co] 26)])) (fun k=>k≤p.outs.length∧p.outs.take k=q.outs.take k) (fun k=>p.outs.length - k) (0) (⟨Nat.zero_le _,rfl⟩) ⟨rfl,rfl,rfl,trivial⟩ ⟨rfl,rfl,trivial⟩ (fun k=>fun hk=>?_)
 obtain ⟨hk1,hk2⟩:=hk
 refine Wc.gc 10 [0] ?_
 refine Wc.cond rfl (fun hc1=>?_) (fun hc1=>?_)
 refine Wc.gc 5 [] ?_
 refine Wc.draw [0,1] [] T.mixed rfl ?_
 refine Gm.c 0 [] [] ?_
 refine Gm.c 1 [0] [0] ?_
 refine Gm.c 2 [] [] ?_
 refine Gm.u 3 [] rfl (Qy.at (α:=Int) T.sl24 rfl rfl (by assumption) (by omega)) ?_
 refine Gm.u 4 [0] rfl (Qy.loadG T.one3 rfl (Arr.cell (by assumption) (by omega) 0 rfl rfl)) ?_
 refine Gm.c 5 [] [] ?_
 refine Gm.c 6 [1] [1] ?_
 refine Gm.c 7 [] [] ?_
 refine Gm.u 8 [] rfl (Qy.at (α:=Int) T.sl24 rfl rfl (by assumption) (by omega)) ?_
 refine Gm.u 9 [0] rfl (Qy.loadG T.one3 rfl (Arr.cell (by assumption) (by omega) 0 rfl rfl)) ?_
 refine Gm.c 10 [] [] ?_
 refine Gm.fin ?_
 refine Ar.next ?_
 refine Wc.cond rfl (fun hc2=>?_) (fun hc2=>?_)
 refine Wc.ga 11 [] ?_
 refine Ar.e1 ?_
 rotate_left
 refine Wc.ga 8 [] ?_
 rotate_left
 refine Wc.ga 11 [] ?_
 refine Ar.e1 ?_
 rotate_left
 · refine ⟨?_,rfl,rfl⟩
   have:p≠q:=by rintro rfl;exact hc2 rfl
   simp [this]
 · refine Ar.again (k+1) ?_ ?_ rfl ⟨rfl,rfl,rfl,trivial⟩ ⟨rfl,rfl,trivial⟩
   · exact ⟨by omega,take_eq_stepU (by omega) (by omega) hk2 (Decidable.not_not.1 hc2)⟩
   omega
 refine ⟨?_,rfl,rfl⟩
 have houts:p.outs=q.outs:=by
  have:k=p.outs.length:=by omega
  subst this
  rw [List.take_length,List.take_of_length_le (by omega)] at hk2
  exact hk2
 have:p=q:=by cases p;cases q;simp_all
 simp [this]
theorem c15 (G:Imm) (k1 k2:Int) (pl:List R2) (pa qa:Option Addr) (pc qc:Nat) (xp yp zp:PV) (xac xao yac yao zac zao uac uao vac vao wac wao:Option Addr) (xcc xoc ycc yoc zcc zoc ucc uoc vcc voc wcc woc:Nat) (hpa:Arr G pa pl) (hqa:Arr G qa pl) (hpl:pl.length≤1048576) (hxc:Arr G xac xp.code) (hxo:Arr G xao xp.outs) (hyc:Arr G yac yp.code) (hyo:Arr G yao yp.outs) (hzc:Arr G zac zp.code) (hzo:Arr G zao zp.outs) (huc:Arr G uac xp.code) (huo:Arr G uao xp.outs) (hvc:Arr G vac yp.code) (hvo:Arr G vao yp.outs) (hwc:Arr G wac zp.code) (hwo:Arr G wao zp.outs) (hx1:xp.code.length≤1048576) (hx2:xp.outs.length≤1048576) (hy1:yp.code.length≤1048576) (hy2:yp.outs.length≤1048576) (hz1:zp.code.length≤1048576) (hz2:zp.outs.length≤1048576) :
 Does Tryz.prog 15 [.agg #[.int .i64 k1,.int .i64 k2,.slice pa pl.length pc,.int .i64 xp.ins,.int .i64 xp.regs,.slice xac xp.code.length xcc,.slice xao xp.outs.length xoc,.int .i64 yp.ins,.int .i64 yp.regs,.slice yac yp.code.length ycc,.slice yao yp.outs.length yoc,.int .i64 zp.ins,.int .i64 zp.regs,.slice zac zp.code.length zcc,.slice zao zp.outs.length zoc],.agg #[.int .i64 k1,.int .i64 k2,.slice qa pl.length qc,.int .i64 xp.ins,.int .i64 xp.regs,.slice uac xp.code.length ucc,.slice uao xp.outs.length uoc,.int .i64 yp.ins,.int .i64 yp.regs,.slice vac yp.code.length vcc,.slice vao yp.outs.length voc,.int .i64 zp.ins,.int .i64 zp.regs,.slice wac zp.code.length wcc,.slice wao zp.outs.length woc]] G []
  (fun v G' Ho=>v=.bool (decide (1=1))∧G'=G∧Ho=[]):=by
 refine Does.enter Tryz.func15 rfl Tryz.ntmps15 rfl (fun w=>?_)
 refine Wc.gl 2 [] ?_
 refine Wl.box 0 rfl rfl rfl (fun b1=>?_)
 refine Wl.box 1 rfl rfl rfl (fun b2=>?_)
 refine Wl.gl 12 [0,1] ?_
 refine Wl.no 11 rfl (by first | assumption | omega) ?_
 refine Wl.ll0 12 [0,1] ?_
 refine Wl.no 18 rfl (by first | assumption | omega) ?_
 refine Wl.gc 27 [0,1,0] ?_
 refine Wc.loop (ι:=Nat) (fun k=>([(5,.int .i64 (k:Int)),(3,.pointer (some ⟨b2,0,none⟩)),(2,.pointer (some ⟨b1,0,none⟩))],[(1,some b2,.cells #[.int .i64 k1,.int .i64 k2,.slice qa (List.length pl) qc,.int .i64 (PV.ins xp),.int .i64 (PV.regs xp),.slice uac (List.length (PV.code xp)) ucc,.slice uao (List.length (PV.outs xp)) uoc,.int .i64 (PV.ins yp),.int .i64 (PV.regs yp),.slice vac (List.length (PV.code yp)) vcc,.slice vao (List.length (PV.outs yp)) voc,.int .i64 (PV.ins zp),.int .i64 (PV.regs zp),.slice wac (List.length (PV.code zp)) wcc,.slice wao (List.length (PV.outs zp)) woc] 28),(0,some b1,.cells #[.int .i64 k1,.int .i64 k2,.slice pa (List.length pl) pc,.int .i64 (PV.ins xp),.int .i64 (PV.regs xp),.slice xac (List.length (PV.code xp)) xcc,.slice xao (List.length (PV.outs xp)) xoc,.int .i64 (PV.ins yp),.int .i64 (PV.regs yp),.slice yac (List.length (PV.code yp)) ycc,.slice yao (List.length (PV.outs yp)) yoc,.int .i64 (PV.ins zp),.int .i64 (PV.regs zp),.slice zac (List.length (PV.code zp)) zcc,.slice zao (List.length (PV.outs zp)) zoc] 28)])) (fun k=>k≤pl.length) (fun k=>pl.length - k) (0) (Nat.zero_le _) ⟨rfl,rfl,rfl,trivial⟩ ⟨rfl,rfl,trivial⟩ (fun k=>fun (hk:k≤pl.length)=>?_)
 refine Wc.gc 10 [0] ?_
 refine Wc.cond rfl (fun hc1=>?_) (fun hc1=>?_)
 refine Wc.gc 5 [] ?_
 refine Wc.draw [0,1] [] T.mixed rfl ?_
 refine Gm.c 0 [] [] ?_
 refine Gm.c 1 [0] [0] ?_
 refine Gm.c 2 [] [] ?_
 refine Gm.u 3 [] rfl (Qy.at (α:=R2) T.sl22 rfl rfl (by assumption) (by omega)) ?_
 refine Gm.u 4 [] rfl (Qy.loadsG T.agg52 rfl (Arr.elem (by assumption) (by omega)) rfl) ?_
 refine Gm.c 5 [] [] ?_
 refine Gm.c 6 [1] [1] ?_
 refine Gm.c 7 [] [] ?_
 refine Gm.u 8 [] rfl (Qy.at (α:=R2) T.sl22 rfl rfl (by assumption) (by omega)) ?_
 refine Gm.u 9 [] rfl (Qy.loadsG T.agg52 rfl (Arr.elem (by assumption) (by omega)) rfl) ?_
 refine Gm.u 10 [] rfl (Qy.neqI [_,_] [_,_] T.ai52 rfl rfl rfl rfl) ?_
 refine Gm.fin ?_
 refine Ar.next ?_
 refine Wc.cond rfl (fun hc2=>?_) (fun hc2=>?_)
 refine Wc.ga 11 [] ?_
 refine Ar.e1 ?_
 rotate_left
 refine Wc.ga 8 [] ?_
 rotate_left
 refine Wc.gl 8 [] ?_
 refine Wl.q rfl (Qy.loads 0 T.agg26 rfl rfl rfl rfl) ?_
 refine Wl.ll0 1 [] ?_
 refine Wl.q rfl (Qy.loads 1 T.agg26 rfl rfl rfl rfl) ?_
 refine Wl.k0 rfl (c60 _ _ _ _ _ _ _ _ _ _ _ (by assumption) (by assumption) (by assumption) (by assumption) (by omega) (by omega)) ?_
 refine Wl.ll0 1 [] ?_
 apply Wl.joinAnd 6 50 56 rfl
 intro hg1
 refine Wl.ll0 3 [] ?_
 refine Wl.q rfl (Qy.loads 0 T.agg26 rfl rfl rfl rfl) ?_
 refine Wl.ll0 3 [] ?_
 refine Wl.q rfl (Qy.loads 1 T.agg26 rfl rfl rfl rfl) ?_
 refine Wl.ll0 1 [] ?_
 refine Wl.k0 rfl (c60 _ _ _ _ _ _ _ _ _ _ _ (by assumption) (by assumption) (by assumption) (by assumption) (by omega) (by omega)) ?_
 refine Wl.ll0 1 [] ?_
 exact Wl.back 6 0 rfl rfl rfl rfl rfl
 intro hg1
 refine Wl.ll0 6 [] ?_
 exact Wl.back 6 0 rfl rfl rfl rfl rfl
 refine Wl.ll0 1 [] ?_
 apply Wl.joinAnd 6 57 63 rfl
 intro hg1
 refine Wl.ll0 3 [] ?_
 refine Wl.q rfl (Qy.loads 0 T.agg26 rfl rfl rfl rfl) ?_
 refine Wl.ll0 3 [] ?_
 refine Wl.q rfl (Qy.loads 1 T.agg26 rfl rfl rfl rfl) ?_
 refine Wl.ll0 1 [] ?_
 refine Wl.k0 rfl (c60 _ _ _ _ _ _ _ _ _ _ _ (by assumption) (by assumption) (by assumption) (by assumption) (by omega) (by omega)) ?_
 refine Wl.ll0 1 [] ?_
 exact Wl.back 6 0 rfl rfl rfl rfl rfl
 intro hg1
 refine Wl.ll0 6 [] ?_
 exact Wl.back 6 0 rfl rfl rfl rfl rfl
 refine Wl.ga 4 [] ?_
 refine Ar.e1 ?_
 rotate_left
 · exact absurd rfl (by assumption)
 · refine Ar.again (k+1) ?_ ?_ rfl ⟨rfl,rfl,rfl,trivial⟩ ⟨rfl,rfl,trivial⟩
   · omega
   omega
 exact ⟨by simp,rfl,rfl⟩
end Go.Proofs.YtfdcckcadfhpeaaGreatDoor
namespace Go.Sl.Ev
open Go Go.Sl
noncomputable def s4 {β:Sort _} (a b c d:β) (n:Nat):β:=Nat.rec (motive:=fun _=>β) a (fun n _=>Nat.rec (motive:=fun _=>β) b (fun n _=>Nat.rec (motive:=fun _=>β) c (fun _ _=>d) n) n) n
theorem s4_0 {β:Sort _} (a b c d:β):s4 a b c d 0=a:=rfl
theorem s4_1 {β:Sort _} (a b c d:β):s4 a b c d 1=b:=rfl
theorem s4_2 {β:Sort _} (a b c d:β):s4 a b c d 2=c:=rfl
theorem s4_3 {β:Sort _} (a b c d:β):s4 a b c d 3=d:=rfl
inductive Tr (α:Type) where
 | e
 | n (x:Option α) (a b c d:Tr α)
noncomputable def Tr.get {α:Type} (t:Tr α):Nat→Option α:=
 Tr.rec (motive:=fun _=>Nat→Option α) (fun _=>none) (fun x _ _ _ _ ga gb gc gd k=>Nat.rec (motive:=fun _=>Option α) x (fun m _=>s4 ga gb gc gd (Nat.mod m 4) (Nat.div m 4)) k) t
noncomputable def Tr.put {α:Type} (v:Option α) (ih:Tr α→Nat→Tr α) (k:Nat) (x:Option α) (a b c d:Tr α):Tr α:=
 Nat.rec (motive:=fun _=>Tr α) (.n v a b c d) (fun m _=>s4 (.n x (ih a (Nat.div m 4)) b c d) (.n x a (ih b (Nat.div m 4)) c d) (.n x a b (ih c (Nat.div m 4)) d) (.n x a b c (ih d (Nat.div m 4))) (Nat.mod m 4)) k
noncomputable def Tr.set {α:Type} (v:Option α) (f:Nat):Tr α→Nat→Tr α:=
 Nat.rec (motive:=fun _=>Tr α→Nat→Tr α) (fun t _=>t) (fun _ ih t k=>Tr.rec (motive:=fun _=>Tr α) (Tr.put v ih k none .e .e .e .e) (fun x a b c d _ _ _ _=>Tr.put v ih k x a b c d) t) f
theorem Tr.get_s {α:Type} (a b c d:Tr α) (x:Option α) (m:Nat):Tr.get (.n x a b c d) (m+1)=s4 a.get b.get c.get d.get (Nat.mod m 4) (Nat.div m 4):=rfl
theorem Tr.set_e {α:Type} (v:Option α) (f k:Nat):Tr.set v (f+1) (.e:Tr α) k=Tr.set v (f+1) (.n none .e .e .e .e) k:=rfl
theorem Tr.set_0 {α:Type} (v:Option α) (f:Nat) (a b c d:Tr α) (x:Option α):Tr.set v (f+1) (.n x a b c d) 0=.n v a b c d:=rfl
theorem Tr.set_s {α:Type} (v:Option α) (f m:Nat) (a b c d:Tr α) (x:Option α):Tr.set v (f+1) (.n x a b c d) (m+1) =
 s4 (.n x (Tr.set v f a (Nat.div m 4)) b c d) (.n x a (Tr.set v f b (Nat.div m 4)) c d) (.n x a b (Tr.set v f c (Nat.div m 4)) d) (.n x a b c (Tr.set v f d (Nat.div m 4))) (Nat.mod m 4):=rfl
theorem four (m:Nat):Nat.mod m 4=0∨Nat.mod m 4=1∨Nat.mod m 4=2∨Nat.mod m 4=3:=by
 have h:∀ k,k<4→k=0∨k=1∨k=2∨k=3:=by omega
 exact h _ (Nat.mod_lt m (by decide))
theorem same4 {i m r:Nat} (h1:Nat.mod i 4=r) (h2:Nat.mod m 4=r):(Nat.div i 4=Nat.div m 4)=(i+1=m+1):=by
 have e1:i % 4=r:=h1
 have e2:m % 4=r:=h2
 apply propext
 show (i / 4=m / 4)↔_
 constructor <;> intro h <;> omega
theorem diff4 {i m r s:Nat} (h1:Nat.mod i 4=r) (h2:Nat.mod m 4=s) (h:r≠s):¬(i+1=m+1):=fun e=>by
 have:i=m:=by omega
 subst this
 exact h (h1.symm.trans h2)
theorem Tr.get_set {α:Type} (v:Option α):∀ (f:Nat) (t:Tr α) (k j:Nat),k<f→(Tr.set v f t k).get j=if j=k then v else t.get j:=by
 intro f
 induction f with
 | zero=>intro t k j h;omega
 | succ f ih =>
   have key:∀ (a b c d:Tr α) (x:Option α) (k j:Nat),k<f+1→(Tr.set v (f+1) (.n x a b c d) k).get j=if j=k then v else (Tr.n x a b c d).get j:=by
    intro a b c d x k j h
    cases k with
    | zero =>
      rw [Tr.set_0]
      cases j with
      | zero=>rfl
      | succ i=>rw [if_neg (by omega)];rfl
    | succ m =>
      rw [Tr.set_s]
      have hm:Nat.div m 4<f:=by show m / 4<f;omega
      cases j with
      | zero =>
        rw [if_neg (by omega)]
        rcases four m with h1 | h1 | h1 | h1 <;> rw [h1] <;> rfl
      | succ i =>
        rcases four m with h1 | h1 | h1 | h1 <;> rcases four i with h2 | h2 | h2 | h2 <;> simp only [h1,s4_0,s4_1,s4_2,s4_3,Tr.get_s,h2] <;>
         first
         | (rw [if_neg (diff4 h2 h1 (by decide))])
         | (simp only [ih _ _ _ hm,same4 h2 h1])
   intro t k j h
   cases t with
   | e =>
     rw [Tr.set_e,key _ _ _ _ _ _ _ h]
     congr 1
     cases j with
     | zero=>rfl
     | succ i=>rw [Tr.get_s];rcases four i with h2 | h2 | h2 | h2 <;> rw [h2] <;> rfl
   | n x a b c d=>exact key a b c d x k j h
end Go.Sl.Ev
namespace Go.Sl.Ev
open Go Go.Sl
inductive CV where
 | int (k:IntKind) (n:Int)
 | bool (b:Bool)
 | str (s:CV)
 | ptr (t o:Nat)
 | nilp
 | sl (t o n sz:Nat) (c:Option Nat)
 | nils
 | sle
 | mp (t:Nat)
 | nilm
 | fn (f:Nat) (fst cap:CV)
 | nilf
 | yl (t:Nat)
 | agg (l:CV)
 | tup (l:CV)
 | nil
 | cons (a b:CV)
abbrev Pl:=Nat→Nat×Nat
noncomputable def D (ρ:Pl) (x:CV):(Value→Prop)×(List Value→Prop):=
 CV.rec (motive:=fun _=>(Value→Prop)×(List Value→Prop))
  (fun k n=>(fun v=>v=.int k n,fun _=>False))
  (fun b=>(fun v=>v=.bool b,fun _=>False))
  (fun _ ih=>(fun v=>∃ (vs:List Value) (bs:List UInt8),ih.2 vs∧vs=bs.map (fun b=>Value.int .u8 b.toNat)∧v=.string ⟨bs.toArray⟩,fun _=>False))
  (fun t o=>(fun v=>v=.pointer (some ⟨(ρ t).1,o,none⟩),fun _=>False))
  (fun v=>v=.pointer none,fun _=>False)
  (fun t o n sz c=>(fun v=>match c with
   | some c=>v=.slice (some ⟨(ρ t).1,o,none⟩) n c∧o+c*sz≤(ρ t).2∧n≤c∧c≤maxLen
   | none=>∃ c,v=.slice (some ⟨(ρ t).1,o,none⟩) n c∧o+c*sz=(ρ t).2∧n≤c∧c≤maxLen,fun _=>False))
  (fun v=>v=.slice none 0 0,fun _=>False)
  (fun v=>∃ a c,v=.slice a 0 c,fun _=>False)
  (fun t=>(fun v=>v=.map (some (ρ t).1),fun _=>False))
  (fun v=>v=.map none,fun _=>False)
  (fun f _ _ i1 i2=>(fun v=>∃ xs ys,i1.2 xs∧i2.2 ys∧v=.func (.func f) xs.toArray ys.toArray,fun _=>False))
  (fun v=>v=.nilFunc,fun _=>False)
  (fun t=>(fun v=>v=.func (.yield (ρ t).1) #[] #[],fun _=>False))
  (fun _ ih=>(fun v=>∃ vs,ih.2 vs∧v=.agg vs.toArray,fun _=>False))
  (fun _ ih=>(fun v=>∃ vs,ih.2 vs∧v=.tuple vs.toArray,fun _=>False))
  (fun _=>False,fun l=>l=[])
  (fun _ _ i1 i2=>(fun _=>False,fun l=>∃ v vs,l=v :: vs∧i1.1 v∧i2.2 vs)) x
def DV (ρ:Pl) (x:CV) (v:Value):Prop:=(D ρ x).1 v
def DL (ρ:Pl) (x:CV) (l:List Value):Prop:=(D ρ x).2 l
section
variable {ρ:Pl} {v:Value} {l:List Value}
theorem DV.int {k:IntKind} {n:Int}:DV ρ (.int k n) v↔v=.int k n:=Iff.rfl
theorem DV.bool {b:Bool}:DV ρ (.bool b) v↔v=.bool b:=Iff.rfl
theorem DV.ptr {t o:Nat}:DV ρ (.ptr t o) v↔v=.pointer (some ⟨(ρ t).1,o,none⟩):=Iff.rfl
theorem DV.nilp:DV ρ .nilp v↔v=.pointer none:=Iff.rfl
theorem DV.nils:DV ρ .nils v↔v=.slice none 0 0:=Iff.rfl
theorem DV.mp {t:Nat}:DV ρ (.mp t) v↔v=.map (some (ρ t).1):=Iff.rfl
theorem DV.slS {t o n sz c:Nat}:DV ρ (.sl t o n sz (some c)) v↔v=.slice (some ⟨(ρ t).1,o,none⟩) n c∧o+c*sz≤(ρ t).2∧n≤c∧c≤maxLen:=Iff.rfl
theorem DV.slN {t o n sz:Nat}:DV ρ (.sl t o n sz none) v↔∃ c,v=.slice (some ⟨(ρ t).1,o,none⟩) n c∧o+c*sz=(ρ t).2∧n≤c∧c≤maxLen:=Iff.rfl
theorem DV.fn {f:Nat} {x y:CV}:DV ρ (.fn f x y) v↔∃ xs ys,DL ρ x xs∧DL ρ y ys∧v=.func (.func f) xs.toArray ys.toArray:=Iff.rfl
theorem DV.agg {x:CV}:DV ρ (.agg x) v↔∃ vs,DL ρ x vs∧v=.agg vs.toArray:=Iff.rfl
theorem DV.tup {x:CV}:DV ρ (.tup x) v↔∃ vs,DL ρ x vs∧v=.tuple vs.toArray:=Iff.rfl
theorem DL.nil:DL ρ .nil l↔l=[]:=Iff.rfl
theorem DL.cons {a b:CV}:DL ρ (.cons a b) l↔∃ v vs,l=v :: vs∧DV ρ a v∧DL ρ b vs:=Iff.rfl
end
noncomputable def Bd (nx:Nat) (x:CV):Prop:=
 CV.rec (motive:=fun _=>Prop) (fun _ _=>True) (fun _=>True) (fun _ ih=>ih) (fun t _=>t<nx) True (fun t _ _ _ _=>t<nx) True True (fun t=>t<nx) True (fun _ _ _ i1 i2=>i1∧i2) True (fun t=>t<nx)
  (fun _ ih=>ih) (fun _ ih=>ih) True (fun _ _ i1 i2=>i1∧i2) x
def Ext (nx:Nat) (ρ ρ':Pl):Prop:=∀ t,t<nx→ρ' t=ρ t
theorem Ext.refl (nx:Nat) (ρ:Pl):Ext nx ρ ρ:=fun _ _=>rfl
theorem Ext.trans {nx nx':Nat} {a b c:Pl} (h:Ext nx a b) (k:Ext nx' b c) (hn:nx≤nx'):Ext nx a c:=fun t ht=>(k t (Nat.lt_of_lt_of_le ht hn)).trans (h t ht)
theorem D_ext {nx:Nat} {ρ ρ':Pl} (h:Ext nx ρ ρ') (x:CV) (hb:Bd nx x):D ρ' x=D ρ x:=by
 induction x with
 | int k n=>rfl
 | bool b=>rfl
 | str s ih=>have:=ih hb;show (_,_)=(_,_);simp only [D] at this ⊢;rw [this]
 | ptr t o=>have e:=h t hb;show (_,_)=(_,_);simp only [e]
 | nilp=>rfl
 | sl t o n sz c=>have e:=h t hb;show (_,_)=(_,_);simp only [e]
 | nils=>rfl
 | sle=>rfl
 | mp t=>have e:=h t hb;show (_,_)=(_,_);simp only [e]
 | nilm=>rfl
 | fn f x y i1 i2=>have e1:=i1 hb.1;have e2:=i2 hb.2;show (_,_)=(_,_);simp only [D] at e1 e2 ⊢;rw [e1,e2]
 | nilf=>rfl
 | yl t=>have e:=h t hb;show (_,_)=(_,_);simp only [e]
 | agg l ih=>have:=ih hb;show (_,_)=(_,_);simp only [D] at this ⊢;rw [this]
 | tup l ih=>have:=ih hb;show (_,_)=(_,_);simp only [D] at this ⊢;rw [this]
 | nil=>rfl
 | cons a b i1 i2=>have e1:=i1 hb.1;have e2:=i2 hb.2;show (_,_)=(_,_);simp only [D] at e1 e2 ⊢;rw [e1,e2]
theorem Bd.mono {nx nx':Nat} (h:nx≤nx') (x:CV) (hb:Bd nx x):Bd nx' x:=by
 induction x with
 | str s ih=>exact ih hb
 | ptr t o=>exact Nat.lt_of_lt_of_le (show t<nx from hb) h
 | sl t o n sz c=>exact Nat.lt_of_lt_of_le (show t<nx from hb) h
 | mp t=>exact Nat.lt_of_lt_of_le (show t<nx from hb) h
 | fn f x y i1 i2=>exact ⟨i1 hb.1,i2 hb.2⟩
 | yl t=>exact Nat.lt_of_lt_of_le (show t<nx from hb) h
 | agg l ih=>exact ih hb
 | tup l ih=>exact ih hb
 | cons a b i1 i2=>exact ⟨i1 hb.1,i2 hb.2⟩
 | _=>trivial
def Kn (nx:Nat) (ρ:Pl) (x:CV) (v:Value):Prop:=Bd nx x∧DV ρ x v
def KL (nx:Nat) (ρ:Pl) (x:CV) (l:List Value):Prop:=Bd nx x∧DL ρ x l
theorem Kn.up {nx nx':Nat} {ρ ρ':Pl} {x:CV} {v:Value} (h:Kn nx ρ x v) (hn:nx≤nx') (he:Ext nx ρ ρ'):Kn nx' ρ' x v:=
 ⟨h.1.mono hn,by unfold DV;rw [D_ext he x h.1];exact h.2⟩
theorem KL.up {nx nx':Nat} {ρ ρ':Pl} {x:CV} {v:List Value} (h:KL nx ρ x v) (hn:nx≤nx') (he:Ext nx ρ ρ'):KL nx' ρ' x v:=
 ⟨h.1.mono hn,by unfold DL;rw [D_ext he x h.1];exact h.2⟩
theorem KL.nil {nx:Nat} {ρ:Pl}:KL nx ρ .nil []:=⟨trivial,rfl⟩
theorem KL.cons {nx:Nat} {ρ:Pl} {a b:CV} {v:Value} {vs:List Value} (h1:Kn nx ρ a v) (h2:KL nx ρ b vs):KL nx ρ (.cons a b) (v :: vs):=⟨⟨h1.1,h2.1⟩,⟨v,vs,rfl,h1.2,h2.2⟩⟩
structure Rw where
 n:Nat
 t:Tr CV
def RT (nx:Nat) (ρ:Pl) (t:Tr CV) (vs:List Value):Prop:=∀ i x,t.get i=some x→∃ v,vs[i]?=some v∧Kn nx ρ x v
def RL (nx:Nat) (ρ:Pl) (r:Rw) (vs:List Value):Prop:=r.n=vs.length∧RT nx ρ r.t vs
theorem RL.up {nx nx':Nat} {ρ ρ':Pl} {r:Rw} {vs:List Value} (h:RL nx ρ r vs) (hn:nx≤nx') (he:Ext nx ρ ρ'):RL nx' ρ' r vs:=
 ⟨h.1,fun i x hx=>by obtain ⟨v,h1,h2⟩:=h.2 i x hx;exact ⟨v,h1,h2.up hn he⟩⟩
inductive CB where
 | cells (l:Rw) (ty:Nat) (op:Bool) (st:Nat)
 | ro (l:Rw) (ty:Nat) (st:Nat)
 | mapI (l:List (Int×Int)) (st:Nat)
 | mapK (l:List (K4×Int)) (st:Nat)
 | lp (E:Tr CV) (n:Nat) (ps:List Nat) (asg body:Code) (q:LoopState) (p:Option Code) (st:Nat)
def stB:CB→Nat
 | .cells _ _ _ s=>s
 | .ro _ _ s=>s
 | .mapI _ s=>s
 | .mapK _ s=>s
 | .lp _ _ _ _ _ _ _ s=>s
def DB (nx:Nat) (ρ:Pl) (size:Nat):CB→Obj→Prop
 | .cells l ty op _,o=>∃ vs junk,RL nx ρ l vs∧o=.cells (vs++junk).toArray ty (0,0)∧vs.length+junk.length=size∧(op=false→junk=[])
 | .ro l ty _,o=>∃ vs fz,RL nx ρ l vs∧o=.cells vs.toArray ty fz
 | .mapI l _,o=>o=mapObj l
 | .mapK l _,o=>o=mapObj l
 | .lp E n ps asg body st p _,o=>∃ q:Loop,o=.loop q∧q.state=st∧q.pending=p∧q.params=ps.toArray∧q.assign=asg∧q.body=body∧q.tmps.size=n∧∀ i x,E.get i=some x→∃ v,q.tmps[i]?=some v∧Kn nx ρ x v
theorem DB.up {nx nx':Nat} {ρ ρ':Pl} {s:Nat} {b:CB} {o:Obj} (h:DB nx ρ s b o) (hn:nx≤nx') (he:Ext nx ρ ρ'):DB nx' ρ' s b o:=by
 cases b with
 | cells l ty op st=>obtain ⟨vs,junk,h1,h2⟩:=h;exact ⟨vs,junk,h1.up hn he,h2⟩
 | ro l ty st=>obtain ⟨vs,fz,h1,h2⟩:=h;exact ⟨vs,fz,h1.up hn he,h2⟩
 | mapI l st=>exact h
 | mapK l st=>exact h
 | lp E n ps asg body q p st =>
   obtain ⟨q,h1,h2,h3,h4,h5,h6,h7,h8⟩:=h
   exact ⟨q,h1,h2,h3,h4,h5,h6,h7,fun i x hx=>by obtain ⟨v,g1,g2⟩:=h8 i x hx;exact ⟨v,g1,g2.up hn he⟩⟩
structure Bas (Φ:Imm→Prop) where
 w:World
 ks:List Nat
 G:Imm
 ok:Φ G
 s:Nat
structure Mem {Φ:Imm→Prop} (ρ:Pl) (w0:Bas Φ) (h:Tr CB) (nx:Nat) (w:World):Prop where
 upd:Upd (fun _=>False) w0.w w
 own:∀ t b,h.get t=some b→t<nx∧stB b<nx∧w0.w.heap.size≤(ρ t).1∧∃ o,w.heap[(ρ t).1]?=some o∧DB nx ρ (ρ t).2 b o
 one:∀ t t' b b',h.get t=some b→h.get t'=some b'→(ρ t).1=(ρ t').1→t=t'
 imm:∀ b o,w0.G b=some o→w0.w.heap[b]?=some o
 nod:w0.ks.Nodup
 kept:∀ b,b∈w0.ks→w0.w.heap.size≤b∧w.heap[b]?=some (.deferred (some []))∧∀ t c,h.get t=some c→(ρ t).1≠b
def Slots (ρ:Pl) (E:Tr CV) (nx:Nat) (n:Nat) (a:Act):Prop:=a.tmps.size=n∧∀ i x,E.get i=some x→∃ v,a.tmps[i]?=some v∧Kn nx ρ x v
def Bas.plus {Φ:Imm→Prop} (w0:Bas Φ) (os:List Nat):Bas Φ:=⟨w0.w,os++w0.ks,w0.G,w0.ok,w0.s⟩
structure Rel0 {Φ:Imm→Prop} (ρ:Pl) (w0:Bas Φ) (os:List Nat) (n:Nat) (E:Tr CV) (h:Tr CB) (nx:Nat) (a:Act) (w:World):Prop where
 slots:Slots ρ E nx n a
 defers:a.defers=os.map mark
 mem:Mem ρ (w0.plus os) h nx w
 mks:∀ b,b∈os→w0.s≤b
 ss:w0.s≤w.heap.size
def Rel {Φ:Imm→Prop} (ρ:Pl) (w0:Bas Φ) (n:Nat) (E:Tr CV) (h:Tr CB) (nx:Nat) (a:Act) (w:World):Prop:=∃ os,Rel0 ρ w0 os n E h nx a w
end Go.Sl.Ev
namespace Go.Sl.Ev
open Go Go.Sl
noncomputable def lrec {β:Sort _} (n:β) (c:CV→CV→β→β) (x:CV):β:=
 CV.rec (motive:=fun _=>β) (fun _ _=>n) (fun _=>n) (fun _ _=>n) (fun _ _=>n) n (fun _ _ _ _ _=>n) n n (fun _=>n) n (fun _ _ _ _ _=>n) n (fun _=>n) (fun _ _=>n) (fun _ _=>n) n (fun a b _ ih=>c a b ih) x
section
variable {β:Type} {n:β} {c:CV→CV→β→β}
end
noncomputable def nthC (l:CV):Nat→Option CV:=lrec (fun _=>none) (fun a _ ih k=>bif Nat.beq k 0 then some a else ih (Nat.pred k)) l
noncomputable def lenC (l:CV):Nat:=lrec 0 (fun _ _ ih=>Nat.succ ih) l
noncomputable def appC (l m:CV):CV:=lrec m (fun a _ ih=>.cons a ih) l
noncomputable def dropC (k:Nat):CV→CV:=Nat.rec (fun l=>l) (fun _ ih l=>lrec .nil (fun _ b _=>ih b) l) k
noncomputable def takeC (k:Nat):CV→CV:=Nat.rec (fun _=>.nil) (fun _ ih l=>lrec .nil (fun a b _=>.cons a (ih b)) l) k
noncomputable def isScal (x:CV):Bool:=
 CV.rec (motive:=fun _=>Bool) (fun _ _=>true) (fun _=>true) (fun _ _=>true) (fun _ _=>true) true (fun _ _ _ _ _=>true) true true (fun _=>true) true (fun _ _ _ _ _=>true) true (fun _=>true) (fun _ _=>false) (fun _ _=>false) false (fun _ _ _ _=>false) x
noncomputable def scalC (l:CV):Bool:=lrec true (fun a _ ih=>isScal a && ih) l
noncomputable def repC (l:CV) (k:Nat):CV:=Nat.rec .nil (fun _ ih=>appC l ih) k
section
variable {nx:Nat} {ρ:Pl}
theorem KL.inv_nil {l:List Value} (h:KL nx ρ .nil l):l=[]:=h.2
theorem KL.inv_cons {a b:CV} {l:List Value} (h:KL nx ρ (.cons a b) l):∃ v vs,l=v :: vs∧Kn nx ρ a v∧KL nx ρ b vs:=by
 obtain ⟨h1,v,vs,h2,h3,h4⟩:=h
 exact ⟨v,vs,h2,⟨h1.1,h3⟩,⟨h1.2,h4⟩⟩
theorem KL.induct {motive:CV→List Value→Prop} (h0:motive .nil []) (h1:∀ a b v vs,Kn nx ρ a v→KL nx ρ b vs→motive b vs→motive (.cons a b) (v :: vs)):∀ {x:CV} {l:List Value},KL nx ρ x l→motive x l:=by
 intro x
 induction x with
 | nil=>intro l h;rw [h.inv_nil];exact h0
 | cons a b _ ih =>
   intro l h
   obtain ⟨v,vs,rfl,h2,h3⟩:=h.inv_cons
   exact h1 a b v vs h2 h3 (ih h3)
 | _=>intro l h;exact absurd h.2 id
theorem nthC_ok {x:CV} {l:List Value} (h:KL nx ρ x l):∀ {k:Nat} {c:CV},nthC x k=some c→∃ v,l[k]?=some v∧Kn nx ρ c v:=by
 refine KL.induct (motive:=fun x l=>∀ {k:Nat} {c:CV},nthC x k=some c→∃ v,l[k]?=some v∧Kn nx ρ c v) ?_ ?_ h
 · intro k c hc;cases hc
 intro a b v vs hv hvs ih k c hc
 have hc':(bif Nat.beq k 0 then some a else nthC b (Nat.pred k))=some c:=hc
 cases hb:Nat.beq k 0 with
 | true =>
   rw [hb] at hc'
   have:=Nat.eq_of_beq_eq_true hb
   subst this
   cases hc'
   exact ⟨v,rfl,hv⟩
 | false =>
   rw [hb] at hc'
   obtain ⟨u,h1,h2⟩:=ih hc'
   refine ⟨u,?_,h2⟩
   cases k with
   | zero=>cases hb
   | succ k=>exact h1
theorem lenC_ok {x:CV} {l:List Value} (h:KL nx ρ x l):lenC x=l.length:=by
 refine KL.induct (motive:=fun x l=>lenC x=l.length) rfl ?_ h
 intro a b v vs _ _ ih
 show Nat.succ (lenC b)=_
 rw [ih];rfl
theorem appC_ok {x y:CV} {l m:List Value} (h:KL nx ρ x l) (k:KL nx ρ y m):KL nx ρ (appC x y) (l++m):=by
 refine KL.induct (motive:=fun x l=>KL nx ρ (appC x y) (l++m)) k ?_ h
 intro a b v vs h1 _ ih
 exact KL.cons h1 ih
theorem dropC_ok:∀ (k:Nat) {x:CV} {l:List Value},KL nx ρ x l→KL nx ρ (dropC k x) (l.drop k):=by
 intro k
 induction k with
 | zero=>intro x l h;exact h
 | succ k ih =>
   intro x l h
   refine KL.induct (motive:=fun x l=>KL nx ρ (dropC (k+1) x) (l.drop (k+1))) KL.nil ?_ h
   intro a b v vs _ h2 _
   exact ih h2
theorem takeC_ok:∀ (k:Nat) {x:CV} {l:List Value},KL nx ρ x l→KL nx ρ (takeC k x) (l.take k):=by
 intro k
 induction k with
 | zero=>intro x l h;exact KL.nil
 | succ k ih =>
   intro x l h
   refine KL.induct (motive:=fun x l=>KL nx ρ (takeC (k+1) x) (l.take (k+1))) KL.nil ?_ h
   intro a b v vs h1 h2 _
   exact KL.cons h1 (ih h2)
theorem repC_ok {x:CV} {l:List Value} (h:KL nx ρ x l):∀ k:Nat,KL nx ρ (repC x k) (List.replicate k l).flatten:=by
 intro k
 induction k with
 | zero=>exact KL.nil
 | succ k ih =>
   rw [List.replicate_succ,List.flatten_cons]
   exact appC_ok h ih
theorem isScal_ok {x:CV} {v:Value} (h:Kn nx ρ x v) (hs:isScal x=true):v.oneCell'=true:=by
 cases x with
 | int k n=>rw [show v=_ from h.2];rfl
 | bool b=>rw [show v=_ from h.2];rfl
 | str s=>obtain ⟨_,_,_,_,h3⟩:=h.2;rw [h3];rfl
 | ptr t o=>rw [show v=_ from h.2];rfl
 | nilp=>rw [show v=_ from h.2];rfl
 | sl t o n sz c =>
   cases c with
   | some c=>rw [(DV.slS.1 h.2).1];rfl
   | none=>obtain ⟨c,h1,_⟩:=DV.slN.1 h.2;rw [h1];rfl
 | nils=>rw [show v=_ from h.2];rfl
 | sle=>obtain ⟨_,_,h1⟩:=h.2;rw [h1];rfl
 | mp t=>rw [show v=_ from h.2];rfl
 | nilm=>rw [show v=_ from h.2];rfl
 | fn f x y=>obtain ⟨_,_,_,_,h1⟩:=DV.fn.1 h.2;rw [h1];rfl
 | nilf=>rw [show v=_ from h.2];rfl
 | yl t=>rw [show v=_ from h.2];rfl
 | agg l=>cases hs
 | tup l=>cases hs
 | nil=>cases hs
 | cons a b=>cases hs
theorem scalC_ok {x:CV} {l:List Value} (h:KL nx ρ x l):scalC x=true→l.all (·.oneCell')=true:=by
 refine KL.induct (motive:=fun x l=>scalC x=true→l.all (·.oneCell')=true) (fun _=>rfl) ?_ h
 intro a b v vs h1 _ ih hs
 have hs':(isScal a && scalC b)=true:=hs
 simp only [Bool.and_eq_true] at hs'
 rw [List.all_cons,Bool.and_eq_true]
 exact ⟨isScal_ok h1 hs'.1,ih hs'.2⟩
end
noncomputable def nthR (r:Rw) (o:Nat):Option CV:=r.t.get o
noncomputable def sliceR (r:Rw) (o k:Nat):CV:=Nat.rec (motive:=fun _=>Nat→CV) (fun _=>.nil) (fun _ ih o=>match r.t.get o with | some a=>.cons a (ih (Nat.succ o)) | none=>.nil) k o
noncomputable def putT (m:CV) (t:Tr CV) (p:Nat):Tr CV:=lrec (β:=Tr CV→Nat→Tr CV) (fun t _=>t) (fun a _ ih t p=>ih (t.set (some a) (Nat.succ p) p) (Nat.succ p)) m t p
noncomputable def putR (p:Nat) (m:CV) (r:Rw):Rw:=⟨r.n,putT m r.t p⟩
noncomputable def appR (r:Rw) (m:CV):Rw:=⟨Nat.add r.n (lenC m),putT m r.t r.n⟩
noncomputable def ofR (m:CV):Rw:=⟨lenC m,putT m .e 0⟩
theorem putT_get:∀ (m:CV) (t:Tr CV) (p i:Nat),(putT m t p).get i=if p≤i∧i<p+lenC m then nthC m (i - p) else t.get i:=by
 intro m
 induction m with
 | cons a b _ ih =>
   intro t p i
   show (putT b (t.set (some a) (Nat.succ p) p) (Nat.succ p)).get i=if p≤i∧i<p+Nat.succ (lenC b) then (bif Nat.beq (i - p) 0 then some a else nthC b (Nat.pred (i - p))) else t.get i
   rw [ih,Tr.get_set _ _ _ _ _ (Nat.lt_succ_self p)]
   by_cases h1:i=p
   · subst h1
     rw [if_neg (by omega),if_pos rfl,if_pos (by omega),Nat.sub_self]
     rfl
   · by_cases h2:p+1≤i∧i<p+1+lenC b
     · rw [if_pos (show Nat.succ p≤i∧i<Nat.succ p+lenC b from h2),if_pos (by omega)]
       have h3:Nat.beq (i - p) 0=false:=by
        cases hb:Nat.beq (i - p) 0 with
        | false=>rfl
        | true=>have:=Nat.eq_of_beq_eq_true hb;omega
       rw [h3]
       show nthC b (i - (p+1))=nthC b (i - p - 1)
       rw [Nat.sub_add_eq]
     · rw [if_neg (show ¬(Nat.succ p≤i∧i<Nat.succ p+lenC b) from h2),if_neg h1,if_neg (by omega)]
 | _=>intro t p i;exact (if_neg (show ¬(p≤i∧i<p+0) by omega)).symm
section
variable {nx:Nat} {ρ:Pl}
theorem mid_get {α:Type} {l n:List α} {p:Nat} (h:p+n.length≤l.length) (i:Nat):(l.take p++n++l.drop (p+n.length))[i]?=if p≤i∧i<p+n.length then n[i - p]? else l[i]?:=by
 have hl:(l.take p).length=p:=by rw [List.length_take];omega
 by_cases h1:i<p
 · rw [if_neg (by omega),List.append_assoc,List.getElem?_append_left (by omega),List.getElem?_take_of_lt h1]
 by_cases h2:i<p+n.length
 · rw [if_pos ⟨by omega,h2⟩,List.append_assoc,List.getElem?_append_right (by omega),hl,List.getElem?_append_left (by omega)]
 rw [if_neg (by omega),List.getElem?_append_right (by rw [List.length_append,hl];omega),List.length_append,hl,List.getElem?_drop]
 congr 1;omega
theorem putT_ok {m:CV} {t:Tr CV} {p:Nat} {vs us news:List Value} (hm:KL nx ρ m news) (ht:RT nx ρ t vs) (h1:∀ i,p≤i→i<p+news.length→us[i]?=news[i - p]?) (h2:∀ i v,¬(p≤i∧i<p+news.length)→vs[i]?=some v→us[i]?=some v):RT nx ρ (putT m t p) us:=fun i x hx=>by
 rw [putT_get,lenC_ok hm] at hx
 by_cases h:p≤i∧i<p+news.length
 · rw [if_pos h] at hx
   obtain ⟨v,e1,e2⟩:=nthC_ok hm hx
   exact ⟨v,by rw [h1 i h.1 h.2];exact e1,e2⟩
 rw [if_neg h] at hx
 obtain ⟨v,e1,e2⟩:=ht i x hx
 exact ⟨v,h2 i v h e1,e2⟩
theorem putR_ok {m:CV} {r:Rw} {p:Nat} {vs news:List Value} (hr:RL nx ρ r vs) (hm:KL nx ρ m news) (hp:p+news.length≤vs.length):RL nx ρ (putR p m r) (vs.take p++news++vs.drop (p+news.length)):=
 ⟨by show r.n=_;rw [hr.1];simp only [List.length_append,List.length_take,List.length_drop];omega,
  putT_ok hm hr.2 (fun i h1 h2=>by rw [mid_get hp,if_pos ⟨h1,h2⟩]) (fun i v h e=>by rw [mid_get hp,if_neg h];exact e)⟩
theorem appR_ok {m:CV} {r:Rw} {vs news:List Value} (hr:RL nx ρ r vs) (hm:KL nx ρ m news):RL nx ρ (appR r m) (vs++news):=
 ⟨by show r.n+lenC m=_;rw [hr.1,lenC_ok hm,List.length_append],
  putT_ok hm hr.2 (fun i h1 h2=>by rw [hr.1] at h1 ⊢;exact List.getElem?_append_right h1) (fun i v _ e=>by
   have:=(List.getElem?_eq_some_iff.1 e).1
   rw [List.getElem?_append_left this];exact e)⟩
theorem ofR_ok {m:CV} {vs:List Value} (hm:KL nx ρ m vs):RL nx ρ (ofR m) vs:=
 ⟨lenC_ok hm,putT_ok (vs:=[]) hm (fun i x hx=>by cases hx) (fun i _ h2=>by rw [Nat.sub_zero]) (fun i v _ e=>by cases e)⟩
theorem lenR_ok {r:Rw} {vs:List Value} (hr:RL nx ρ r vs):r.n=vs.length:=hr.1
theorem nthR_ok {r:Rw} {vs:List Value} (hr:RL nx ρ r vs) {k:Nat} {c:CV} (h:nthR r k=some c):∃ v,vs[k]?=some v∧Kn nx ρ c v:=hr.2 k c h
theorem sliceR_ok {r:Rw} {vs:List Value} (hr:RL nx ρ r vs):∀ {k o:Nat},lenC (sliceR r o k)=k→KL nx ρ (sliceR r o k) ((vs.drop o).take k):=by
 intro k
 induction k with
 | zero=>intro o h;exact KL.nil
 | succ k ih =>
   intro o h
   have hs:sliceR r o (k+1)=(match r.t.get o with | some a=>.cons a (sliceR r (o+1) k) | none=>.nil):=rfl
   rw [hs] at h ⊢
   split at h
   · rename_i a ha
     obtain ⟨v,e1,e2⟩:=hr.2 o a ha
     have h':lenC (sliceR r (o+1) k)=k:=Nat.succ.inj h
     obtain ⟨hl,hg⟩:=List.getElem?_eq_some_iff.1 e1
     rw [List.drop_eq_getElem_cons hl,hg,List.take_succ_cons]
     exact KL.cons e2 (ih h')
   cases h
end
noncomputable def ofB (l:List UInt8):CV:=List.rec .nil (fun b _ ih=>.cons (.int .u8 b.toNat) ih) l
noncomputable def ofV1:Value→Option CV
 | .int k n=>some (.int k n)
 | .bool b=>some (.bool b)
 | .pointer none=>some .nilp
 | .slice none n c=>bif Nat.beq n 0 && Nat.beq c 0 then some .nils else none
 | .map none=>some .nilm
 | .nilFunc=>some .nilf
 | .string ⟨⟨l⟩⟩=>some (.str (ofB l))
 | _=>none
noncomputable def ofL (l:List Value):Option CV:=List.rec (some .nil) (fun v _ ih=>match ofV1 v with | some a=>(match ih with | some b=>some (.cons a b) | none=>none) | none=>none) l
noncomputable def ofV:Value→Option CV
 | .agg ⟨l⟩=>match ofL l with | some x=>some (.agg x) | none=>none
 | .tuple ⟨l⟩=>match ofL l with | some x=>some (.tup x) | none=>none
 | v=>ofV1 v
section
variable {nx:Nat} {ρ:Pl}
theorem ofB_ok:∀ l:List UInt8,KL nx ρ (ofB l) (l.map fun b=>Value.int .u8 b.toNat):=by
 intro l
 induction l with
 | nil=>exact KL.nil
 | cons b l ih=>exact KL.cons ⟨trivial,rfl⟩ ih
theorem ofV1_ok {v:Value} {x:CV} (h:ofV1 v=some x):Kn nx ρ x v:=by
 unfold ofV1 at h
 split at h
 · cases h;exact ⟨trivial,rfl⟩
 · cases h;exact ⟨trivial,rfl⟩
 · cases h;exact ⟨trivial,rfl⟩
 · rename_i n c
   cases hb:Nat.beq n 0 && Nat.beq c 0 with
   | true =>
     rw [hb] at h
     cases h
     simp only [Bool.and_eq_true] at hb
     have e1:=Nat.eq_of_beq_eq_true hb.1
     have e2:=Nat.eq_of_beq_eq_true hb.2
     subst e1 e2
     exact ⟨trivial,rfl⟩
   | false=>rw [hb] at h;cases h
 · cases h;exact ⟨trivial,rfl⟩
 · cases h;exact ⟨trivial,rfl⟩
 · rename_i l
   cases h
   have:=ofB_ok (nx:=nx) (ρ:=ρ) l
   exact ⟨this.1,⟨_,l,this.2,rfl,rfl⟩⟩
 cases h
theorem ofL_ok:∀ {l:List Value} {x:CV},ofL l=some x→KL nx ρ x l:=by
 intro l
 induction l with
 | nil=>intro x h;cases h;exact KL.nil
 | cons v l ih =>
   intro x h
   have h':(match ofV1 v with | some a=>(match ofL l with | some b=>some (.cons a b) | none=>none) | none=>none)=some x:=h
   split at h'
   · rename_i a ha
     split at h'
     · rename_i b hb
       cases h'
       exact KL.cons (ofV1_ok ha) (ih hb)
     cases h'
   cases h'
theorem ofV_ok {v:Value} {x:CV} (h:ofV v=some x):Kn nx ρ x v:=by
 unfold ofV at h
 split at h
 · split at h
   · rename_i l y hy
     cases h
     have:=ofL_ok (nx:=nx) (ρ:=ρ) hy
     exact ⟨this.1,DV.agg.2 ⟨_,this.2,rfl⟩⟩
   cases h
 · split at h
   · rename_i l y hy
     cases h
     have:=ofL_ok (nx:=nx) (ρ:=ρ) hy
     exact ⟨this.1,DV.tup.2 ⟨_,this.2,rfl⟩⟩
   cases h
 exact ofV1_ok h
end
noncomputable def evo (E:Tr CV):Operand→Option CV
 | .tmp t=>E.get t
 | .const v=>ofV v
 | .func f=>some (.fn f .nil .nil)
 | .global _=>none
noncomputable def evos (E:Tr CV) (l:List Operand):Option CV:=List.rec (some .nil) (fun x _ ih=>match evo E x with | some a=>(match ih with | some b=>some (.cons a b) | none=>none) | none=>none) l
theorem Env.ofArgs_get:∀ (vs:List Value) (i j:Nat),(Env.ofArgs i vs).get (i+j)=vs[j]?
 | [],i,j=>rfl
 | v :: vs,i,j=>by
   show Env.get ((i,v) :: Env.ofArgs (i+1) vs) (i+j)=_
   rw [Env.get_cons]
   cases j with
   | zero=>simp
   | succ j =>
     rw [if_neg (by omega),show i+(j+1)=(i+1)+j by omega,Env.ofArgs_get vs (i+1) j]
     rfl
def eA (a:Act):Env:=Env.ofArgs 0 a.tmps.toList
theorem eA_get (a:Act) (i:Nat):(eA a).get i=a.tmps[i]?:=by
 have:=Env.ofArgs_get a.tmps.toList 0 i
 rw [Nat.zero_add] at this
 unfold eA
 rw [this,Array.getElem?_toList]
section
variable {nx n:Nat} {ρ:Pl} {E:Tr CV} {a:Act}
theorem evo_ok (h:Slots ρ E nx n a) {x:Operand} {c:CV} (hc:evo E x=some c):∃ v,(eA a).ev x=some v∧Kn nx ρ c v:=by
 cases x with
 | tmp t =>
   obtain ⟨v,h1,h2⟩:=h.2 t c hc
   exact ⟨v,by show (eA a).get t=_;rw [eA_get];exact h1,h2⟩
 | const v=>exact ⟨v,rfl,ofV_ok hc⟩
 | func f =>
   cases hc
   exact ⟨_,rfl,⟨⟨trivial,trivial⟩,DV.fn.2 ⟨[],[],rfl,rfl,rfl⟩⟩⟩
 | global g=>cases hc
theorem evos_ok (h:Slots ρ E nx n a):∀ {l:List Operand} {c:CV},evos E l=some c→∃ vs,(eA a).evs l=some vs∧KL nx ρ c vs:=by
 intro l
 induction l with
 | nil=>intro c hc;cases hc;exact ⟨[],rfl,KL.nil⟩
 | cons x l ih =>
   intro c hc
   have hc':(match evo E x with | some a=>(match evos E l with | some b=>some (.cons a b) | none=>none) | none=>none)=some c:=hc
   split at hc'
   · rename_i c1 h1
     split at hc'
     · rename_i c2 h2
       cases hc'
       obtain ⟨v,e1,k1⟩:=evo_ok h h1
       obtain ⟨vs,e2,k2⟩:=ih h2
       exact ⟨v :: vs,by unfold Env.evs;rw [e1,e2],KL.cons k1 k2⟩
     cases hc'
   cases hc'
theorem lookN (a:Act) (w:World):Look (eA a) [] (fun _=>none) a w:=
 ⟨fun i v h=>by rw [eA_get] at h;exact h,⟨fun t b o h=>(by cases h),fun t t' b o o' h=>(by cases h),fun b o h=>(by cases h),fun t b o h=>(by cases h)⟩⟩
theorem lookB (a:Act) {w:World} {b:Nat} {o:Obj} (hb:w.heap[b]?=some o):Look (eA a) [(0,some b,o)] (fun _=>none) a w:=
 ⟨fun i v h=>by rw [eA_get] at h;exact h,⟨fun t b' o' h=>(by
  rw [Hp.get_cons] at h
  split at h
  · cases h;exact hb
  · cases h),fun t t' b1 o1 o2 h h'=>(by
  rw [Hp.get_cons] at h h'
  split at h <;> split at h'
  · omega
  · cases h'
  · cases h
  cases h),fun b o h=>(by cases h),fun t b o h=>rfl⟩⟩
end
noncomputable def szQ (P:Program) (T:Nat):Option Nat:=match P.info? T with | some i=>some i.size | none=>none
noncomputable def agQ (P:Program) (T:Nat):Option Nat:=match szQ P T with | some k=>bif aggB P T k then some k else none | none=>none
noncomputable def foQ (P:Program) (s f:Nat):Option Nat:=match P.underlying s with
 | some (.struct ⟨fs⟩)=>match nth fs f with
   | some fd=>match szQ P fd.type with
     | some k=>bif Nat.beq k 0 then none else some fd.offset
     | none=>none
   | none=>none
 | _=>none
noncomputable def slQ (P:Program) (T:Nat):Option (Nat×Nat):=match P.underlying T with
 | some (.slice E)=>match szQ P E with | some k=>some (E,k) | none=>none
 | _=>none
theorem szQ_ok {P:Program} {T k:Nat} (h:szQ P T=some k):(P.info? T).map (·.size)=some k:=by
 unfold szQ at h
 split at h
 · rename_i i hi;rw [hi];exact h
 cases h
theorem agQ_ok {P:Program} {T k:Nat} (h:agQ P T=some k):aggB P T k=true:=by
 unfold agQ at h
 split at h
 · rename_i m hm
   cases hb:aggB P T m with
   | true=>rw [hb] at h;cases h;exact hb
   | false=>rw [hb] at h;cases h
 cases h
theorem slQ_ok {P:Program} {T E k:Nat} (h:slQ P T=some (E,k)):isSlice P T E k:=by
 unfold slQ at h
 split at h
 · rename_i E' hu
   split at h
   · rename_i m hm
     cases h
     exact ⟨hu,szQ_ok hm⟩
   cases h
 cases h
theorem foQ_ok {P:Program} {s f k:Nat} (h:foQ P s f=some k):FieldAt P s f k:=by
 unfold foQ at h
 split at h
 · rename_i fs hu
   split at h
   · rename_i fd hf
     split at h
     · rename_i m hm
       cases hb:Nat.beq m 0 with
       | true=>rw [hb] at h;cases h
       | false =>
         rw [hb] at h
         cases h
         intro b o w
         rw [nth_eq] at hf
         have h1:fs.toArray[f]?=some fd:=by simpa using hf
         have h2:=run_sizeOf (P:=P) w (szQ_ok hm)
         have h3:m≠0:=fun e=>by subst e;simp at hb
         simp only [Instr.fieldAt,Sem.run_bind,run_underlying hu,Result.andThen_ok,h1,Instr.sureAddr,Sem.run_pure,fieldPlace,h2,h3,if_false,add_lit]
     cases h
   cases h
 cases h
end Go.Sl.Ev
namespace Go.Sl.Ev
open Go Go.Sl
noncomputable def ieq (m n:Int):Bool:=Int.rec (fun a=>Int.rec (fun b=>Nat.beq a b) (fun _=>false) n) (fun a=>Int.rec (fun _=>false) (fun b=>Nat.beq a b) n) m
noncomputable def ile (m n:Int):Bool:=Int.rec (fun a=>Int.rec (fun b=>Nat.ble a b) (fun _=>false) n) (fun a=>Int.rec (fun _=>true) (fun b=>Nat.ble b a) n) m
theorem beq_decide (a b:Nat):Nat.beq a b=decide (a=b):=by
 cases h:Nat.beq a b with
 | true=>rw [Nat.eq_of_beq_eq_true h];simp
 | false => have:a≠b:=fun e=>by subst e;simp at h
            simp [this]
theorem ble_decide (a b:Nat):Nat.ble a b=decide (a≤b):=by
 cases h:Nat.ble a b with
 | true=>simp [Nat.le_of_ble_eq_true h]
 | false => have:¬a≤b:=fun e=>by rw [Nat.ble_eq_true_of_le e] at h;cases h
            simp [this]
theorem ieq_eq (m n:Int):ieq m n=decide (m=n):=by
 cases m <;> cases n
 · rename_i a b;show Nat.beq a b=_;rw [beq_decide];exact decide_eq_decide.2 ⟨fun h=>by rw [h],fun h=>Int.ofNat.inj h⟩
 · rename_i a b;show false=_;symm;rw [decide_eq_false_iff_not];intro h;cases h
 · rename_i a b;show false=_;symm;rw [decide_eq_false_iff_not];intro h;cases h
 rename_i a b;show Nat.beq a b=_;rw [beq_decide];exact decide_eq_decide.2 ⟨fun h=>by rw [h],fun h=>Int.negSucc.inj h⟩
theorem ile_eq (m n:Int):ile m n=decide (m≤n):=by
 cases m <;> cases n
 · rename_i a b;show Nat.ble a b=_;rw [ble_decide];exact decide_eq_decide.2 ⟨fun h=>Int.ofNat_le.2 h,fun h=>Int.ofNat_le.1 h⟩
 · rename_i a b;show false=_;symm;rw [decide_eq_false_iff_not];intro h;have:=Int.negSucc_lt_zero b;have:=Int.natCast_nonneg a;simp only [Int.ofNat_eq_natCast] at h;omega
 · rename_i a b;show true=_;symm;rw [decide_eq_true_eq];have:=Int.negSucc_lt_zero a;have:=Int.natCast_nonneg b;simp only [Int.ofNat_eq_natCast];omega
 rename_i a b;show Nat.ble b a=_;rw [ble_decide];exact decide_eq_decide.2 ⟨fun h=>by omega,fun h=>by omega⟩
noncomputable def wrN (lim a:Nat) (z w:Int):Int:=bif Nat.ble a lim then z else w
theorem wrN_eq {lim a:Nat} {z w:Int} (h:a≤lim→w=z):wrN lim a z w=w:=by
 unfold wrN
 cases hb:Nat.ble a lim with
 | true=>exact (h (Nat.le_of_ble_eq_true hb)).symm
 | false=>rfl
noncomputable def wr64 (z:Int):Int:=Int.rec (fun a=>wrN 9223372036854775807 a (.ofNat a) (IntKind.wrap .i64 (.ofNat a))) (fun a=>wrN 9223372036854775807 a (.negSucc a) (IntKind.wrap .i64 (.negSucc a))) z
noncomputable def wrU (lim:Nat) (k:IntKind) (z:Int):Int:=Int.rec (fun a=>wrN lim a (.ofNat a) (k.wrap (.ofNat a))) (fun a=>k.wrap (.negSucc a)) z
noncomputable def wr (k:IntKind) (z:Int):Int:=match k with
 | .i64=>wr64 z
 | .u64=>wrU 18446744073709551615 .u64 z
 | .u32=>wrU 4294967295 .u32 z
 | .u8=>wrU 255 .u8 z
 | k=>k.wrap z
theorem wr64_eq (z:Int):wr64 z=IntKind.wrap .i64 z:=by
 cases z with
 | ofNat a=>exact wrN_eq fun h=>IntWalk.i64_in _ (by simp only [Int.ofNat_eq_natCast];omega)
 | negSucc a=>exact wrN_eq fun h=>IntWalk.i64_in _ (by omega)
theorem wrU_eq {lim:Nat} {k:IntKind} (h:∀ a:Nat,a≤lim→k.wrap (.ofNat a)=.ofNat a) (z:Int):wrU lim k z=k.wrap z:=by
 cases z with
 | ofNat a=>exact wrN_eq (h a)
 | negSucc a=>exact Eq.refl (k.wrap (.negSucc a))
theorem wr_eq (k:IntKind) (z:Int):wr k z=k.wrap z:=by
 cases k
 case i64=>exact wr64_eq z
 case u64=>exact wrU_eq (fun a h=>IntWalk.u64_in _ (by simp only [Int.ofNat_eq_natCast];omega)) z
 case u32=>exact wrU_eq (fun a h=>by rw [IntKind.wrap_u32];simp only [Int.ofNat_eq_natCast];omega) z
 case u8=>exact wrU_eq (fun a h=>by rw [IntKind.wrap_u8];simp only [Int.ofNat_eq_natCast];omega) z
 all_goals exact Eq.refl _
noncomputable def bo (o:BinOp) (k:IntKind) (m n:Int):Option CV:=match o with
 | .eql=>some (.bool (ieq m n))
 | .neq=>some (.bool (not (ieq m n)))
 | .lss=>some (.bool (not (ile n m)))
 | .leq=>some (.bool (ile m n))
 | .gtr=>some (.bool (not (ile m n)))
 | .geq=>some (.bool (ile n m))
 | .add=>some (.int k (wr k (Int.add m n)))
 | .sub=>some (.int k (wr k (Int.sub m n)))
 | .mul=>some (.int k (wr k (Int.mul m n)))
 | .quo=>bif ieq n 0 then none else some (.int k (wr k (Int.tdiv m n)))
 | .rem=>bif ieq n 0 then none else some (.int k (Int.tmod m n))
 | .and=>some (.int k (bits .and k m n))
 | .or=>some (.int k (bits .or k m n))
 | _=>none
noncomputable def sh (o:BinOp) (k:IntKind) (m n:Int):Option CV:=match o with
 | .shl=>bif ile 0 n then some (.int k (wr k (Int.mul m (2 ^ (min n.toNat k.bits))))) else none
 | .shr=>bif ile 0 n then some (.int k (Int.fdiv m (2 ^ (min n.toNat k.bits)))) else none
 | _=>none
section
variable {P:Program} {e:Env} {H:Hp} {G:Imm} {ty t t':TypeId} {x y:Operand} {k k':IntKind} {m n:Int} {nx:Nat} {ρ:Pl} {c:CV}
theorem not_dec (p:Prop) [Decidable p]:(not (decide p))=decide (¬p):=by by_cases h:p <;> simp [h]
theorem bo_ok {o:BinOp} (hx:e.ev x=some (.int k m)) (hy:e.ev y=some (.int k n)) (h:bo o k m n=some c):∃ v,Kn nx ρ c v∧∀ ty,Qy P (.binOp o t x y t') ty e H G v:=by
 cases o <;> first | (cases h;done) | skip
 case eql=>cases h;exact ⟨_,⟨trivial,rfl⟩,fun ty=>by rw [ieq_eq];exact Qy.eql hx hy⟩
 case neq=>cases h;exact ⟨_,⟨trivial,rfl⟩,fun ty=>by rw [ieq_eq,not_dec];exact Qy.neq hx hy⟩
 case lss=>cases h;exact ⟨_,⟨trivial,rfl⟩,fun ty=>by rw [ile_eq,not_dec,show decide (¬n≤m)=decide (m<n) from decide_eq_decide.2 Int.not_le];exact Qy.lss hx hy⟩
 case leq=>cases h;exact ⟨_,⟨trivial,rfl⟩,fun ty=>by rw [ile_eq];exact Qy.leq hx hy⟩
 case gtr=>cases h;exact ⟨_,⟨trivial,rfl⟩,fun ty=>by rw [ile_eq,not_dec,show decide (¬m≤n)=decide (n<m) from decide_eq_decide.2 Int.not_le];exact Qy.gtr hx hy⟩
 case geq=>cases h;exact ⟨_,⟨trivial,rfl⟩,fun ty=>by rw [ile_eq];exact Qy.geq hx hy⟩
 case add=>cases h;exact ⟨_,⟨trivial,rfl⟩,fun ty=>by rw [wr_eq];exact Qy.addW hx hy⟩
 case sub=>cases h;exact ⟨_,⟨trivial,rfl⟩,fun ty=>by rw [wr_eq];exact Qy.subW hx hy⟩
 case mul=>cases h;exact ⟨_,⟨trivial,rfl⟩,fun ty=>by rw [wr_eq];exact Qy.mulW hx hy⟩
 case quo =>
  have h':(bif ieq n 0 then none else some (CV.int k (wr k (Int.tdiv m n))))=some c:=h
  have e:=ieq_eq n 0
  by_cases h0:n=0
  · rw [e,decide_eq_true h0] at h';cases h'
  rw [e,decide_eq_false h0] at h'
  cases h'
  exact ⟨_,⟨trivial,rfl⟩,fun ty=>by rw [wr_eq];exact Qy.quoW hx hy h0⟩
 case rem =>
  have h':(bif ieq n 0 then none else some (CV.int k (Int.tmod m n)))=some c:=h
  have e:=ieq_eq n 0
  by_cases h0:n=0
  · rw [e,decide_eq_true h0] at h';cases h'
  rw [e,decide_eq_false h0] at h'
  cases h'
  exact ⟨_,⟨trivial,rfl⟩,fun ty=>Qy.rem hx hy h0⟩
 case and=>cases h;exact ⟨_,⟨trivial,rfl⟩,fun ty=>Qy.andW hx hy⟩
 case or=>cases h;exact ⟨_,⟨trivial,rfl⟩,fun ty=>Qy.orW hx hy⟩
theorem sh_ok {o:BinOp} (hx:e.ev x=some (.int k m)) (hy:e.ev y=some (.int k' n)) (h:sh o k m n=some c):∃ v,Kn nx ρ c v∧∀ ty,Qy P (.binOp o t x y t') ty e H G v:=by
 cases o <;> first | (cases h;done) | skip
 case shl =>
  have h':(bif ile 0 n then some (CV.int k (wr k (Int.mul m (2 ^ (min n.toNat k.bits))))) else none)=some c:=h
  have e:=ile_eq 0 n
  by_cases h0:0≤n
  · rw [e,decide_eq_true h0] at h'
    cases h'
    exact ⟨_,⟨trivial,rfl⟩,fun ty=>by rw [wr_eq];exact Qy.shl hx hy h0⟩
  rw [e,decide_eq_false h0] at h';cases h'
 case shr =>
  have h':(bif ile 0 n then some (CV.int k (Int.fdiv m (2 ^ (min n.toNat k.bits)))) else none)=some c:=h
  have e:=ile_eq 0 n
  by_cases h0:0≤n
  · rw [e,decide_eq_true h0] at h'
    cases h'
    exact ⟨_,⟨trivial,rfl⟩,fun ty=>Qy.shr hx hy h0⟩
  rw [e,decide_eq_false h0] at h';cases h'
end
end Go.Sl.Ev
namespace Go.Sl.Ev
open Go Go.Sl
def LoP (e:Env) (d:Nat):Option Operand→Nat→Prop
 | none,l=>l=d
 | some y,l=>∃ k,e.ev y=some (.int k (l:Int))
section
variable {P:Program} {e:Env} {H:Hp} {G:Imm} {ty T:TypeId}
theorem Qy.fldOne {x:Operand} {fs:Array Field} {fd:Field} {i:Nat} {vs:List Value} {v:Value} (hu:P.underlying T=some (.struct fs)) (hf:fs[i]?=some fd) (h1:oneB P fd.type=true)
 (hx:e.ev x=some (.agg vs.toArray)) (hv:vs[fd.offset]?=some v):Qy P (.field T x i) ty e H G v:=fun a w _ _ _ _ hh=>by
 simp [execOp,hh.eval hx,Instr.field,run_underlying hu,hf,asAgg,part,run_isAgg_one w h1,hv]
theorem Qy.fldAgg {x:Operand} {fs:Array Field} {fd:Field} {i k:Nat} {vs:List Value} (hu:P.underlying T=some (.struct fs)) (hf:fs[i]?=some fd) (h1:aggB P fd.type k=true)
 (hx:e.ev x=some (.agg vs.toArray)):Qy P (.field T x i) ty e H G (.agg ((vs.drop fd.offset).take k).toArray):=fun a w _ _ _ _ hh=>by
 have h2:=run_sizeOf (P:=P) w (size_agg h1)
 simp [execOp,hh.eval hx,Instr.field,run_underlying hu,hf,asAgg,part,run_isAgg_agg w h1,h2]
theorem Qy.sliceAny {x:Operand} {lo hi:Option Operand} {a:Option Addr} {n c l h E sz:Nat} (hT:isSlice P T E sz) (hx:e.ev x=some (.slice a n c))
 (hl:LoP e 0 lo l) (hh:LoP e n hi h) (hlh:l≤h) (hhc:h≤c) :
 Qy P (.slice T x lo hi none) ty e H G (.slice (if c=l then a else a.map (·.add (l*sz))) (h - l) (c - l)):=fun ac w _ _ _ _ hk=>by
 have hr:=run_sizeOf (P:=P) w hT.2
 have e1:(h:Int)≤c:=by omega
 have e2:(l:Int)≤h:=by omega
 cases lo with
 | none =>
   have hl:l=0:=hl
   subst hl
   cases hi with
   | none=>have hh:h=n:=hh;subst hh;simp [execOp,Instr.sliceAt,Instr.slice,hk.eval hx,run_underlying hT.1,Instr.sliceBounds,Instr.sliceBound,asIntOf,hr]
   | some y =>
     obtain ⟨k,hy⟩:=hh
     simp [execOp,Instr.sliceAt,Instr.slice,hk.eval hx,hk.eval hy,run_underlying hT.1,Instr.sliceBounds,Instr.sliceBound,asIntOf,hr,e1,hhc]
 | some z =>
   obtain ⟨kz,hz⟩:=hl
   cases hi with
   | none =>
     have hh:h=n:=hh
     subst hh
     simp [execOp,Instr.sliceAt,Instr.slice,hk.eval hx,hk.eval hz,run_underlying hT.1,Instr.sliceBounds,Instr.sliceBound,asIntOf,hr,e2,hlh]
   | some y =>
     obtain ⟨k,hy⟩:=hh
     simp [execOp,Instr.sliceAt,Instr.slice,hk.eval hx,hk.eval hz,hk.eval hy,run_underlying hT.1,Instr.sliceBounds,Instr.sliceBound,asIntOf,hr,e1,e2,hlh,hhc]
theorem Qy.indexAddrP {x i:Operand} {b o n sz E:Nat} {k:IntKind} {m:Int} (hu:P.underlying T=some (.array n E)) (hs:(P.info? E).map (·.size)=some sz) (hx:e.ev x=some (.pointer (some ⟨b,o,none⟩))) (hi:e.ev i=some (.int k m))
 (hb:0≤m∧m<n):Qy P (.indexAddr T x i) ty e H G (.pointer (some ⟨b,o+m.toNat*sz,none⟩)):=fun a w _ _ _ _ hh=>by
 simp [execOp,Instr.indexAt,hh.eval hx,hh.eval hi,asIntOf,run_underlying hu,Instr.sureAddr,hb,run_sizeOf w hs,add_lit]
theorem Qy.indexV {x i:Operand} {n E:Nat} {k:IntKind} {m:Int} {vs:List Value} {v:Value} (hu:P.underlying T=some (.array n E)) (h1:oneB P E=true) (hs:(P.info? E).map (·.size)=some 1) (hx:e.ev x=some (.agg vs.toArray)) (hi:e.ev i=some (.int k m))
 (hb:0≤m∧m<n) (hv:vs[m.toNat]?=some v):Qy P (.index T x i) ty e H G v:=fun a w _ _ _ _ hh=>by
 simp [execOp,Instr.index,hh.eval hx,hh.eval hi,asIntOf,run_underlying hu,hb,run_sizeOf w hs,part,run_isAgg_one w h1,hv]
theorem Qy.indexVA {x i:Operand} {n E sz:Nat} {k:IntKind} {m:Int} {vs:List Value} (hu:P.underlying T=some (.array n E)) (h1:aggB P E sz=true) (hx:e.ev x=some (.agg vs.toArray)) (hi:e.ev i=some (.int k m))
 (hb:0≤m∧m<n):Qy P (.index T x i) ty e H G (.agg ((vs.drop (m.toNat*sz)).take sz).toArray):=fun a w _ _ _ _ hh=>by
 have h2:=run_sizeOf (P:=P) w (size_agg h1)
 simp [execOp,Instr.index,hh.eval hx,hh.eval hi,asIntOf,run_underlying hu,hb,h2,part,run_isAgg_agg w h1]
theorem Qy.lenS {x:Operand} {s:ByteArray} (ht:P.underlying T=some .string) (hx:e.ev x=some (.string s)):Qy P (.call { callee:=.builtin .len,args:=#[x],argTypes:=#[T] }) ty e H G (.int .i64 s.size):=fun a w _ _ _ _ hh=>by
 simp [execOp,resolve,invoke,builtin,Builtin.len_,hh.eval hx,run_underlying ht,goInt]
end
section
variable {P:Program} {e:Env} {H:Hp} {G:Imm} {ty T:TypeId}
theorem Qy.eqlPtrNil {t t':TypeId} {x y:Operand} {a:Option Addr} (ht:P.underlying t=some (.pointer (P.pointee t))) (hx:e.ev x=some (.pointer a)) (hy:e.ev y=some (.pointer none)):Qy P (.binOp .eql t x y t') ty e H G (.bool a.isNone):=fun w0 w _ _ _ _ hh=>by
 have:=run_equalIn_pointer_nil (P:=P) w 9999 t a ht
 simp [execOp,hh.eval hx,hh.eval hy,binOp,eqGuard,Op.equal,Op.maxDepth,this]
theorem Qy.neqPtrNil {t t':TypeId} {x y:Operand} {a:Option Addr} (ht:P.underlying t=some (.pointer (P.pointee t))) (hx:e.ev x=some (.pointer a)) (hy:e.ev y=some (.pointer none)):Qy P (.binOp .neq t x y t') ty e H G (.bool (!a.isNone)):=fun w0 w _ _ _ _ hh=>by
 have:=run_equalIn_pointer_nil (P:=P) w 9999 t a ht
 simp [execOp,hh.eval hx,hh.eval hy,binOp,eqGuard,Op.equal,Op.maxDepth,this]
theorem Qy.slice3 {x z:Operand} {lo hi:Option Operand} {a:Option Addr} {n c l h m E sz:Nat} {kz:IntKind} (hT:isSlice P T E sz) (hx:e.ev x=some (.slice a n c))
 (hl:LoP e 0 lo l) (hh:∃ y,hi=some y∧∃ k,e.ev y=some (.int k (h:Int))) (hz:e.ev z=some (.int kz (m:Int))) (hlh:l≤h) (hhm:h≤m) (hmc:m≤c) :
 Qy P (.slice T x lo hi (some z)) ty e H G (.slice (if m=l then a else a.map (·.add (l*sz))) (h - l) (m - l)):=fun ac w _ _ _ _ hk=>by
 have hr:=run_sizeOf (P:=P) w hT.2
 have e1:(h:Int)≤m:=by omega
 have e2:(l:Int)≤h:=by omega
 have e3:(m:Int)≤c:=by omega
 obtain ⟨y,rfl,k,hy⟩:=hh
 cases lo with
 | none =>
   have hl:l=0:=hl
   subst hl
   simp [execOp,Instr.sliceAt,Instr.slice,hk.eval hx,hk.eval hy,hk.eval hz,run_underlying hT.1,Instr.sliceBounds,Instr.sliceBound,asIntOf,hr,e1,e3,hhm,hmc]
 | some u =>
   obtain ⟨ku,hu⟩:=hl
   simp [execOp,Instr.sliceAt,Instr.slice,hk.eval hx,hk.eval hy,hk.eval hz,hk.eval hu,run_underlying hT.1,Instr.sliceBounds,Instr.sliceBound,asIntOf,hr,e1,e2,e3,hhm,hmc,hlh]
end
noncomputable def arQ (P:Program) (T:Nat):Option (Nat×Nat×Nat):=match P.underlying T with
 | some (.array n E)=>match szQ P E with | some k=>some (n,E,k) | none=>none
 | _=>none
theorem arQ_ok {P:Program} {T n E k:Nat} (h:arQ P T=some (n,E,k)):P.underlying T=some (.array n E)∧(P.info? E).map (·.size)=some k:=by
 unfold arQ at h
 split at h
 · rename_i n' E' hu
   split at h
   · rename_i m hm;cases h;exact ⟨hu,szQ_ok hm⟩
   cases h
 cases h
noncomputable def cellsC:CV→Option CV
 | .agg l=>some l
 | .tup _=>none
 | .nil=>none
 | .cons _ _=>none
 | x=>some (.cons x .nil)
section
variable {nx n:Nat} {ρ:Pl}
theorem cellsC_ok {x:CV} {v:Value} (h:Kn nx ρ x v) {l:CV} (hl:cellsC x=some l):KL nx ρ l v.cells.toList:=by
 have scal:∀ y:CV,isScal y=true→∀ u,Kn nx ρ y u→KL nx ρ (.cons y .nil) u.cells.toList:=fun y hy u hu=>by
  rw [cells_one (isScal_ok hu hy)];exact KL.cons hu KL.nil
 cases x with
 | agg m=>cases hl;obtain ⟨vs,h1,h2⟩:=DV.agg.1 h.2;rw [h2];exact ⟨h.1,h1⟩
 | tup m=>cases hl
 | nil=>cases hl
 | cons a b=>cases hl
 | _=>cases hl;exact scal _ rfl _ h
end
noncomputable def plQ (P:Program) (fs:List Field):Option (List (Nat×Nat)):=List.rec (some []) (fun f _ ih=>match szQ P f.type with | some k=>(match ih with | some l=>some ((f.offset,k) :: l) | none=>none) | none=>none) fs
theorem plQ_ok {P:Program}:∀ {fs:List Field} {pl:List (Nat×Nat)},plQ P fs=some pl→fs.map (fun f=>(f.offset,(P.info? f.type).map (·.size)))=pl.map fun x=>(x.1,some x.2):=by
 intro fs
 induction fs with
 | nil=>intro pl h;cases h;rfl
 | cons f fs ih =>
   intro pl h
   have h':(match szQ P f.type with | some k=>(match plQ P fs with | some l=>some ((f.offset,k) :: l) | none=>none) | none=>none)=some pl:=h
   split at h'
   · rename_i k hk
     split at h'
     · rename_i l hl
       cases h'
       rw [List.map_cons,List.map_cons,ih hl,szQ_ok hk]
     cases h'
   cases h'
noncomputable def zeQ (P:Program) (T:Nat):Option CV:=match P.info? T with
 | some i=>match i.zero with
   | some v=>match ofV v with
     | some x=>cellsC x
     | none=>none
   | none=>none
 | none=>none
theorem zeQ_ok {P:Program} {T:Nat} {x:CV} (h:zeQ P T=some x) (nx:Nat) (ρ:Pl):∃ i z,P.info? T=some i∧i.zero=some z∧KL nx ρ x z.cells.toList:=by
 unfold zeQ at h
 split at h
 · rename_i i hi
   split at h
   · rename_i v hv
     split at h
     · rename_i y hy
       exact ⟨i,v,hi,hv,cellsC_ok (ofV_ok hy) h⟩
     cases h
   cases h
 cases h
noncomputable def fillC (E:Tr CV) (pl:List (Nat×Nat)) (n:Nat) (parts:List (Nat×Operand)):CV→Option CV:=
 List.rec (fun l=>some l) (fun p _ ih l=>match nth pl p.1 with
  | some (off,size)=>(match evo E p.2 with
    | some c=>(match cellsC c with
      | some m=>bif Nat.beq (lenC m) size && Nat.ble (off+size) n then ih (appC (takeC off l) (appC m (dropC (off+size) l))) else none
      | none=>none)
    | none=>none)
  | none=>none) parts
section
variable {nx n:Nat} {ρ:Pl} {E:Tr CV} {a:Act}
theorem fillC_ok (hs:Slots ρ E nx n a) {pl:List (Nat×Nat)} {N:Nat}:∀ {parts:List (Nat×Operand)} {l r:CV} {zs:List Value},KL nx ρ l zs→fillC E pl N parts l=some r→
 ∃ vs,evParts (eA a) parts=some vs∧fillOk pl N vs=true∧KL nx ρ r (fillL pl zs vs):=by
 intro parts
 induction parts with
 | nil=>intro l r zs hl h;cases h;exact ⟨[],rfl,rfl,hl⟩
 | cons p parts ih =>
   intro l r zs hl h
   obtain ⟨i,x⟩:=p
   have h':(match nth pl i with
    | some (off,size)=>(match evo E x with
      | some c=>(match cellsC c with
        | some m=>bif Nat.beq (lenC m) size && Nat.ble (off+size) N then fillC E pl N parts (appC (takeC off l) (appC m (dropC (off+size) l))) else none
        | none=>none)
      | none=>none)
    | none=>none)=some r:=h
   split at h'
   · rename_i off size hp
     split at h'
     · rename_i c hc
       split at h'
       · rename_i m hm
         cases hb:Nat.beq (lenC m) size && Nat.ble (off+size) N with
         | true =>
           rw [hb] at h'
           simp only [Bool.and_eq_true] at hb
           obtain ⟨v,e1,k1⟩:=evo_ok hs hc
           have kc:=cellsC_ok k1 hm
           have hlen:v.cells.toList.length=size:=by rw [←lenC_ok kc];exact Nat.eq_of_beq_eq_true hb.1
           obtain ⟨vs,e2,o2,k2⟩:=ih (appC_ok (takeC_ok off hl) (appC_ok kc (dropC_ok (off+size) hl))) h'
           rw [nth_eq] at hp
           refine ⟨(i,v) :: vs,by unfold evParts;rw [e1,e2],?_,?_⟩
           · unfold fillOk
             rw [hp,o2,Bool.and_true,hlen]
             simp only [Bool.and_eq_true]
             exact ⟨by simp,hb.2⟩
           · unfold fillL
             rw [hp]
             simp only [hlen]
             exact k2
         | false=>rw [hb] at h';cases h'
       cases h'
     cases h'
   cases h'
end
noncomputable def chkF (P:Program) (fs:List Field):Nat→Bool:=List.rec (fun _=>true) (fun f _ ih j=>match fieldI64 P f with | (true,k)=>Nat.beq k j && ih (Nat.succ j) | _=>false) fs
theorem chkF_ok {P:Program}:∀ {fs:List Field} {j:Nat},chkF P fs j=true→fs.map (fieldI64 P)=(List.range' j fs.length).map fun i=>(true,i):=by
 intro fs
 induction fs with
 | nil=>intro j _;rfl
 | cons f fs ih =>
   intro j h
   have h':(match fieldI64 P f with | (true,k)=>Nat.beq k j && chkF P fs (Nat.succ j) | _=>false)=true:=h
   split at h'
   · rename_i k hk
     rw [Bool.and_eq_true] at h'
     have e:=Nat.eq_of_beq_eq_true h'.1
     subst e
     rw [List.map_cons,hk,List.length_cons,List.range'_succ,List.map_cons,ih h'.2]
   cases h'
noncomputable def aiQ (P:Program) (t:Nat):Option Nat:=match P.underlying t with
 | some (.struct ⟨fs⟩)=>bif not (P.stoodInHeld t) && (not (P.eqGuardType P.depth t) && chkF P fs 0) then some fs.length else none
 | _=>none
theorem aiQ_ok {P:Program} {t n:Nat} (h:aiQ P t=some n):AllInt P t n:=by
 unfold aiQ at h
 split at h
 · rename_i fs hu
   rcases bif_cases h with ⟨h1,h2⟩ | ⟨_,h2⟩
   · cases h2
     simp only [Bool.and_eq_true,Bool.not_eq_true'] at h1
     have hf:P.fieldsOf t=⟨fs⟩:=by unfold Program.fieldsOf;rw [hu]
     refine ⟨by rw [hf];exact hu,h1.1,h1.2.1,?_⟩
     rw [hf,chkF_ok h1.2.2,List.range_eq_range']
   cases h2
 cases h
noncomputable def intQ:CV→Option Int
 | .int .i64 n=>some n
 | _=>none
theorem intQ_ok {nx:Nat} {ρ:Pl} {a:CV} {v:Value} {n:Int} (h:intQ a=some n) (hk:Kn nx ρ a v):v=.int .i64 n:=by
 unfold intQ at h
 split at h
 · cases h;exact hk.2
 cases h
noncomputable def intsQ (l:CV):Option (List Int):=lrec (some []) (fun a _ ih=>match intQ a with | some n=>(match ih with | some l=>some (n :: l) | none=>none) | none=>none) l
theorem intsQ_ok {nx:Nat} {ρ:Pl} {x:CV} {vs:List Value} (h:KL nx ρ x vs):∀ {xs:List Int},intsQ x=some xs→vs=xs.map (Value.int .i64):=by
 refine KL.induct (motive:=fun x vs=>∀ {xs:List Int},intsQ x=some xs→vs=xs.map (Value.int .i64)) ?_ ?_ h
 · intro xs hx
   have hx':some []=some xs:=hx
   cases hx';rfl
 intro a b v vs hv _ ih xs hx
 have hx':(match intQ a with | some n=>(match intsQ b with | some l=>some (n :: l) | none=>none) | none=>none)=some xs:=hx
 split at hx'
 · rename_i n hn
   split at hx'
   · rename_i l hl
     cases hx'
     rw [List.map_cons,←ih hl,intQ_ok hn hv]
   cases hx'
 cases hx'
noncomputable def eqL (xs ys:List Int):Bool:=List.rec (fun ys=>List.rec true (fun _ _ _=>false) ys) (fun x _ ih ys=>List.rec false (fun y l _=>ieq x y && ih l) ys) xs ys
theorem eqL_eq:∀ xs ys:List Int,eqL xs ys=decide (xs=ys):=by
 intro xs
 induction xs with
 | nil=>intro ys;cases ys with
   | nil=>rfl
   | cons y ys=>show false=_;simp
 | cons x xs ih=>intro ys;cases ys with
   | nil=>show false=_;simp
   | cons y ys =>
     show (ieq x y && eqL xs ys)=_
     rw [ieq_eq,ih]
     by_cases h1:x=y <;> by_cases h2:xs=ys <;> simp [h1,h2]
noncomputable def eqC (P:Program) (t:Nat) (x y:CV):Option Bool:=match x,y with
 | .bool a,.bool b=>(match P.underlying t with | some .bool=>some (bif a then b else not b) | _=>none)
 | .agg a,.agg b=>(match aiQ P t with
   | some n=>(match intsQ a with
     | some xs=>(match intsQ b with
       | some ys=>bif Nat.beq xs.length n && Nat.beq ys.length n then some (eqL xs ys) else none
       | none=>none)
     | none=>none)
   | none=>none)
 | .sl _ _ _ _ _,.nils=>(match slQ P t with | some _=>some false | none=>none)
 | .nils,.nils=>(match slQ P t with | some _=>some true | none=>none)
 | .ptr _ _,.nilp=>(match P.underlying t with | some (.pointer _)=>some false | _=>none)
 | .nilp,.nilp=>(match P.underlying t with | some (.pointer _)=>some true | _=>none)
 | .fn _ _ _,.nilf=>bif isFuncT P t then some false else none
 | _,_=>none
theorem ptr_und {P:Program} {t u:Nat} (h:P.underlying t=some (.pointer u)):P.underlying t=some (.pointer (P.pointee t)):=by
 have:P.pointee t=u:=by unfold Program.pointee;rw [h]
 rw [this];exact h
section
variable {P:Program} {nx n:Nat} {ρ:Pl} {E:Tr CV} {a:Act} {e:Env} {H:Hp} {G:Imm}
theorem eqC_ok {t t':Nat} {x y:Operand} {cx cy:CV} {vx vy:Value} {b:Bool} (h:eqC P t cx cy=some b) (kx:Kn nx ρ cx vx) (ky:Kn nx ρ cy vy) (hx:e.ev x=some vx) (hy:e.ev y=some vy) :
 (∀ ty,Qy P (.binOp .eql t x y t') ty e H G (.bool b))∧(∀ ty,Qy P (.binOp .neq t x y t') ty e H G (.bool (not b))):=by
 unfold eqC at h
 split at h
 · rename_i p q
   split at h
   · rename_i hu
     cases h
     rw [DV.bool.1 kx.2] at hx
     rw [DV.bool.1 ky.2] at hy
     have e1:(bif p then q else not q)=decide (p=q):=by cases p <;> cases q <;> rfl
     refine ⟨fun ty=>by rw [e1];exact Qy.eqlB hu hx hy,fun ty=>?_⟩
     rw [e1,not_dec]
     exact Qy.neqB hu hx hy
   cases h
 · rename_i l m
   split at h
   · rename_i N hN
     split at h
     · rename_i xs hxs
       split at h
       · rename_i ys hys
         rcases bif_cases h with ⟨h1,h2⟩ | ⟨_,h2⟩
         · cases h2
           rw [Bool.and_eq_true] at h1
           obtain ⟨vs,k1,e1⟩:=DV.agg.1 kx.2
           obtain ⟨us,k2,e2⟩:=DV.agg.1 ky.2
           have kl1:KL nx ρ l vs:=⟨kx.1,k1⟩
           have kl2:KL nx ρ m us:=⟨ky.1,k2⟩
           have g1:=intsQ_ok kl1 hxs
           have g2:=intsQ_ok kl2 hys
           rw [e1,g1] at hx
           rw [e2,g2] at hy
           rw [eqL_eq]
           have hT:=aiQ_ok hN
           refine ⟨fun ty=>Qy.eqlI xs ys hT hx hy (Nat.eq_of_beq_eq_true h1.1) (Nat.eq_of_beq_eq_true h1.2),fun ty=>?_⟩
           rw [not_dec]
           exact Qy.neqI xs ys hT hx hy (Nat.eq_of_beq_eq_true h1.1) (Nat.eq_of_beq_eq_true h1.2)
         cases h2
       cases h
     cases h
   cases h
 · rename_i t1 o1 n1 s1 c1
   split at h
   · rename_i q hT
     obtain ⟨E',sz⟩:=q
     cases h
     have e2:=DV.nils.1 ky.2
     subst e2
     have hs:∃ c',vx=.slice (some ⟨(ρ t1).1,o1,none⟩) n1 c':=by
      cases c1 with
      | some c=>exact ⟨c,(DV.slS.1 kx.2).1⟩
      | none=>obtain ⟨c,h1,_⟩:=DV.slN.1 kx.2;exact ⟨c,h1⟩
     obtain ⟨c',rfl⟩:=hs
     refine ⟨fun ty=>?_,fun ty=>?_⟩
     · have:=Qy.eqlSliceNil (t':=t') (ty:=ty) (H:=H) (G:=G) (slQ_ok hT) hx hy;simpa using this
     have:=Qy.neqSliceNil (t':=t') (ty:=ty) (H:=H) (G:=G) (slQ_ok hT) hx hy;simpa using this
   cases h
 · split at h
   · rename_i q hT
     obtain ⟨E',sz⟩:=q
     cases h
     have e1:=DV.nils.1 kx.2
     have e2:=DV.nils.1 ky.2
     subst e1 e2
     refine ⟨fun ty=>?_,fun ty=>?_⟩
     · have:=Qy.eqlSliceNil (t':=t') (ty:=ty) (H:=H) (G:=G) (slQ_ok hT) hx hy;simpa using this
     have:=Qy.neqSliceNil (t':=t') (ty:=ty) (H:=H) (G:=G) (slQ_ok hT) hx hy;simpa using this
   cases h
 · split at h
   · rename_i u hu
     cases h
     have e1:=DV.ptr.1 kx.2
     have e2:=DV.nilp.1 ky.2
     subst e1 e2
     exact ⟨fun ty=>Qy.eqlPtrNil (ptr_und hu) hx hy,fun ty=>Qy.neqPtrNil (ptr_und hu) hx hy⟩
   cases h
 · split at h
   · rename_i u hu
     cases h
     have e1:=DV.nilp.1 kx.2
     have e2:=DV.nilp.1 ky.2
     subst e1 e2
     exact ⟨fun ty=>Qy.eqlPtrNil (ptr_und hu) hx hy,fun ty=>Qy.neqPtrNil (ptr_und hu) hx hy⟩
   cases h
 · rcases bif_cases h with ⟨h1,h2⟩ | ⟨_,h2⟩
   · cases h2
     obtain ⟨xs,ys,_,_,e1⟩:=DV.fn.1 kx.2
     have e2:vy=.nilFunc:=ky.2
     subst e1 e2
     exact ⟨fun ty=>Qy.eqlFuncNil h1 hx hy,fun ty=>Qy.neqFuncNil h1 hx hy⟩
   cases h2
 cases h
end
end Go.Sl.Ev
namespace Go.Sl.Ev
open Go Go.Sl
section gen
variable {κ:Type} [DecidableEq κ] [OneVal κ]
noncomputable def getM (eq:κ→κ→Bool) (k:κ) (l:List (κ×Int)):Option Int:=List.rec none (fun x _ ih=>bif eq x.1 k then some x.2 else ih) l
noncomputable def putM (eq:κ→κ→Bool) (k:κ) (v:Int) (l:List (κ×Int)):List (κ×Int):=List.rec [(k,v)] (fun x xs ih=>bif eq x.1 k then (x.1,v) :: xs else x :: ih) l
theorem getM_eq {eq:κ→κ→Bool} (he:∀ a b,eq a b=decide (a=b)) (k:κ) (l:List (κ×Int)):getM eq k l=mget l k:=by
 induction l with
 | nil=>rfl
 | cons x l ih =>
   show (bif eq x.1 k then some x.2 else getM eq k l)=_
   rw [he,ih]
   by_cases h:x.1=k
   · simp [mget,h]
   simp [mget,h]
theorem putM_eq {eq:κ→κ→Bool} (he:∀ a b,eq a b=decide (a=b)) (k:κ) (v:Int) (l:List (κ×Int)):putM eq k v l=mput l k v:=by
 induction l with
 | nil=>rfl
 | cons x l ih =>
   obtain ⟨k',u⟩:=x
   show (bif eq k' k then (k',v) :: l else (k',u) :: putM eq k v l)=_
   rw [he,ih]
   by_cases h:k'=k
   · simp [mput,h]
   simp [mput,h]
end gen
noncomputable def eqK (a b:K4):Bool:=ieq a.c b.c && (ieq a.b b.b && (ieq a.a b.a && ieq a.op b.op))
theorem eqK_eq (a b:K4):eqK a b=decide (a=b):=by
 cases a;cases b
 simp only [eqK,ieq_eq]
 rw [Bool.eq_iff_iff]
 simp only [Bool.and_eq_true,decide_eq_true_eq,K4.mk.injEq]
 constructor
 · rintro ⟨h1,h2,h3,h4⟩;exact ⟨h4,h3,h2,h1⟩
 rintro ⟨h1,h2,h3,h4⟩;exact ⟨h4,h3,h2,h1⟩
noncomputable def keyI (x:CV):Option Int:=match x with
 | .int .i64 n=>some n
 | _=>none
noncomputable def keyK (x:CV):Option K4:=match x with
 | .agg (.cons (.int .i64 a) (.cons (.int .i64 b) (.cons (.int .i64 c) (.cons (.int .i64 d) .nil))))=>some ⟨a,b,c,d⟩
 | _=>none
noncomputable def z0 (P:Program) (et:Nat):Bool:=match P.info? et with
 | some i=>match i.zero with | some (.int .i64 n)=>ieq n 0 | _=>false
 | none=>false
theorem z0_ok {P:Program} {et:Nat} (h:z0 P et=true) (w:World):(zeroValue et).run P w=.ok (.int .i64 0) w:=by
 unfold z0 at h
 split at h
 · rename_i i hi
   split at h
   · rename_i n hz
     rw [ieq_eq,decide_eq_true_eq] at h
     subst h
     simp [zeroValue,typeInfo,hi,hz]
   cases h
 cases h
noncomputable def mtI (P:Program) (T:Nat):Bool:=match P.underlying T with
 | some (.map kt et)=>match P.underlying kt with | some (.int .i64)=>z0 P et | _=>false
 | _=>false
noncomputable def mtK (P:Program) (T:Nat):Bool:=match P.underlying T with
 | some (.map kt et)=>match aiQ P kt with | some n=>Nat.beq n 4 && z0 P et | none=>false
 | _=>false
theorem mtI_ok {P:Program} {T:Nat} (h:mtI P T=true):∃ kt,MapT P T kt Int:=by
 unfold mtI at h
 split at h
 · rename_i kt et hT
   split at h
   · rename_i hk
     exact ⟨kt,⟨et,hT,z0_ok h⟩,KeyT.int hk⟩
   cases h
 cases h
theorem mtK_ok {P:Program} {T:Nat} (h:mtK P T=true):∃ kt,MapT P T kt K4:=by
 unfold mtK at h
 split at h
 · rename_i kt et hT
   split at h
   · rename_i n hk
     rw [Bool.and_eq_true] at h
     have:=Nat.eq_of_beq_eq_true h.1
     subst this
     exact ⟨kt,⟨et,hT,z0_ok h.2⟩,KeyT.k4 (aiQ_ok hk)⟩
   cases h
 cases h
noncomputable def laC (c:Bool) (r:Option Int):CV:=bif c then .tup (.cons (.int .i64 (match r with | some v=>v | none=>0)) (.cons (.bool (match r with | some _=>true | none=>false)) .nil)) else .int .i64 (match r with | some v=>v | none=>0)
section
variable {P:Program} {nx n:Nat} {ρ:Pl} {w:World}
theorem keyI_ok {x:CV} {n:Int} {v:Value} (h:keyI x=some n) (hk:Kn nx ρ x v):v=OneVal.val n:=by
 unfold keyI at h
 split at h
 · cases h;exact DV.int.1 hk.2
 cases h
theorem keyK_ok {x:CV} {n:K4} {v:Value} (h:keyK x=some n) (hk:Kn nx ρ x v):v=OneVal.val n:=by
 unfold keyK at h
 split at h
 · cases h
   obtain ⟨vs,h1,rfl⟩:=DV.agg.1 hk.2
   obtain ⟨v1,r1,rfl,g1,h1⟩:=DL.cons.1 h1
   obtain ⟨v2,r2,rfl,g2,h1⟩:=DL.cons.1 h1
   obtain ⟨v3,r3,rfl,g3,h1⟩:=DL.cons.1 h1
   obtain ⟨v4,r4,rfl,g4,h1⟩:=DL.cons.1 h1
   rw [DL.nil.1 h1,DV.int.1 g1,DV.int.1 g2,DV.int.1 g3,DV.int.1 g4]
   rfl
 cases h
theorem mp_inv {t:Nat} {v:Value} (hk:Kn nx ρ (.mp t) v):v=.map (some (ρ t).1):=DV.mp.1 hk.2
theorem kn_la {c:Bool} {r:Option Int}:Kn nx ρ (laC c r) (if c then .tuple #[.int .i64 (r.getD 0),.bool r.isSome] else .int .i64 (r.getD 0)):=by
 cases c with
 | false=>cases r <;> exact ⟨trivial,rfl⟩
 | true =>
   cases r with
   | none=>exact ⟨⟨trivial,trivial,trivial⟩,DV.tup.2 ⟨_,DL.cons.2 ⟨_,_,rfl,rfl,DL.cons.2 ⟨_,_,rfl,rfl,rfl⟩⟩,rfl⟩⟩
   | some v=>exact ⟨⟨trivial,trivial,trivial⟩,DV.tup.2 ⟨_,DL.cons.2 ⟨_,_,rfl,rfl,DL.cons.2 ⟨_,_,rfl,rfl,rfl⟩⟩,rfl⟩⟩
variable {κ:Type} [DecidableEq κ] [OneVal κ] {T kt:TypeId}
theorem run_lookup {r:Nat} {xs:List (κ×Int)} {k:κ} (hT:MapT P T kt κ) (hb:w.heap[r]?=some (mapObj xs)) (c:Bool):(Instr.lookup T (.map (some r)) (OneVal.val k) c).run P w =
 .ok (if c then .tuple #[.int .i64 ((mget xs k).getD 0),.bool (mget xs k).isSome] else .int .i64 ((mget xs k).getD 0)) w:=by
 obtain ⟨⟨et,hu,hz⟩,hk⟩:=hT
 simp only [Instr.lookup,Sem.run_bind,run_underlying hu,Result.andThen_ok,MapKept.run_getObj_map (P:=P) hb,Sem.run_pure,hk.check,hk.look]
 cases hm:mget xs k with
 | none=>rw [(mget_none xs k).1 hm];cases c <;> simp [hz]
 | some v=>obtain ⟨i,h1,_⟩:=mget_some xs k hm;rw [h1];cases c <;> simp
end
end Go.Sl.Ev
namespace Go.Sl.Ev
open Go Go.Sl
noncomputable def loC (E:Tr CV):Option Operand→Option Int
 | none=>some 0
 | some y=>match evo E y with | some (.int _ m)=>some m | _=>none
noncomputable def hiC (E:Tr CV) (n:Nat):Option Operand→Option Int
 | none=>some n
 | some y=>match evo E y with | some (.int _ m)=>some m | _=>none
noncomputable def cutC (t o n sz:Nat) (c:Option Nat) (l h:Int):Option CV:=
 bif ile 0 l && ile l h then
  (match c with
  | some c=>bif ile h c then
   (bif Nat.beq c l.toNat then some (.sl t o (Nat.sub h.toNat l.toNat) sz (some 0)) else some (.sl t (Nat.add o (Nat.mul l.toNat sz)) (Nat.sub h.toNat l.toNat) sz (some (Nat.sub c l.toNat)))) else none
  | none=>bif ile h n then
   (bif Nat.beq l.toNat 0 then some (.sl t o h.toNat sz none) else
    bif ile n l then some .sle else some (.sl t (Nat.add o (Nat.mul l.toNat sz)) (Nat.sub h.toNat l.toNat) sz none)) else none)
 else none
noncomputable def capOk (m:Int) (n:Nat):Option Nat→Bool
 | some c=>ile m c
 | none=>ile m n
noncomputable def rdT (E:Tr CV):Op→Option Nat
 | .load _ x=>match evo E x with | some (.ptr t _)=>some t | _=>none
 | .lookup _ x _ _=>match evo E x with | some (.mp t)=>some t | _=>none
 | _=>none
noncomputable def qv2 (P:Program) (E:Tr CV) (h:Tr CB) (c:Operand) (x:Operand) (y:Operand):Option CV:=match evo E c with | some (.bool b)=>evo E (bif b then x else y) | _=>none
noncomputable def qv3 (P:Program) (E:Tr CV) (h:Tr CB) (x:Operand):Option CV:=match evo E x with | some (.bool b)=>some (.bool (not b)) | _=>none
noncomputable def qv4 (P:Program) (E:Tr CV) (h:Tr CB) (x:Operand):Option CV:=match evo E x with | some (.int k m)=>some (.int k (wr k (0 - m))) | _=>none
noncomputable def qv5 (P:Program) (E:Tr CV) (h:Tr CB) (o:BinOp) (t:TypeId) (x:Operand) (y:Operand):Option CV:=match evo E x with
 | some (.int k m)=>match evo E y with
   | some (.int k' n)=>match sh o k m n with
     | some c=>some c
     | none=>bif ikB k k' then bo o k m n else none
   | _=>none
 | some a=>match evo E y with
   | some b=>match eqC P t a b with
     | some r=>(match o with | .eql=>some (.bool r) | .neq=>some (.bool (not r)) | _=>none)
     | none=>none
   | none=>none
 | none=>none
noncomputable def qv6 (P:Program) (E:Tr CV) (h:Tr CB) (s:TypeId) (t:TypeId) (x:Operand):Option CV:=match P.underlying t with
 | some (.int k')=>match P.underlying s with
   | some _=>match evo E x with | some (.int _ m)=>some (.int k' (wr k' m)) | _=>none
   | none=>none
 | _=>none
noncomputable def qv7 (P:Program) (E:Tr CV) (h:Tr CB) (x:Operand) (i:Nat):Option CV:=match evo E x with | some (.tup l)=>nthC l i | _=>none
noncomputable def qv8 (P:Program) (E:Tr CV) (h:Tr CB) (x:Operand):Option CV:=match evo E x with
 | some (.ptr t o)=>some (.ptr t o)
 | some (.mp t)=>some (.mp t)
 | some (.fn f a b)=>some (.fn f a b)
 | some (.yl t)=>some (.yl t)
 | _=>none
noncomputable def qv9 (P:Program) (E:Tr CV) (h:Tr CB) (s:TypeId) (x:Operand) (f:Nat):Option CV:=match evo E x with
 | some (.ptr t o)=>match foQ P s f with | some k=>some (.ptr t (Nat.add o k)) | none=>none
 | _=>none
noncomputable def qv10 (P:Program) (E:Tr CV) (h:Tr CB) (T:TypeId) (x:Operand) (i:Nat):Option CV:=match evo E x with
 | some (.agg l)=>match P.underlying T with
   | some (.struct ⟨fs⟩)=>match nth fs i with
     | some fd=>bif oneB P fd.type then nthC l fd.offset else (match agQ P fd.type with | some k=>some (.agg (takeC k (dropC fd.offset l))) | none=>none)
     | none=>none
   | _=>none
 | _=>none
noncomputable def qv11 (P:Program) (E:Tr CV) (h:Tr CB) (T:TypeId) (x:Operand):Option CV:=match evo E x with
 | some (.ptr t o)=>match h.get t with
   | some (.cells l _ _ _)=>bif oneB P T then nthR l o else
     (match agQ P T with
     | some k=>bif Nat.beq (lenC (sliceR l o k)) k then some (.agg (sliceR l o k)) else none
     | none=>none)
   | _=>none
 | _=>none
noncomputable def qv12 (P:Program) (E:Tr CV) (h:Tr CB) (f:Nat) (xs:List Operand) (ys:List Operand):Option CV:=match evos E xs with
 | some a=>match evos E ys with | some b=>some (.fn f a b) | none=>none
 | none=>none
noncomputable def qv13 (P:Program) (E:Tr CV) (h:Tr CB) (T:TypeId) (x:Operand) (i:Operand):Option CV:=match evo E i with
 | some (.int _ m)=>match evo E x with
   | some (.sl t o n sz _)=>match slQ P T with
     | some (_,sz')=>bif Nat.beq sz sz' && (ile 0 m && not (ile n m)) then some (.ptr t (Nat.add o (Nat.mul m.toNat sz'))) else none
     | none=>none
   | some (.ptr t o)=>match arQ P T with
     | some (n,_,sz)=>bif ile 0 m && not (ile n m) then some (.ptr t (Nat.add o (Nat.mul m.toNat sz))) else none
     | none=>none
   | _=>none
 | _=>none
noncomputable def qv14 (P:Program) (E:Tr CV) (h:Tr CB) (T:TypeId) (x:Operand) (i:Operand):Option CV:=match evo E i with
 | some (.int _ m)=>match evo E x with
   | some (.agg l)=>match arQ P T with
     | some (n,E',sz)=>bif Nat.beq sz 1 && (oneB P E' && (ile 0 m && not (ile n m))) then nthC l m.toNat else
      bif aggB P E' sz && (Nat.ble 1 sz && (ile 0 m && not (ile n m))) then some (.agg (takeC sz (dropC (Nat.mul m.toNat sz) l))) else none
     | none=>none
   | _=>none
 | _=>none
noncomputable def qv15 (P:Program) (E:Tr CV) (h:Tr CB) (T:TypeId) (x:Operand) (lo:Option Operand) (hi:Option Operand):Option CV:=match evo E x with
 | some (.sl t o n sz c)=>match slQ P T with
   | some (_,sz')=>bif Nat.beq sz sz' then (match loC E lo with
     | some l=>(match hiC E n hi with | some h=>cutC t o n sz c l h | none=>none)
     | none=>none) else none
   | none=>none
 | some .nils=>match slQ P T with
   | some _=>(match loC E lo with
     | some l=>(match hiC E 0 hi with | some h=>bif ieq l 0 && ieq h 0 then some .nils else none | none=>none)
     | none=>none)
   | none=>none
 | _=>none
noncomputable def qv16 (P:Program) (E:Tr CV) (h:Tr CB) (T:TypeId) (x:Operand) (lo:Option Operand) (y:Operand) (z:Operand):Option CV:=match evo E x with
 | some (.sl t o n sz c)=>match slQ P T with
   | some (_,sz')=>bif Nat.beq sz sz' then (match loC E lo with
     | some l=>(match hiC E n (some y) with
       | some h=>(match evo E z with
         | some (.int _ m)=>bif ile 0 l && (ile l h && (ile h m && capOk m n c)) then
          (bif Nat.beq m.toNat l.toNat then some (.sl t o (Nat.sub h.toNat l.toNat) sz (some 0)) else some (.sl t (Nat.add o (Nat.mul l.toNat sz)) (Nat.sub h.toNat l.toNat) sz (some (Nat.sub m.toNat l.toNat)))) else none
         | _=>none)
       | none=>none)
     | none=>none) else none
   | none=>none
 | some .nils=>match slQ P T with
   | some _=>(match loC E lo with
     | some l=>(match hiC E 0 (some y) with
       | some h=>(match evo E z with
         | some (.int _ m)=>bif ieq l 0 && (ieq h 0 && ieq m 0) then some .nils else none
         | _=>none)
       | none=>none)
     | none=>none)
   | none=>none
 | _=>none
noncomputable def qv17 (P:Program) (E:Tr CV) (h:Tr CB) (t:TypeId) (parts:List (Nat×Operand)):Option CV:=match P.underlying t with
 | some (.struct ⟨fs⟩)=>match plQ P fs with
   | some pl=>match zeQ P t with
     | some z=>match fillC E pl (lenC z) parts z with | some l=>some (.agg l) | none=>none
     | none=>none
   | none=>none
 | some (.array n E')=>match szQ P E' with
   | some sz=>match zeQ P t with
     | some z=>match fillC E (evenPl n sz) (lenC z) parts z with | some l=>some (.agg l) | none=>none
     | none=>none
   | none=>none
 | _=>none
noncomputable def qv18 (P:Program) (E:Tr CV) (h:Tr CB) (x:Operand) (T:TypeId):Option CV:=match evo E x with
 | some (.sl _ _ n _ _)=>match slQ P T with | some _=>some (.int .i64 n) | none=>none
 | some .nils=>match slQ P T with | some _=>some (.int .i64 0) | none=>none
 | some .sle=>match slQ P T with | some _=>some (.int .i64 0) | none=>none
 | some (.str s)=>match P.underlying T with | some .string=>some (.int .i64 (lenC s)) | _=>none
 | _=>none
noncomputable def qv19 (P:Program) (E:Tr CV) (h:Tr CB) (x:Operand) (T:TypeId):Option CV:=match evo E x with
 | some (.sl _ _ _ _ (some c))=>match slQ P T with | some _=>some (.int .i64 c) | none=>none
 | some .nils=>match slQ P T with | some _=>some (.int .i64 0) | none=>none
 | _=>none
noncomputable def qv20 (P:Program) (E:Tr CV) (h:Tr CB) (x:Operand) (y:Operand):Option CV:=match evo E x with
 | some (.int k m)=>match evo E y with | some (.int k' n)=>bif ikB k k' then some (.int k (bif ile m n then m else n)) else none | _=>none
 | _=>none
noncomputable def qv21 (P:Program) (E:Tr CV) (h:Tr CB) (x:Operand) (y:Operand):Option CV:=match evo E x with
 | some (.int k m)=>match evo E y with | some (.int k' n)=>bif ikB k k' then some (.int k (bif ile n m then m else n)) else none | _=>none
 | _=>none
noncomputable def qvL (P:Program) (E:Tr CV) (h:Tr CB) (T:TypeId) (x i:Operand) (c:Bool):Option CV:=match evo E x with
 | some (.mp t)=>match evo E i with
   | some k=>match h.get t with
     | some (.mapI l _)=>(match keyI k with | some n=>bif mtI P T then some (laC c (getM ieq n l)) else none | none=>none)
     | some (.mapK l _)=>(match keyK k with | some n=>bif mtK P T then some (laC c (getM eqK n l)) else none | none=>none)
     | _=>none
   | none=>none
 | _=>none
noncomputable def qv (P:Program) (E:Tr CV) (h:Tr CB):Op→Option CV
 | .move x=>evo E x
 | .assign x=>evo E x
 | .pick c x y=>qv2 P E h c x y
 | .unOp .not _ x=>qv3 P E h x
 | .unOp .neg _ x=>qv4 P E h x
 | .binOp o t x y _=>qv5 P E h o t x y
 | .convert s t x=>qv6 P E h s t x
 | .extract x i=>qv7 P E h x i
 | .nilCheck x=>qv8 P E h x
 | .fieldAddr s x f=>qv9 P E h s x f
 | .field T x i=>qv10 P E h T x i
 | .load T x=>qv11 P E h T x
 | .makeFunc (.func f) ⟨xs⟩ ⟨ys⟩=>qv12 P E h f xs ys
 | .indexAddr T x i=>qv13 P E h T x i
 | .index T x i=>qv14 P E h T x i
 | .slice T x lo hi none=>qv15 P E h T x lo hi
 | .slice T x lo (some y) (some z)=>qv16 P E h T x lo y z
 | .build t ⟨parts⟩=>qv17 P E h t parts
 | .call ⟨.builtin .len,⟨[x]⟩,⟨[T]⟩⟩=>qv18 P E h x T
 | .call ⟨.builtin .cap,⟨[x]⟩,⟨[T]⟩⟩=>qv19 P E h x T
 | .call ⟨.builtin .min,⟨[x,y]⟩,_⟩=>qv20 P E h x y
 | .call ⟨.builtin .max,⟨[x,y]⟩,_⟩=>qv21 P E h x y
 | .lookup T x i c=>qvL P E h T x i c
 | _=>none
end Go.Sl.Ev
namespace Go.Sl.Ev
open Go Go.Sl
def Yd (P:Program) (op:Op) (nx:Nat) (ρ:Pl) (E:Tr CV) (ob:Nat→Obj) (a:Act) (c:CV):Prop:=
 ∃ v,Kn nx ρ c v∧∀ (w:World),(∀ t,rdT E op=some t→w.heap[(ρ t).1]?=some (ob t))→∀ (dst:Option Tmp) (ty:TypeId) (pos:String) (after:Array Edge) (g:Option (Nat×Bool)),(execOp a.eval ⟨dst,op,ty,pos,after,g⟩).run P w=.ok (.value v) w
section
variable {P:Program} {op:Op} {nx n:Nat} {ρ:Pl} {E:Tr CV} {h:Tr CB} {ob:Nat→Obj} {a:Act} {c:CV}
theorem Yd.pure {v:Value} (hk:Kn nx ρ c v) (hq:∀ ty,Qy P op ty (eA a) [] (fun _=>none) v):Yd P op nx ρ E ob a c:=
 ⟨v,hk,fun w _ dst ty pos after g=>hq ty a w dst pos after g (lookN a w)⟩
theorem Yd.read {v:Value} {t:Nat} (ht:rdT E op=some t) (hk:Kn nx ρ c v) (hq:∀ ty,Qy P op ty (eA a) [(0,some (ρ t).1,ob t)] (fun _=>none) v):Yd P op nx ρ E ob a c:=
 ⟨v,hk,fun w hw dst ty pos after g=>hq ty a w dst pos after g (lookB a (hw t ht))⟩
theorem kn_int {k:IntKind} {m:Int}:Kn nx ρ (.int k m) (.int k m):=⟨trivial,rfl⟩
theorem kn_bool {b:Bool}:Kn nx ρ (.bool b) (.bool b):=⟨trivial,rfl⟩
theorem cutC_ok {t o m sz:Nat} {c:Option Nat} {l hi:Int} {r:CV} {v:Value} (hv:Kn nx ρ (.sl t o m sz c) v) (hr:cutC t o m sz c l hi=some r) :
 0≤l∧l≤hi∧∃ c',v=.slice (some ⟨(ρ t).1,o,none⟩) m c'∧hi.toNat≤c'∧Kn nx ρ r (.slice (if c'=l.toNat then some ⟨(ρ t).1,o,none⟩ else (some (⟨(ρ t).1,o,none⟩:Addr)).map (·.add (l.toNat*sz))) (hi.toNat - l.toNat) (c' - l.toNat)):=by
 unfold cutC at hr
 cases hb:ile 0 l && ile l hi with
 | false=>rw [hb] at hr;cases hr
 | true =>
   rw [hb] at hr
   simp only [cond_true] at hr
   simp only [Bool.and_eq_true,ile_eq,decide_eq_true_eq] at hb
   obtain ⟨h1,h2⟩:=hb
   refine ⟨h1,h2,?_⟩
   have hlh:l.toNat≤hi.toNat:=by omega
   cases c with
   | some c =>
     obtain ⟨e1,e2,e3,e4⟩:=DV.slS.1 hv.2
     simp only at hr
     cases hb2:ile hi c with
     | false=>rw [hb2] at hr;cases hr
     | true =>
       rw [hb2] at hr
       simp only [cond_true] at hr
       simp only [ile_eq,decide_eq_true_eq] at hb2
       have hhc:hi.toNat≤c:=by omega
       refine ⟨c,e1,hhc,?_⟩
       cases hb3:Nat.beq c l.toNat with
       | true =>
         rw [hb3] at hr
         cases hr
         have:=Nat.eq_of_beq_eq_true hb3
         rw [if_pos this]
         refine ⟨hv.1,DV.slS.2 ⟨?_,by omega,?_,by simp [maxLen]⟩⟩
         · rw [show c - l.toNat=0 by omega];rfl
         · show hi.toNat - l.toNat≤0;omega
       | false =>
         rw [hb3] at hr
         cases hr
         have hne:c≠l.toNat:=fun e=>by rw [e] at hb3;simp at hb3
         rw [if_neg hne]
         refine ⟨hv.1,DV.slS.2 ⟨?_,?_,?_,?_⟩⟩
         · show Value.slice (some (Addr.add ⟨(ρ t).1,o,none⟩ (l.toNat*sz))) _ _=_;rw [add_lit];rfl
         · show o+l.toNat*sz+(c - l.toNat)*sz≤_
           have:l.toNat*sz+(c - l.toNat)*sz=c*sz:=by rw [←Nat.add_mul];congr 1;omega
           omega
         · show hi.toNat - l.toNat≤c - l.toNat;omega
         · show c - l.toNat≤_;omega
   | none =>
     obtain ⟨c,e1,e2,e3,e4⟩:=DV.slN.1 hv.2
     simp only at hr
     cases hb2:ile hi m with
     | false=>rw [hb2] at hr;cases hr
     | true =>
       rw [hb2] at hr
       simp only [cond_true] at hr
       simp only [ile_eq,decide_eq_true_eq] at hb2
       refine ⟨c,e1,by omega,?_⟩
       cases hb3:Nat.beq l.toNat 0 with
       | true =>
         rw [hb3] at hr
         cases hr
         have h0:=Nat.eq_of_beq_eq_true hb3
         rw [h0]
         refine ⟨hv.1,DV.slN.2 ⟨c,?_,e2,by omega,e4⟩⟩
         show Value.slice (if c=0 then _ else some (Addr.add ⟨(ρ t).1,o,none⟩ (0*sz))) _ _=_
         rw [Nat.zero_mul,add_lit]
         simp
       | false =>
         rw [hb3] at hr
         simp only [cond_false] at hr
         cases hb4:ile m l with
         | true =>
           rw [hb4] at hr
           cases hr
           simp only [ile_eq,decide_eq_true_eq] at hb4
           exact ⟨trivial,_,_,by rw [show hi.toNat - l.toNat=0 by omega]⟩
         | false =>
           rw [hb4] at hr
           cases hr
           simp only [ile_eq,decide_eq_false_iff_not] at hb4
           rw [if_neg (by omega)]
           refine ⟨hv.1,DV.slN.2 ⟨c - l.toNat,?_,?_,?_,?_⟩⟩
           · show Value.slice (some (Addr.add ⟨(ρ t).1,o,none⟩ (l.toNat*sz))) _ _=_;rw [add_lit];rfl
           · show o+l.toNat*sz+(c - l.toNat)*sz=_
             have:l.toNat*sz+(c - l.toNat)*sz=c*sz:=by rw [←Nat.add_mul];congr 1;omega
             omega
           · show hi.toNat - l.toNat≤_;omega
           omega
theorem loC_ok (hs:Slots ρ E nx n a) {lo:Option Operand} {l:Int} (h:loC E lo=some l) (h0:0≤l):LoP (eA a) 0 lo l.toNat:=by
 cases lo with
 | none=>cases h;rfl
 | some y =>
   unfold loC at h
   simp only at h
   split at h
   · rename_i k m hy
     cases h
     obtain ⟨v,e1,k1⟩:=evo_ok hs hy
     rw [DV.int.1 k1.2] at e1
     exact ⟨k,by rw [Int.toNat_of_nonneg h0];exact e1⟩
   cases h
theorem hiC_ok (hs:Slots ρ E nx n a) {N:Nat} {lo:Option Operand} {l:Int} (h:hiC E N lo=some l) (h0:0≤l):LoP (eA a) N lo l.toNat:=by
 cases lo with
 | none=>cases h;rfl
 | some y =>
   unfold hiC at h
   simp only at h
   split at h
   · rename_i k m hy
     cases h
     obtain ⟨v,e1,k1⟩:=evo_ok hs hy
     rw [DV.int.1 k1.2] at e1
     exact ⟨k,by rw [Int.toNat_of_nonneg h0];exact e1⟩
   cases h
end
end Go.Sl.Ev
namespace Go.Sl.Ev
open Go Go.Sl
section
variable {P:Program} {op:Op} {nx n:Nat} {ρ:Pl} {E:Tr CV} {h:Tr CB} {ob:Nat→Obj} {a:Act} {c:CV}
theorem kn_agg {l:CV} {vs:List Value} (h:KL nx ρ l vs):Kn nx ρ (.agg l) (.agg vs.toArray):=⟨h.1,DV.agg.2 ⟨vs,h.2,rfl⟩⟩
theorem kn_agg_inv {l:CV} {v:Value} (h:Kn nx ρ (.agg l) v):∃ vs,KL nx ρ l vs∧v=.agg vs.toArray:=by
 obtain ⟨vs,h1,h2⟩:=DV.agg.1 h.2
 exact ⟨vs,⟨h.1,h1⟩,h2⟩
theorem kn_tup_inv {l:CV} {v:Value} (h:Kn nx ρ (.tup l) v):∃ vs,KL nx ρ l vs∧v=.tuple vs.toArray:=by
 obtain ⟨vs,h1,h2⟩:=DV.tup.1 h.2
 exact ⟨vs,⟨h.1,h1⟩,h2⟩
theorem kn_fn_inv {f:Nat} {x y:CV} {v:Value} (h:Kn nx ρ (.fn f x y) v):∃ xs ys,KL nx ρ x xs∧KL nx ρ y ys∧v=.func (.func f) xs.toArray ys.toArray:=by
 obtain ⟨xs,ys,h1,h2,h3⟩:=DV.fn.1 h.2
 exact ⟨xs,ys,⟨h.1.1,h1⟩,⟨h.1.2,h2⟩,h3⟩
theorem sl_inv {t o m sz:Nat} {cc:Option Nat} {v:Value} (h:Kn nx ρ (.sl t o m sz cc) v):∃ c',v=.slice (some ⟨(ρ t).1,o,none⟩) m c':=by
 cases cc with
 | some c=>exact ⟨c,(DV.slS.1 h.2).1⟩
 | none=>obtain ⟨c,h1,_⟩:=DV.slN.1 h.2;exact ⟨c,h1⟩
theorem in_bounds {m:Int} {N:Nat} (hb:(ile 0 m && not (ile N m))=true):0≤m∧m<N:=by
 simp only [Bool.and_eq_true,Bool.not_eq_true',ile_eq,decide_eq_true_eq,decide_eq_false_iff_not] at hb
 omega
theorem str_inv {s:CV} {v:Value} (h:Kn nx ρ (.str s) v):∃ bs:List UInt8,v=.string ⟨bs.toArray⟩∧KL nx ρ s (bs.map fun b=>Value.int .u8 b.toNat):=by
 obtain ⟨vs,bs,h1,h2,h3⟩:=h.2
 subst h2
 exact ⟨bs,h3,h.1,h1⟩
theorem qv_ok (hs:Slots ρ E nx n a) (hm:∀ t b,rdT E op=some t→h.get t=some b→DB nx ρ (ρ t).2 b (ob t)) (hq:qv P E h op=some c):Yd P op nx ρ E ob a c:=by
 unfold qv at hq
 unfold qv2 qv3 qv4 qv5 qv6 qv7 qv8 qv9 qv10 qv11 qv12 qv13 qv14 qv15 qv16 qv17 qv18 qv19 qv20 qv21 at hq
 split at hq
 · -- move
   obtain ⟨v,e1,k1⟩:=evo_ok hs hq
   exact Yd.pure k1 fun ty=>Qy.move e1
 · obtain ⟨v,e1,k1⟩:=evo_ok hs hq
   exact Yd.pure k1 fun ty=>Qy.assign e1
 · -- pick
   split at hq
   · rename_i b hb
     obtain ⟨v,e1,k1⟩:=evo_ok hs hb
     obtain ⟨u,e2,k2⟩:=evo_ok hs hq
     rw [DV.bool.1 k1.2] at e1
     exact Yd.pure k2 fun ty=>Qy.pick e1 e2
   cases hq
 · -- not
   split at hq
   · rename_i b hb
     cases hq
     obtain ⟨v,e1,k1⟩:=evo_ok hs hb
     rw [DV.bool.1 k1.2] at e1
     exact Yd.pure kn_bool fun ty=>Qy.not e1
   cases hq
 · -- neg
   split at hq
   · rename_i k m hb
     cases hq
     obtain ⟨v,e1,k1⟩:=evo_ok hs hb
     rw [DV.int.1 k1.2] at e1
     refine Yd.pure kn_int fun ty=>?_
     rw [wr_eq]
     exact Qy.negW e1
   cases hq
 · -- binOp
   split at hq
   · rename_i k m hx
     split at hq
     · rename_i k' n' hy
       obtain ⟨v,e1,k1⟩:=evo_ok hs hx
       obtain ⟨u,e2,k2⟩:=evo_ok hs hy
       rw [DV.int.1 k1.2] at e1
       rw [DV.int.1 k2.2] at e2
       split at hq
       · rename_i c' hc
         cases hq
         obtain ⟨v',hk,hq⟩:=sh_ok (P:=P) (H:=[]) (G:=fun _=>none) (nx:=nx) (ρ:=ρ) e1 e2 hc
         exact Yd.pure hk hq
       rcases bif_cases hq with ⟨hk,hr1⟩ | ⟨_,hr1⟩
       · have:=ikB_eq hk
         subst this
         obtain ⟨v',hk,hr1⟩:=bo_ok (P:=P) (H:=[]) (G:=fun _=>none) (nx:=nx) (ρ:=ρ) e1 e2 hr1
         exact Yd.pure hk hr1
       cases hr1
     cases hq
   · rename_i ca hne hx
     split at hq
     · rename_i cb hy
       split at hq
       · rename_i r hr
         obtain ⟨v,e1,k1⟩:=evo_ok hs hx
         obtain ⟨u,e2,k2⟩:=evo_ok hs hy
         have he:=fun t'=>eqC_ok (t':=t') (H:=[]) (G:=fun _=>none) hr k1 k2 e1 e2
         split at hq
         · cases hq;exact Yd.pure kn_bool (he _).1
         · cases hq;exact Yd.pure kn_bool (he _).2
         cases hq
       cases hq
     cases hq
   cases hq
 · -- convert
   split at hq
   · rename_i k' ht
     split at hq
     · rename_i d hd
       split at hq
       · rename_i k m hx
         cases hq
         obtain ⟨v,e1,k1⟩:=evo_ok hs hx
         rw [DV.int.1 k1.2] at e1
         refine Yd.pure kn_int fun ty=>?_
         rw [wr_eq]
         exact Qy.conv (by rw [hd];rfl) ht e1
       cases hq
     cases hq
   cases hq
 · -- extract
   split at hq
   · rename_i l hx
     obtain ⟨v,e1,k1⟩:=evo_ok hs hx
     obtain ⟨vs,k2,rfl⟩:=kn_tup_inv k1
     obtain ⟨u,e2,k3⟩:=nthC_ok k2 hq
     exact Yd.pure k3 fun ty=>Qy.extract e1 e2
   cases hq
 · -- nilCheck
   split at hq
   · rename_i t o hx
     cases hq
     obtain ⟨v,e1,k1⟩:=evo_ok hs hx
     have e2:=DV.ptr.1 k1.2
     subst e2
     exact Yd.pure k1 fun ty=>Qy.nilCheck e1
   · rename_i t hx
     cases hq
     obtain ⟨v,e1,k1⟩:=evo_ok hs hx
     have e2:=DV.mp.1 k1.2
     subst e2
     exact Yd.pure k1 fun ty=>Qy.nilCheckM e1
   · rename_i f x y hx
     cases hq
     obtain ⟨v,e1,k1⟩:=evo_ok hs hx
     obtain ⟨xs,ys,_,_,rfl⟩:=kn_fn_inv k1
     exact Yd.pure k1 fun ty=>Qy.nilCheckF e1
   · rename_i t hx
     cases hq
     obtain ⟨v,e1,k1⟩:=evo_ok hs hx
     have e2:v=.func (.yield (ρ t).1) #[] #[]:=k1.2
     subst e2
     exact Yd.pure k1 fun ty=>Qy.nilCheckY e1
   cases hq
 · -- fieldAddr
   split at hq
   · rename_i t o hx
     split at hq
     · rename_i k hk
       cases hq
       obtain ⟨v,e1,k1⟩:=evo_ok hs hx
       have e2:=DV.ptr.1 k1.2
       subst e2
       exact Yd.pure (c:=.ptr t (Nat.add o k)) ⟨k1.1,rfl⟩ fun ty=>Qy.fieldAddr (foQ_ok hk) e1
     cases hq
   cases hq
 · -- field
   split at hq
   · rename_i l hx
     obtain ⟨v,e1,k1⟩:=evo_ok hs hx
     obtain ⟨vs,k2,rfl⟩:=kn_agg_inv k1
     split at hq
     · rename_i fs hu
       split at hq
       · rename_i fd hf
         rw [nth_eq] at hf
         rcases bif_cases hq with ⟨h1,hr1⟩ | ⟨_,hr1⟩
         · obtain ⟨u,e2,k3⟩:=nthC_ok k2 hr1
           exact Yd.pure k3 fun ty=>Qy.fldOne hu (by simpa using hf) h1 e1 e2
         split at hr1
         · rename_i k hk
           cases hr1
           exact Yd.pure (kn_agg (takeC_ok k (dropC_ok fd.offset k2))) fun ty=>Qy.fldAgg hu (by simpa using hf) (agQ_ok hk) e1
         cases hr1
       cases hq
     cases hq
   cases hq
 · -- load
   rename_i T x
   split at hq
   · rename_i t o hx
     split at hq
     · rename_i l bt op' st hb
       obtain ⟨v,e1,k1⟩:=evo_ok hs hx
       have e2:=DV.ptr.1 k1.2
       subst e2
       have hrd:rdT E (.load T x)=some t:=by show (match evo E x with | some (.ptr t _)=>some t | _=>none)=some t;rw [hx]
       obtain ⟨vs,junk,kl,eo,_,_⟩:=hm t _ hrd hb
       rcases bif_cases hq with ⟨h1,hr1⟩ | ⟨_,hr1⟩
       · obtain ⟨u,e2,k3⟩:=nthR_ok kl hr1
         refine Yd.read hrd k3 fun ty=>Qy.load 0 h1 e1 (by rw [eo];rfl) ?_
         rw [List.getElem?_append_left (List.getElem?_eq_some_iff.1 e2).1];exact e2
       split at hr1
       · rename_i k hk
         rcases bif_cases hr1 with ⟨h2,hr2⟩ | ⟨_,hr2⟩
         · cases hr2
           have kk:=sliceR_ok kl (Nat.eq_of_beq_eq_true (by first | exact hb2 | exact h2 | exact hb | assumption))
           have hlen:=lenC_ok kk
           rw [Nat.eq_of_beq_eq_true h2] at hlen
           refine Yd.read hrd (kn_agg kk) fun ty=>Qy.loads 0 (agQ_ok hk) e1 (by rw [eo];rfl) ?_ hlen.symm
           have h3:o+k≤vs.length∨k=0:=by
            rw [List.length_take,List.length_drop] at hlen
            omega
           rcases h3 with h3 | h3
           · rw [List.drop_append_of_le_length (by omega),List.take_append_of_le_length (by rw [List.length_drop];omega)]
           subst h3;simp
         cases hr2
       cases hr1
     cases hq
   cases hq
 · -- makeFunc
   split at hq
   · rename_i x hx
     split at hq
     · rename_i y hy
       cases hq
       obtain ⟨us,e1,k1⟩:=evos_ok hs hx
       obtain ⟨vs,e2,k2⟩:=evos_ok hs hy
       exact Yd.pure ⟨⟨k1.1,k2.1⟩,DV.fn.2 ⟨us,vs,k1.2,k2.2,rfl⟩⟩ fun ty=>Qy.makeFunc e1 e2
     cases hq
   cases hq
 · -- indexAddr
   split at hq
   · rename_i k m hi
     obtain ⟨vi,ei,ki⟩:=evo_ok hs hi
     rw [DV.int.1 ki.2] at ei
     split at hq
     · rename_i t o N sz cc hx
       split at hq
       · rename_i E' sz' hT
         rcases bif_cases hq with ⟨h1,hr1⟩ | ⟨_,hr1⟩
         · cases hr1
           have h1':Nat.beq sz sz'=true∧(ile 0 m && not (ile N m))=true:=by simpa only [Bool.and_eq_true] using h1
           have:=Nat.eq_of_beq_eq_true h1'.1
           subst this
           obtain ⟨v,e1,k1⟩:=evo_ok hs hx
           obtain ⟨c',rfl⟩:=sl_inv k1
           exact Yd.pure (c:=.ptr t (Nat.add o (Nat.mul m.toNat sz))) ⟨k1.1,rfl⟩ fun ty=>Qy.indexAddr (slQ_ok hT) e1 ei (in_bounds h1'.2)
         cases hr1
       cases hq
     · rename_i t o hx
       split at hq
       · rename_i N E' sz hT
         rcases bif_cases hq with ⟨h1,hr1⟩ | ⟨_,hr1⟩
         · cases hr1
           obtain ⟨v,e1,k1⟩:=evo_ok hs hx
           have e2:=DV.ptr.1 k1.2
           subst e2
           exact Yd.pure (c:=.ptr t (Nat.add o (Nat.mul m.toNat sz))) ⟨k1.1,rfl⟩ fun ty=>Qy.indexAddrP (arQ_ok hT).1 (arQ_ok hT).2 e1 ei (in_bounds h1)
         cases hr1
       cases hq
     cases hq
   cases hq
 · -- index
   split at hq
   · rename_i k m hi
     obtain ⟨vi,ei,ki⟩:=evo_ok hs hi
     rw [DV.int.1 ki.2] at ei
     split at hq
     · rename_i l hx
       split at hq
       · rename_i N E' sz hT
         rcases bif_cases hq with ⟨h1,hr1⟩ | ⟨_,hr1⟩
         · have h1':Nat.beq sz 1=true∧oneB P E'=true∧(ile 0 m && not (ile N m))=true:=by simpa only [Bool.and_eq_true] using h1
           have:=Nat.eq_of_beq_eq_true h1'.1
           subst this
           obtain ⟨v,e1,k1⟩:=evo_ok hs hx
           obtain ⟨vs,k2,rfl⟩:=kn_agg_inv k1
           obtain ⟨u,e2,k3⟩:=nthC_ok k2 hr1
           exact Yd.pure k3 fun ty=>Qy.indexV (arQ_ok hT).1 h1'.2.1 (arQ_ok hT).2 e1 ei (in_bounds h1'.2.2) e2
         rcases bif_cases hr1 with ⟨h2,hr2⟩ | ⟨_,hr2⟩
         · have h2':aggB P E' sz=true∧Nat.ble 1 sz=true∧(ile 0 m && not (ile N m))=true:=by simpa only [Bool.and_eq_true] using h2
           cases hr2
           obtain ⟨v,e1,k1⟩:=evo_ok hs hx
           obtain ⟨vs,k2,rfl⟩:=kn_agg_inv k1
           exact Yd.pure (kn_agg (takeC_ok sz (dropC_ok (Nat.mul m.toNat sz) k2))) fun ty=>Qy.indexVA (arQ_ok hT).1 h2'.1 e1 ei (in_bounds h2'.2.2)
         cases hr2
       cases hq
     cases hq
   cases hq
 · -- slice
   split at hq
   · rename_i t o N sz cc hx
     split at hq
     · rename_i E' sz' hT
       rcases bif_cases hq with ⟨h1,hr1⟩ | ⟨_,hr1⟩
       · have:=Nat.eq_of_beq_eq_true h1
         subst this
         split at hr1
         · rename_i l hl
           split at hr1
           · rename_i hi hh
             obtain ⟨v,e1,k1⟩:=evo_ok hs hx
             obtain ⟨h2,h3,c',rfl,h4,k2⟩:=cutC_ok k1 hr1
             exact Yd.pure k2 fun ty=>Qy.sliceAny (slQ_ok hT) e1 (loC_ok hs hl h2) (hiC_ok hs hh (by omega)) (by omega) h4
           cases hr1
         cases hr1
       cases hr1
     cases hq
   · rename_i hx
     split at hq
     · rename_i x' hT
       obtain ⟨E',sz⟩:=x'
       split at hq
       · rename_i l hl
         split at hq
         · rename_i hi hh
           rcases bif_cases hq with ⟨h1,hr1⟩ | ⟨_,hr1⟩
           · cases hr1
             simp only [Bool.and_eq_true,ieq_eq,decide_eq_true_eq] at h1
             obtain ⟨rfl,rfl⟩:=h1
             obtain ⟨v,e1,k1⟩:=evo_ok hs hx
             have e2:=DV.nils.1 k1.2
             subst e2
             exact Yd.pure k1 fun ty=>Qy.sliceAny (slQ_ok hT) e1 (loC_ok hs hl (by omega)) (hiC_ok hs hh (by omega)) (Nat.le_refl _) (Nat.le_refl _)
           cases hr1
         cases hq
       cases hq
     cases hq
   cases hq
 · -- slice,its room too
   split at hq
   · rename_i t o N sz cc hx
     split at hq
     · rename_i E' sz' hT
       rcases bif_cases hq with ⟨h1,hr1⟩ | ⟨_,hr1⟩
       · have:=Nat.eq_of_beq_eq_true h1
         subst this
         split at hr1
         · rename_i l hl
           split at hr1
           · rename_i hi hh
             split at hr1
             · rename_i kz m hz
               rcases bif_cases hr1 with ⟨h2,hr2⟩ | ⟨_,hr2⟩
               · obtain ⟨v,e1,k1⟩:=evo_ok hs hx
                 obtain ⟨vz,ez,kkz⟩:=evo_ok hs hz
                 rw [DV.int.1 kkz.2] at ez
                 have h2':0≤l∧l≤hi∧hi≤m∧capOk m N cc=true:=by
                  simpa only [Bool.and_eq_true,ile_eq,decide_eq_true_eq] using h2
                 obtain ⟨q1,q2,q3,q4⟩:=h2'
                 have hC:∃ C,v=.slice (some ⟨(ρ t).1,o,none⟩) N C∧m.toNat≤C∧o+C*sz≤(ρ t).2∧C≤maxLen:=by
                  cases cc with
                  | some c =>
                    obtain ⟨g1,g2,g3,g4⟩:=DV.slS.1 k1.2
                    have q4':m≤(c:Int):=by
                     have q5:ile m c=true:=q4
                     simpa only [ile_eq,decide_eq_true_eq] using q5
                    exact ⟨c,g1,by omega,g2,g4⟩
                  | none =>
                    obtain ⟨c,g1,g2,g3,g4⟩:=DV.slN.1 k1.2
                    have q4':m≤(N:Int):=by
                     have q5:ile m N=true:=q4
                     simpa only [ile_eq,decide_eq_true_eq] using q5
                    exact ⟨c,g1,by omega,by omega,g4⟩
                 obtain ⟨C,rfl,hmC,hsz,hCm⟩:=hC
                 have hLh:=hiC_ok hs hh (show 0≤hi by omega)
                 have hQ:=fun ty=>Qy.slice3 (P:=P) (H:=[]) (G:=fun _=>none) (ty:=ty) (slQ_ok hT) e1 (loC_ok hs hl q1) (h:=hi.toNat) (m:=m.toNat) (kz:=kz) ⟨_,rfl,hLh⟩ (by rw [Int.toNat_of_nonneg (by omega)];exact ez) (by omega) (by omega) hmC
                 rcases bif_cases hr2 with ⟨h3,hr3⟩ | ⟨h3,hr3⟩
                 · cases hr3
                   have h3':=Nat.eq_of_beq_eq_true h3
                   refine Yd.pure ⟨k1.1,DV.slS.2 ⟨rfl,by omega,?_,by simp [maxLen]⟩⟩ fun ty=>?_
                   · show hi.toNat - l.toNat≤0;omega
                   have:=hQ ty
                   rw [if_pos h3',show m.toNat - l.toNat=0 by omega] at this
                   exact this
                 cases hr3
                 have h3':m.toNat≠l.toNat:=fun e=>by rw [e] at h3;simp at h3
                 refine Yd.pure ⟨k1.1,DV.slS.2 ⟨rfl,?_,?_,?_⟩⟩ fun ty=>?_
                 · show o+l.toNat*sz+(m.toNat - l.toNat)*sz≤_
                   have e1:l.toNat*sz+(m.toNat - l.toNat)*sz=m.toNat*sz:=by rw [←Nat.add_mul];congr 1;omega
                   have e2:m.toNat*sz≤C*sz:=Nat.mul_le_mul_right _ hmC
                   omega
                 · show hi.toNat - l.toNat≤m.toNat - l.toNat;omega
                 · show m.toNat - l.toNat≤_;omega
                 have:=hQ ty
                 rw [if_neg h3'] at this
                 show Qy P _ ty _ _ _ (.slice (some ⟨(ρ t).1,o+l.toNat*sz,none⟩) (hi.toNat - l.toNat) (m.toNat - l.toNat))
                 rw [←add_lit]
                 exact this
               cases hr2
             cases hr1
           cases hr1
         cases hr1
       cases hr1
     cases hq
   · rename_i hx
     split at hq
     · rename_i x' hT
       obtain ⟨E',sz⟩:=x'
       split at hq
       · rename_i l hl
         split at hq
         · rename_i hi hh
           split at hq
           · rename_i kz m hz
             rcases bif_cases hq with ⟨h1,hr1⟩ | ⟨_,hr1⟩
             · cases hr1
               simp only [Bool.and_eq_true,ieq_eq,decide_eq_true_eq] at h1
               obtain ⟨rfl,rfl,rfl⟩:=h1
               obtain ⟨v,e1,k1⟩:=evo_ok hs hx
               have e2:=DV.nils.1 k1.2
               subst e2
               obtain ⟨vz,ez,kkz⟩:=evo_ok hs hz
               rw [DV.int.1 kkz.2] at ez
               refine Yd.pure k1 fun ty=>?_
               have:=Qy.slice3 (P:=P) (H:=[]) (G:=fun _=>none) (ty:=ty) (slQ_ok hT) e1 (loC_ok hs hl (by omega)) (h:=0) (m:=0) (kz:=kz) ⟨_,rfl,hiC_ok hs hh (by omega)⟩ ez (Nat.le_refl _) (Nat.le_refl _) (Nat.le_refl _)
               exact this
             cases hr1
           cases hq
         cases hq
       cases hq
     cases hq
   cases hq
 · -- build
   rename_i t parts
   split at hq
   · rename_i fs hu
     split at hq
     · rename_i pl hpl
       split at hq
       · rename_i z hz
         split at hq
         · rename_i l hf
           cases hq
           obtain ⟨i,zv,hi,hzv,kz⟩:=zeQ_ok hz nx ρ
           obtain ⟨vs,e1,o1,k1⟩:=fillC_ok hs kz hf
           rw [lenC_ok kz] at o1
           refine Yd.pure (kn_agg k1) fun ty=>Qy.build (pl:=pl) (zs:=zv.cells.toList) ⟨zv,fs.toArray,hu,fun w=>?_,by simp,plQ_ok hpl⟩ e1 o1 rfl
           simp [zeroValue,typeInfo,hi,hzv]
         cases hq
       cases hq
     cases hq
   · rename_i N E' hu
     split at hq
     · rename_i sz hsz
       split at hq
       · rename_i z hz
         split at hq
         · rename_i l hf
           cases hq
           obtain ⟨i,zv,hi,hzv,kz⟩:=zeQ_ok hz nx ρ
           obtain ⟨vs,e1,o1,k1⟩:=fillC_ok hs kz hf
           rw [lenC_ok kz] at o1
           refine Yd.pure (kn_agg k1) fun ty=>Qy.buildA (n:=N) (sz:=sz) (zs:=zv.cells.toList) ⟨zv,E',hu,fun w=>?_,by simp,szQ_ok hsz⟩ e1 o1 rfl
           simp [zeroValue,typeInfo,hi,hzv]
         cases hq
       cases hq
     cases hq
   cases hq
 · -- len
   split at hq
   · rename_i t o N sz cc hx
     split at hq
     · rename_i x' hT
       obtain ⟨E',sz'⟩:=x'
       cases hq
       obtain ⟨v,e1,k1⟩:=evo_ok hs hx
       obtain ⟨c',rfl⟩:=sl_inv k1
       exact Yd.pure kn_int fun ty=>Qy.len (slQ_ok hT) e1
     cases hq
   · rename_i hx
     split at hq
     · rename_i x' hT
       obtain ⟨E',sz'⟩:=x'
       cases hq
       obtain ⟨v,e1,k1⟩:=evo_ok hs hx
       have e2:=DV.nils.1 k1.2
       subst e2
       exact Yd.pure kn_int fun ty=>Qy.len (slQ_ok hT) e1
     cases hq
   · rename_i hx
     split at hq
     · rename_i x' hT
       obtain ⟨E',sz'⟩:=x'
       cases hq
       obtain ⟨v,e1,k1⟩:=evo_ok hs hx
       obtain ⟨a',c',rfl⟩:=k1.2
       exact Yd.pure kn_int fun ty=>Qy.len (slQ_ok hT) e1
     cases hq
   · rename_i s hx
     split at hq
     · rename_i hT
       cases hq
       obtain ⟨v,e1,k1⟩:=evo_ok hs hx
       obtain ⟨bs,rfl,k2⟩:=str_inv k1
       have e3:=lenC_ok k2
       rw [List.length_map] at e3
       refine Yd.pure (v:=.int .i64 ((ByteArray.mk bs.toArray).size:Int)) ?_ fun ty=>Qy.lenS hT e1
       rw [show (ByteArray.mk bs.toArray).size=bs.length from by show bs.toArray.size=_;simp,←e3]
       exact kn_int
     cases hq
   cases hq
 · -- cap
   split at hq
   · rename_i t o N sz cc hx
     split at hq
     · rename_i x' hT
       obtain ⟨E',sz'⟩:=x'
       cases hq
       obtain ⟨v,e1,k1⟩:=evo_ok hs hx
       have e2:=(DV.slS.1 k1.2).1
       subst e2
       exact Yd.pure kn_int fun ty=>Qy.cap (slQ_ok hT) e1
     cases hq
   · rename_i hx
     split at hq
     · rename_i x' hT
       obtain ⟨E',sz'⟩:=x'
       cases hq
       obtain ⟨v,e1,k1⟩:=evo_ok hs hx
       have e2:=DV.nils.1 k1.2
       subst e2
       exact Yd.pure kn_int fun ty=>Qy.cap (slQ_ok hT) e1
     cases hq
   cases hq
 · -- min
   split at hq
   · rename_i k m hx
     split at hq
     · rename_i k' m' hy
       rcases bif_cases hq with ⟨h1,hr1⟩ | ⟨_,hr1⟩
       · have:=ikB_eq h1
         subst this
         cases hr1
         obtain ⟨v,e1,k1⟩:=evo_ok hs hx
         obtain ⟨u,e2,k2⟩:=evo_ok hs hy
         rw [DV.int.1 k1.2] at e1
         rw [DV.int.1 k2.2] at e2
         have e3:(bif ile m m' then m else m')=if m'<m then m' else m:=by
          rw [ile_eq]
          by_cases h2:m≤m'
          · simp [h2,Int.not_lt.2 h2]
          simp [h2,Int.not_le.1 h2]
         rw [e3]
         exact Yd.pure kn_int fun ty=>Qy.min e1 e2
       cases hr1
     cases hq
   cases hq
 · -- max
   split at hq
   · rename_i k m hx
     split at hq
     · rename_i k' m' hy
       rcases bif_cases hq with ⟨h1,hr1⟩ | ⟨_,hr1⟩
       · have:=ikB_eq h1
         subst this
         cases hr1
         obtain ⟨v,e1,k1⟩:=evo_ok hs hx
         obtain ⟨u,e2,k2⟩:=evo_ok hs hy
         rw [DV.int.1 k1.2] at e1
         rw [DV.int.1 k2.2] at e2
         have e3:(bif ile m' m then m else m')=if m<m' then m' else m:=by
          rw [ile_eq]
          by_cases h2:m'≤m
          · simp [h2,Int.not_lt.2 h2]
          simp [h2,Int.not_le.1 h2]
         rw [e3]
         exact Yd.pure kn_int fun ty=>Qy.max e1 e2
       cases hr1
     cases hq
   cases hq
 · -- lookup
   rename_i T x i cc
   unfold qvL at hq
   split at hq
   · rename_i t hx
     obtain ⟨v1,e1,k1⟩:=evo_ok hs hx
     have e1':=mp_inv k1
     subst e1'
     have hrd:rdT E (.lookup T x i cc)=some t:=by show (match evo E x with | some (.mp t)=>some t | _=>none)=some t;rw [hx]
     split at hq
     · rename_i k hi
       obtain ⟨v2,e2,k2⟩:=evo_ok hs hi
       split at hq
       · rename_i l st hb
         have hob:ob t=mapObj l:=hm t _ hrd hb
         split at hq
         · rename_i m hk
           rcases bif_cases hq with ⟨h1,hr⟩ | ⟨_,hr⟩
           · cases hr
             obtain ⟨kt,hT⟩:=mtI_ok h1
             have e3:=keyI_ok hk k2
             subst e3
             rw [getM_eq ieq_eq]
             refine ⟨_,kn_la,fun w hw dst ty pos after g=>?_⟩
             have hbk:=hw t hrd
             rw [hob] at hbk
             simp only [execOp,(lookN a w).eval e1,(lookN a w).eval e2,Sem.run_bind,run_lookup hT hbk cc,Result.andThen_ok,Sem.run_pure]
           cases hr
         cases hq
       · rename_i l st hb
         have hob:ob t=mapObj l:=hm t _ hrd hb
         split at hq
         · rename_i m hk
           rcases bif_cases hq with ⟨h1,hr⟩ | ⟨_,hr⟩
           · cases hr
             obtain ⟨kt,hT⟩:=mtK_ok h1
             have e3:=keyK_ok hk k2
             subst e3
             rw [getM_eq eqK_eq]
             refine ⟨_,kn_la,fun w hw dst ty pos after g=>?_⟩
             have hbk:=hw t hrd
             rw [hob] at hbk
             simp only [execOp,(lookN a w).eval e1,(lookN a w).eval e2,Sem.run_bind,run_lookup hT hbk cc,Result.andThen_ok,Sem.run_pure]
           cases hr
         cases hq
       cases hq
     cases hq
   cases hq
 cases hq
end
end Go.Sl.Ev
namespace Go.Sl.Ev
open Go Go.Sl
noncomputable def Fit:Nat:=1000000000
theorem fit_eq:Fit=1000000000:=rfl
structure OldX (X:Nat→Prop) (ρ:Pl) (h:Tr CB) (nx:Nat) (w:World) (ρ':Pl) (h':Tr CB) (w':World):Prop where
 old:∀ t b,h'.get t=some b→stB b<nx→h.get t=some b∧w'.heap[(ρ t).1]?=w.heap[(ρ t).1]?
 fr:∀ p,p<w.heap.size→(∀ t b,h.get t=some b→(ρ t).1≠p)→¬X p→w'.heap[p]?=w.heap[p]?
 nw:∀ t b,h'.get t=some b→w.heap.size≤(ρ' t).1∨∃ t' b',h.get t'=some b'∧(ρ t').1=(ρ' t).1
 sz:w.heap.size≤w'.heap.size
abbrev Old:=OldX (fun _=>False)
section
variable {ρ ρ':Pl} {Φ:Imm→Prop} {w0:Bas Φ} {w w' w'':World} {h h' h'':Tr CB} {nx nx':Nat}
theorem OldX.refl {X:Nat→Prop}:OldX X ρ h nx w ρ h w:=⟨fun t b hb _=>⟨hb,rfl⟩,fun _ _ _ _=>rfl,fun t b hb=>.inr ⟨t,b,hb,rfl⟩,Nat.le_refl _⟩
theorem Mem.lt (hm:Mem ρ w0 h nx w) {t:Nat} {b:CB} (ht:h.get t=some b):(ρ t).1<w.heap.size:=by
 obtain ⟨_,_,_,o,h1,_⟩:=hm.own t b ht
 exact (Array.getElem?_eq_some_iff.1 h1).1
theorem Mem.klt (hm:Mem ρ w0 h nx w) {b:Nat} (hb:b∈w0.ks):b<w.heap.size:=(Array.getElem?_eq_some_iff.1 (hm.kept b hb).2.1).1
theorem OldX.transX {X:Nat→Prop} {ρ2:Pl} (hm:Mem ρ w0 h nx w) (k1:Old ρ h nx w ρ' h' w') (k2:OldX X ρ' h' nx' w' ρ2 h'' w'') (hX:∀ p,X p→w.heap.size≤p) (hn:nx≤nx') (he:Ext nx ρ ρ'):Old ρ h nx w ρ2 h'' w'':=by
 refine ⟨fun t b hb hs=>?_,fun p hp hu _=>?_,fun t b hb=>?_,Nat.le_trans k1.sz k2.sz⟩
 · obtain ⟨a1,a2⟩:=k2.old t b hb (Nat.lt_of_lt_of_le hs hn)
   obtain ⟨b1,b2⟩:=k1.old t b a1 hs
   have e:=he t (hm.own t b b1).1
   rw [e] at a2
   exact ⟨b1,a2.trans b2⟩
 · refine (k2.fr p (Nat.lt_of_lt_of_le hp k1.sz) (fun t b hb e=>?_) (fun hx=>Nat.lt_irrefl _ (Nat.lt_of_lt_of_le hp (hX p hx)))).trans (k1.fr p hp hu id)
   rcases k1.nw t b hb with h1 | ⟨t',b',h1,h2⟩
   · omega
   exact hu t' b' h1 (h2.trans e)
 rcases k2.nw t b hb with h1 | ⟨t',b',h1,h2⟩
 · exact .inl (Nat.le_trans k1.sz h1)
 rw [←h2];exact k1.nw t' b' h1
theorem OldX.trans {ρ2:Pl} (hm:Mem ρ w0 h nx w) (k1:Old ρ h nx w ρ' h' w') (k2:Old ρ' h' nx' w' ρ2 h'' w'') (hn:nx≤nx') (he:Ext nx ρ ρ'):Old ρ h nx w ρ2 h'' w'':=OldX.transX hm k1 k2 (fun _ h=>h.elim) hn he
theorem Mem.new (hm:Mem ρ w0 h nx w) (hf:nx<Fit) {b:CB} {o:Obj} {s:Nat} (hst:stB b=nx) (hu:Upd (fun _=>False) w w') (hs:w'.heap.size=w.heap.size+1) (ho:w'.heap[w.heap.size]?=some o) (hb:DB nx ρ s b o) :
 ∃ ρ',Ext nx ρ ρ'∧ρ' nx=(w.heap.size,s)∧Mem ρ' w0 (h.set (some b) Fit nx) (nx+1) w'∧Old ρ h nx w ρ' (h.set (some b) Fit nx) w':=by
 have hext:Ext nx ρ (fun t=>if t=nx then (w.heap.size,s) else ρ t):=fun t ht=>by simp [Nat.ne_of_lt ht]
 have get:=fun j=>Tr.get_set (some b) Fit h nx j hf
 refine ⟨fun t=>if t=nx then (w.heap.size,s) else ρ t,hext,by simp,⟨hm.upd.trans hu,?_,?_,hm.imm,hm.nod,fun c hc=>?_⟩,?_⟩
 · intro t b' ht
   rw [get] at ht
   by_cases e:t=nx
   · subst e
     rw [if_pos rfl] at ht
     cases ht
     simp only [if_true]
     exact ⟨by omega,by omega,hm.upd.size,o,ho,hb.up (Nat.le_succ _) hext⟩
   rw [if_neg e] at ht
   obtain ⟨h1,hs1,h2,o',h3,h4⟩:=hm.own t b' ht
   simp only [e,if_false]
   refine ⟨by omega,by omega,h2,o',?_,h4.up (Nat.le_succ _) hext⟩
   rw [hu.same _ (hm.lt ht) id];exact h3
 · intro t t' b1 b2 h1 h2 he
   rw [get] at h1 h2
   by_cases e:t=nx <;> by_cases e':t'=nx
   · rw [e,e']
   · rw [if_neg e'] at h2
     have:=hm.lt h2
     simp only [e,e',if_true,if_false] at he
     omega
   · rw [if_neg e] at h1
     have:=hm.lt h1
     simp only [e,e',if_true,if_false] at he
     omega
   rw [if_neg e] at h1
   rw [if_neg e'] at h2
   simp only [e,e',if_false] at he
   exact hm.one t t' b1 b2 h1 h2 he
 · obtain ⟨k1,k2,k3⟩:=hm.kept c hc
   have hl:=hm.klt hc
   refine ⟨k1,(hu.same _ hl id).trans k2,fun t b' ht=>?_⟩
   rw [get] at ht
   by_cases e:t=nx
   · simp only [e,if_true];omega
   rw [if_neg e] at ht
   simp only [e,if_false]
   exact k3 t b' ht
 refine ⟨fun t b' hb' hst'=>?_,fun p hp _ _=>hu.same _ hp id,fun t b' hb'=>?_,hu.size⟩
 · rw [get] at hb'
   by_cases e:t=nx
   · rw [if_pos e] at hb';cases hb';omega
   rw [if_neg e] at hb'
   exact ⟨hb',hu.same _ (hm.lt hb') id⟩
 rw [get] at hb'
 by_cases e:t=nx
 · simp only [e,if_true];exact .inl (Nat.le_refl _)
 rw [if_neg e] at hb'
 simp only [e,if_false];exact .inr ⟨t,b',hb',rfl⟩
theorem Mem.write (hm:Mem ρ w0 h nx w) (hf:nx≤Fit) {t:Nat} {b b':CB} {o:Obj} (hst:stB b'=nx) (ht:h.get t=some b) (hu:Upd (·=(ρ t).1) w w') (ho:w'.heap[(ρ t).1]?=some o) (hb:DB nx ρ (ρ t).2 b' o) :
 Mem ρ w0 (h.set (some b') Fit t) (nx+1) w'∧Old ρ h nx w ρ (h.set (some b') Fit t) w':=by
 obtain ⟨h1,hs1,h2,_⟩:=hm.own t b ht
 have get:=fun j=>Tr.get_set (some b') Fit h t j (by omega)
 refine ⟨⟨⟨hu.os.trans hm.upd.os,hu.tape.trans hm.upd.tape,hu.output.trans hm.upd.output,Nat.le_trans hm.upd.size hu.size,fun k hk hx=>?_⟩,?_,?_,hm.imm,hm.nod,fun c hc=>?_⟩,?_⟩
 · exact (hu.same k (Nat.lt_of_lt_of_le hk hm.upd.size) (by omega)).trans (hm.upd.same k hk hx)
 · intro t' c hc
   rw [get] at hc
   by_cases e:t'=t
   · subst e
     rw [if_pos rfl] at hc
     cases hc
     exact ⟨by omega,by omega,h2,o,ho,hb.up (Nat.le_succ _) (Ext.refl _ _)⟩
   rw [if_neg e] at hc
   obtain ⟨g1,gs,g2,o',g3,g4⟩:=hm.own t' c hc
   refine ⟨by omega,by omega,g2,o',?_,g4.up (Nat.le_succ _) (Ext.refl _ _)⟩
   rw [hu.same _ (hm.lt hc) (fun e2=>e (hm.one t' t c b hc ht e2))];exact g3
 · intro t1 t2 b1 b2 e1 e2 he
   have f:∀ t' c,(h.set (some b') Fit t).get t'=some c→∃ c',h.get t'=some c':=fun t' c hc=>by
    rw [get] at hc
    by_cases e:t'=t
    · subst e;exact ⟨b,ht⟩
    rw [if_neg e] at hc;exact ⟨c,hc⟩
   obtain ⟨c1,g1⟩:=f t1 b1 e1
   obtain ⟨c2,g2⟩:=f t2 b2 e2
   exact hm.one t1 t2 c1 c2 g1 g2 he
 · obtain ⟨k1,k2,k3⟩:=hm.kept c hc
   refine ⟨k1,(hu.same _ (hm.klt hc) (fun e=>k3 t b ht e.symm)).trans k2,fun t' b' ht'=>?_⟩
   rw [get] at ht'
   by_cases e:t'=t
   · subst e;exact k3 _ _ ht
   rw [if_neg e] at ht';exact k3 _ _ ht'
 refine ⟨fun t' c hc hs'=>?_,fun p hp hup _=>hu.same _ hp (fun e=>hup t b ht e.symm),fun t' c hc=>?_,hu.size⟩
 · rw [get] at hc
   by_cases e:t'=t
   · rw [if_pos e] at hc;cases hc;omega
   rw [if_neg e] at hc
   exact ⟨hc,hu.same _ (hm.lt hc) (fun e2=>e (hm.one t' t c b hc ht e2))⟩
 rw [get] at hc
 by_cases e:t'=t
 · exact .inr ⟨t,b,ht,by rw [e]⟩
 rw [if_neg e] at hc;exact .inr ⟨t',c,hc,rfl⟩
theorem Mem.kill (hm:Mem ρ w0 h nx w) (hf:nx≤Fit) {t:Nat} (ht:t<nx):Mem ρ w0 (h.set none Fit t) nx w∧Old ρ h nx w ρ (h.set none Fit t) w:=by
 have get:=fun j=>Tr.get_set (none:Option CB) Fit h t j (by omega)
 have f:∀ t' c,(h.set none Fit t).get t'=some c→h.get t'=some c:=fun t' c hc=>by
  rw [get] at hc
  by_cases e:t'=t
  · rw [if_pos e] at hc;cases hc
  rw [if_neg e] at hc;exact hc
 exact ⟨⟨hm.upd,fun t' c hc=>hm.own t' c (f t' c hc),fun t1 t2 b1 b2 e1 e2 he=>hm.one t1 t2 b1 b2 (f _ _ e1) (f _ _ e2) he,hm.imm,hm.nod,fun c hc=>⟨(hm.kept c hc).1,(hm.kept c hc).2.1,fun t' b' ht'=>(hm.kept c hc).2.2 t' b' (f _ _ ht')⟩⟩,⟨fun t' c hc _=>⟨f _ _ hc,rfl⟩,fun _ _ _ _=>rfl,fun t' c hc=>.inr ⟨t',c,f _ _ hc,rfl⟩,Nat.le_refl _⟩⟩
theorem Mem.rename (hm:Mem ρ w0 h nx w) (hf:nx<Fit) {t:Nat} {b b':CB} {o:Obj} (hst:stB b'=nx) (ht:h.get t=some b) (hu:Upd (·=(ρ t).1) w w') (ho:w'.heap[(ρ t).1]?=some o) (hb:DB nx ρ (ρ t).2 b' o) :
 ∃ ρ',Ext nx ρ ρ'∧ρ' nx=ρ t∧Mem ρ' w0 ((h.set none Fit t).set (some b') Fit nx) (nx+1) w'∧Old ρ h nx w ρ' ((h.set none Fit t).set (some b') Fit nx) w':=by
 have htn:=(hm.own t b ht).1
 have h0:=(hm.own t b ht).2.2.1
 have hext:Ext nx ρ (fun u=>if u=nx then ρ t else ρ u):=fun u hu=>by simp [Nat.ne_of_lt hu]
 have g1:=fun j=>Tr.get_set (none:Option CB) Fit h t j (by omega)
 have get:=fun j=>Tr.get_set (some b') Fit (h.set none Fit t) nx j hf
 have f:∀ u c,((h.set none Fit t).set (some b') Fit nx).get u=some c→(u=nx∧c=b')∨(u≠nx∧u≠t∧h.get u=some c):=fun u c hc=>by
  rw [get] at hc
  by_cases e:u=nx
  · rw [if_pos e] at hc;cases hc;exact .inl ⟨e,rfl⟩
  rw [if_neg e,g1] at hc
  by_cases e2:u=t
  · rw [if_pos e2] at hc;cases hc
  rw [if_neg e2] at hc;exact .inr ⟨e,e2,hc⟩
 refine ⟨_,hext,by simp,⟨⟨hu.os.trans hm.upd.os,hu.tape.trans hm.upd.tape,hu.output.trans hm.upd.output,Nat.le_trans hm.upd.size hu.size,fun k hk hx=>?_⟩,?_,?_,hm.imm,hm.nod,fun c hc=>?_⟩,?_⟩
 · exact (hu.same k (Nat.lt_of_lt_of_le hk hm.upd.size) (by omega)).trans (hm.upd.same k hk hx)
 · intro u c hc
   rcases f u c hc with ⟨rfl,rfl⟩ | ⟨e1,e2,h1⟩
   · simp only [if_true]
     exact ⟨by omega,by omega,h0,o,ho,hb.up (Nat.le_succ _) hext⟩
   obtain ⟨k1,ks,k2,o',k3,k4⟩:=hm.own u c h1
   simp only [e1,if_false]
   refine ⟨by omega,by omega,k2,o',?_,k4.up (Nat.le_succ _) hext⟩
   rw [hu.same _ (hm.lt h1) (fun e3=>e2 (hm.one u t c b h1 ht e3))];exact k3
 · intro u u' c c' hc hc' he
   rcases f u c hc with ⟨rfl,rfl⟩ | ⟨e1,e2,h1⟩ <;> rcases f u' c' hc' with ⟨rfl,rfl⟩ | ⟨e1',e2',h1'⟩
   · rfl
   · simp only [if_true,e1',if_false] at he
     exact absurd (hm.one t u' b c' ht h1' he) (fun e=>e2' e.symm)
   · simp only [if_true,e1,if_false] at he
     exact absurd (hm.one u t c b h1 ht he) e2
   simp only [e1,e1',if_false] at he
   exact hm.one u u' c c' h1 h1' he
 · obtain ⟨k1,k2,k3⟩:=hm.kept c hc
   refine ⟨k1,(hu.same _ (hm.klt hc) (fun e=>k3 t b ht e.symm)).trans k2,fun t' c' ht'=>?_⟩
   rcases f t' c' ht' with ⟨rfl,rfl⟩ | ⟨e1,e2,h1⟩
   · simp only [if_true];exact k3 _ _ ht
   simp only [e1,if_false];exact k3 _ _ h1
 refine ⟨fun u c hc hs=>?_,fun p hp hup _=>hu.same _ hp (fun e=>hup t b ht e.symm),fun u c hc=>?_,hu.size⟩
 · rcases f u c hc with ⟨rfl,rfl⟩ | ⟨e1,e2,h1⟩
   · omega
   exact ⟨h1,hu.same _ (hm.lt h1) (fun e3=>e2 (hm.one u t c b h1 ht e3))⟩
 rcases f u c hc with ⟨rfl,rfl⟩ | ⟨e1,e2,h1⟩
 · simp only [if_true];exact .inr ⟨t,b,ht,rfl⟩
 simp only [e1,if_false];exact .inr ⟨u,c,h1,rfl⟩
end
section
variable {Φ:Imm→Prop} {ρ ρ':Pl} {w0:Bas Φ} {w w':World} {E E':Tr CV} {h h':Tr CB} {nx nx' n:Nat} {a a':Act}
theorem Mem.base {ks:List Nat} {W:World} {G:Imm} {ok:Φ G} {s s':Nat} (hm:Mem ρ ⟨W,ks,G,ok,s⟩ h nx w):Mem ρ ⟨W,ks,G,ok,s'⟩ h nx w:=⟨hm.upd,hm.own,hm.one,hm.imm,hm.nod,hm.kept⟩
theorem Mem.less {ks os:List Nat} {W:World} {G:Imm} {ok:Φ G} {s:Nat} (hm:Mem ρ ⟨W,os++ks,G,ok,s⟩ h nx w):Mem ρ ⟨W,ks,G,ok,s⟩ h nx w:=
 ⟨hm.upd,hm.own,hm.one,hm.imm,(List.nodup_append.1 hm.nod).2.1,fun b hb=>hm.kept b (List.mem_append_right _ hb)⟩
theorem Rel.slots (hR:Rel ρ w0 n E h nx a w):Slots ρ E nx n a:=by obtain ⟨os,hR⟩:=hR;exact hR.slots
theorem Rel.mem (hR:Rel ρ w0 n E h nx a w):Mem ρ w0 h nx w:=by obtain ⟨os,hR⟩:=hR;exact hR.mem.less
theorem Rel.put (hR:Rel ρ w0 n E h nx a w) {d:Option Nat} {v:Value} (hs:Slots ρ E' nx n (a.put d v)):Rel ρ w0 n E' h nx (a.put d v) w:=by
 obtain ⟨os,hR⟩:=hR
 exact ⟨os,hs,(show (a.put d v).defers=a.defers by cases d <;> rfl).trans hR.defers,hR.mem,hR.mks,hR.ss⟩
theorem Mem.grow (hm:Mem ρ w0 h nx w) (hu:Upd (fun _=>False) w w'):Mem ρ w0 h nx w'∧Old ρ h nx w ρ h w':=by
 refine ⟨⟨hm.upd.trans hu,fun t b ht=>?_,hm.one,hm.imm,hm.nod,fun b hb=>?_⟩,⟨fun t b hb _=>⟨hb,hu.same _ (hm.lt hb) id⟩,fun p hp _ _=>hu.same _ hp id,fun t b hb=>.inr ⟨t,b,hb,rfl⟩,hu.size⟩⟩
 · obtain ⟨h1,h2,h3,o,h4,h5⟩:=hm.own t b ht
   exact ⟨h1,h2,h3,o,(hu.same _ (hm.lt ht) id).trans h4,h5⟩
 obtain ⟨k1,k2,k3⟩:=hm.kept b hb
 exact ⟨k1,(hu.same _ (hm.klt hb) id).trans k2,k3⟩
theorem Mem.keep {ks:List Nat} {W:World} {G:Imm} {ok:Φ G} {s:Nat} (hm:Mem ρ ⟨W,ks,G,ok,s⟩ h nx w):Mem ρ ⟨W,w.heap.size :: ks,G,ok,s⟩ h nx (w.alloc (.deferred (some [])))∧Old ρ h nx w ρ h (w.alloc (.deferred (some []))):=by
 obtain ⟨g1,g2⟩:=hm.grow (w':=w.alloc (.deferred (some []))) ((Upd.refl _ w).alloc _)
 have hn:w.heap.size ∉ ks:=fun hb=>Nat.lt_irrefl _ (hm.klt hb)
 refine ⟨⟨g1.upd,g1.own,g1.one,g1.imm,List.nodup_cons.2 ⟨hn,hm.nod⟩,fun b hb=>?_⟩,g2⟩
 rcases List.mem_cons.1 hb with rfl | hb
 · refine ⟨hm.upd.size,alloc_new w _,fun t c ht=>?_⟩
   have:=hm.lt ht
   omega
 exact g1.kept b hb
theorem Mem.shut {b:Nat} {ks:List Nat} {W:World} {G:Imm} {ok:Φ G} {s:Nat} (hm:Mem ρ ⟨W,b :: ks,G,ok,s⟩ h nx w):Mem ρ ⟨W,ks,G,ok,s⟩ h nx (w.putObj b (.deferred none))∧OldX (·=b) ρ h nx w ρ h (w.putObj b (.deferred none)):=by
 obtain ⟨k1,k2,k3⟩:=hm.kept b (List.mem_cons_self ..)
 have hu:=putObj_upd w b (.deferred none)
 have hnd:=List.nodup_cons.1 hm.nod
 refine ⟨⟨⟨hu.os.trans hm.upd.os,hu.tape.trans hm.upd.tape,hu.output.trans hm.upd.output,Nat.le_trans hm.upd.size hu.size,fun k hk hx=>?_⟩,fun t c ht=>?_,hm.one,hm.imm,hnd.2,fun c hc=>?_⟩,⟨fun t c hc _=>⟨hc,hu.same _ (hm.lt hc) (k3 t c hc)⟩,fun p hp _ hx=>hu.same _ hp hx,fun t c hc=>.inr ⟨t,c,hc,rfl⟩,hu.size⟩⟩
 · exact (hu.same k (Nat.lt_of_lt_of_le hk hm.upd.size) (fun e=>by subst e;exact absurd k1 (by show ¬W.heap.size≤k;exact Nat.not_le.2 hk))).trans (hm.upd.same k hk hx)
 · obtain ⟨h1,h2,h3,o,h4,h5⟩:=hm.own t c ht
   exact ⟨h1,h2,h3,o,(hu.same _ (hm.lt ht) (k3 t c ht)).trans h4,h5⟩
 obtain ⟨q1,q2,q3⟩:=hm.kept c (List.mem_cons_of_mem _ hc)
 exact ⟨q1,(hu.same _ (hm.klt (List.mem_cons_of_mem _ hc)) (fun e=>hnd.1 (by rw [←e];exact hc))).trans q2,q3⟩
end
inductive Ro where
 | bad
 | val (v:CV) (h:Tr CB) (nx:Nat)
 | unit (h:Tr CB) (nx:Nat)
def Wd {Φ:Imm→Prop} (P:Program) (op:Op) (ρ:Pl) (w0:Bas Φ) (h:Tr CB) (nx:Nat) (a:Act) (w:World):Ro→Prop
 | .bad=>True
 | .val c h' nx'=>nx≤nx'∧∃ v w' ρ',Ext nx ρ ρ'∧Kn nx' ρ' c v∧Mem ρ' w0 h' nx' w'∧nx'≤Fit∧Old ρ h nx w ρ' h' w'∧∀ (d:Option Tmp) (ty:TypeId) (pos:String) (after:Array Edge) (g:Option (Nat×Bool)),(execOp a.eval ⟨d,op,ty,pos,after,g⟩).run P w=.ok (.value v) w'
 | .unit h' nx'=>nx≤nx'∧∃ w' ρ',Ext nx ρ ρ'∧Mem ρ' w0 h' nx' w'∧nx'≤Fit∧Old ρ h nx w ρ' h' w'∧∀ (ty:TypeId) (pos:String) (after:Array Edge) (g:Option (Nat×Bool)),(execOp a.eval ⟨none,op,ty,pos,after,g⟩).run P w=.ok .skip w'
end Go.Sl.Ev
namespace Go.Sl.Ev
open Go Go.Sl
section
variable {P:Program} {w:World}
theorem run_app_room {t tx ty e:TypeId} {i:TypeInfo} (ht:P.underlying t=some (.slice e)) (hi:P.info? e=some i) {b off sLen sCap:Nat} {cur:Array Value} {bt:TypeId} (hb:w.heap[b]?=some (.cells cur bt (0,0))) {x:Value} {n:Nat} {news:List Value} (hs:Go.Src P i.size tx x n news w)
 (hroom:sLen+n≤sCap) (hfit:off+sLen*i.size+news.length≤cur.size) :
 (Builtin.append_ #[t,tx] ty #[.slice (some ⟨b,off,none⟩) sLen sCap,x]).run P w=.ok (.slice (some ⟨b,off,none⟩) (sLen+n) sCap) (w.setRow b (cur.toList.take (off+sLen*i.size)++news++cur.toList.drop (off+sLen*i.size+news.length)).toArray):=by
 have hst:=run_storeCells_at P b (off+sLen*i.size) bt news 0 cur w hb (by simpa using hfit) hs.one
 simp only [Nat.add_zero] at hst
 rcases hs.kind with ⟨e',hk⟩ | hk <;> simp [Builtin.append_,run_underlying ht,run_underlying hk,sizeOf,typeInfo,hi,hs.len,hroom,hs.cells,Addr.add_lit,hst]
theorem run_copy {t tx ty e:TypeId} {i:TypeInfo} (ht:P.underlying t=some (.slice e)) (hi:P.info? e=some i) {b off dLen dCap:Nat} {cur:Array Value} {bt:TypeId} (hb:w.heap[b]?=some (.cells cur bt (0,0))) {src:Addr} {sLen sCap k:Nat} {news:List Value}
 (hk:Nat.min sLen dLen=k) (hl:news.length=k*i.size) (hn:∀ j v,news[j]?=some v→w.cell? (src.add j)=some v) (h1:∀ v∈news,v.oneCell'=true) (hfit:off+news.length≤cur.size) :
 (Builtin.copy_ #[t,tx] ty #[.slice (some ⟨b,off,none⟩) dLen dCap,.slice (some src) sLen sCap]).run P w=.ok (.int .i64 (k:Int)) (w.setRow b (cur.toList.take off++news++cur.toList.drop (off+news.length)).toArray):=by
 have hst:=run_storeCells_at P b off bt news 0 cur w hb (by simpa using hfit) h1
 simp only [Nat.add_zero] at hst
 have hld:=run_loadCells_list (P:=P) w src news hn
 rw [hl] at hld
 simp [Builtin.copy_,run_underlying ht,Builtin.lenOf,Builtin.firstCells,sizeOf,typeInfo,hi,hk,hld,hst,goInt]
theorem run_copy0 {t tx ty e:TypeId} {i:TypeInfo} (ht:P.underlying t=some (.slice e)) (hi:P.info? e=some i) {d a:Option Addr} {dLen dCap sLen sCap:Nat} (hk:Nat.min sLen dLen=0) :
 (Builtin.copy_ #[t,tx] ty #[.slice d dLen dCap,.slice a sLen sCap]).run P w=.ok (.int .i64 0) w:=by
 have hl:∀ (x:Addr),(loadCells x 0).run P w=.ok #[] w:=fun x=>by simpa using run_loadCells_list (P:=P) w x [] (by simp)
 cases d <;> cases a <;> simp [Builtin.copy_,run_underlying ht,Builtin.lenOf,Builtin.firstCells,sizeOf,typeInfo,hi,hk,storeCells,hl,goInt]
theorem made_eq {zs:List Value} (h0:0<zs.length) (n:Nat):madeCells zs.toArray (n*zs.length)=(List.replicate n zs).flatten.toArray:=by
 apply Array.ext'
 apply List.ext_getElem?
 intro q
 have hlen:(List.replicate n zs).flatten.length=n*zs.length:=by simp
 by_cases hq:q<n*zs.length
 · have h6:q % zs.length<zs.length:=Nat.mod_lt _ h0
   have h7:zs.toArray[q % zs.toArray.size]! = zs[q % zs.length]'h6:=by
    rw [getElem!_pos zs.toArray _ (by simpa using h6)]
    simp
   simp only [madeCells,Array.toList_map,Array.toList_range,List.getElem?_map,List.getElem?_range hq,Option.map_some,h7]
   symm
   have key:∀ (n q:Nat),q<n*zs.length→(List.replicate n zs).flatten[q]?=some (zs[q % zs.length]'(Nat.mod_lt _ h0)):=by
    intro n
    induction n with
    | zero=>intro q h;simp at h
    | succ n ih =>
      intro q h
      rw [List.replicate_succ,List.flatten_cons]
      by_cases hz:q<zs.length
      · rw [List.getElem?_append_left hz,List.getElem?_eq_getElem hz]
        congr 1
        simp only [Nat.mod_eq_of_lt hz]
      have h2:zs.length≤q:=by omega
      rw [List.getElem?_append_right h2,ih (q - zs.length) (by rw [Nat.succ_mul] at h;omega)]
      congr 1
      have h3:(q - zs.length) % zs.length=q % zs.length:=by rw [←Nat.mod_eq_sub_mod h2]
      simp only [h3]
   exact key n q hq
 rw [List.getElem?_eq_none (by simp [madeCells];omega),List.getElem?_eq_none (by show (List.replicate n zs).flatten.length≤q;omega)]
end
noncomputable def elQ (P:Program) (T:Nat):Option (Nat×Nat×Nat×CV):=match P.underlying T with
 | some (.slice E)=>match P.info? E with
   | some i=>match zeQ P E with
     | some z=>bif Nat.beq (lenC z) i.size && Nat.ble 1 i.size then some (E,i.size,i.bytes,z) else none
     | none=>none
   | none=>none
 | _=>none
theorem elQ_ok {P:Program} {T E sz by':Nat} {z:CV} (h:elQ P T=some (E,sz,by',z)) (nx:Nat) (ρ:Pl) :
 P.underlying T=some (.slice E)∧∃ i v,P.info? E=some i∧i.zero=some v∧i.size=sz∧i.bytes=by'∧KL nx ρ z v.cells.toList∧v.cells.toList.length=sz∧0<sz:=by
 unfold elQ at h
 split at h
 · rename_i E' hu
   split at h
   · rename_i i hi
     split at h
     · rename_i z' hz
       rcases bif_cases h with ⟨h1,h⟩ | ⟨_,h⟩
       · cases h
         simp only [Bool.and_eq_true] at h1
         obtain ⟨i',v,hi',hv,kz⟩:=zeQ_ok hz nx ρ
         rw [hi] at hi'
         cases hi'
         have:=Nat.eq_of_beq_eq_true h1.1
         rw [lenC_ok kz] at this
         exact ⟨hu,i,v,hi,hv,rfl,rfl,kz,this,Nat.le_of_ble_eq_true h1.2⟩
       cases h
     cases h
   cases h
 cases h
noncomputable def srcC (P:Program) (E:Tr CV) (h:Tr CB) (sz:Nat) (tx:Nat) (x:Operand):Option (Nat×CV):=match evo E x with
 | some .nils=>match slQ P tx with | some _=>some (0,.nil) | none=>none
 | some (.sl t o n sz' _)=>bif Nat.beq sz sz' then (match slQ P tx with
   | some _=>(match h.get t with
     | some (.cells l _ _ _)=>bif Nat.beq (lenC (sliceR l o (Nat.mul n sz))) (Nat.mul n sz) && scalC (sliceR l o (Nat.mul n sz)) then some (n,sliceR l o (Nat.mul n sz)) else none
     | _=>none)
   | none=>none) else none
 | some (.str s)=>bif Nat.beq sz 1 then (match P.underlying tx with | some .string=>some (lenC s,s) | _=>none) else none
 | _=>none
noncomputable def apC (P:Program) (E:Tr CV) (h:Tr CB) (nx:Nat) (T tx:Nat) (s x:Operand):Ro:=match elQ P T with
 | some (e,sz,by',_)=>match srcC P E h sz tx x with
   | some (m,news)=>match evo E s with
     | some .nils=>bif Nat.beq m 0 then .bad else
      bif Nat.ble (Nat.mul m by') 140737488355328 && (Nat.ble m 4611686018427387904 && Nat.ble (Nat.succ nx) Fit) then .val (.sl nx 0 m sz none) (h.set (some (.cells (ofR news) e true nx)) Fit nx) (Nat.succ nx) else .bad
     | some (.sl t o n sz' c)=>bif not (Nat.beq sz sz') then .bad else bif Nat.beq m 0 then .val (.sl t o n sz c) h nx else
       (match h.get t with
       | some (.cells l bt op _)=>bif not (Nat.beq bt e) then .bad else
         (match c with
         | some c=>bif Nat.ble (Nat.add n m) c then
          (bif Nat.ble (Nat.add o (Nat.mul (Nat.add n m) sz)) l.n && Nat.ble (Nat.succ nx) Fit then .val (.sl t o (Nat.add n m) sz (some c)) (h.set (some (.cells (putR (Nat.add o (Nat.mul n sz)) news l) bt op nx)) Fit t) (Nat.succ nx) else .bad)
           else
            (bif Nat.ble (Nat.mul (Nat.add n m) by') 140737488355328 && (Nat.ble (Nat.add n m) 4611686018427387904 && (Nat.ble (Nat.succ nx) Fit && Nat.beq (lenC (sliceR l o (Nat.mul n sz))) (Nat.mul n sz))) then
             .val (.sl nx 0 (Nat.add n m) sz none) (h.set (some (.cells (ofR (appC (sliceR l o (Nat.mul n sz)) news)) e true nx)) Fit nx) (Nat.succ nx) else .bad)
         | none=>bif Nat.ble (Nat.add o (Nat.mul (Nat.add n m) sz)) l.n && Nat.ble (Nat.succ nx) Fit then .val (.sl t o (Nat.add n m) sz none) (h.set (some (.cells (putR (Nat.add o (Nat.mul n sz)) news l) bt op nx)) Fit t) (Nat.succ nx)
           else
            bif (Nat.beq o 0 && Nat.beq (Nat.mul n sz) l.n) && (Nat.ble (Nat.mul (Nat.add n m) by') 140737488355328 && (Nat.ble (Nat.add n m) 4611686018427387904 && Nat.ble (Nat.succ nx) Fit)) then
             .val (.sl nx 0 (Nat.add n m) sz none) ((h.set none Fit t).set (some (.cells (appR l news) e true nx)) Fit nx) (Nat.succ nx) else .bad)
       | _=>.bad)
     | _=>.bad
   | none=>.bad
 | none=>.bad
noncomputable def wv0 (P:Program) (E:Tr CV) (h:Tr CB) (nx:Nat) (T:TypeId):Ro:=match zeQ P T with
 | some z=>bif Nat.ble (Nat.succ nx) Fit then .val (.ptr nx 0) (h.set (some (.cells (ofR z) T false nx)) Fit nx) (Nat.succ nx) else .bad
 | none=>.bad
noncomputable def wv1 (P:Program) (E:Tr CV) (h:Tr CB) (nx:Nat) (T:TypeId) (x:Operand):Ro:=match evo E x with
 | some c=>match cellsC c with
   | some l=>bif Nat.ble (Nat.succ nx) Fit then .val (.ptr nx 0) (h.set (some (.cells (ofR l) T false nx)) Fit nx) (Nat.succ nx) else .bad
   | none=>.bad
 | none=>.bad
noncomputable def wv2 (P:Program) (E:Tr CV) (h:Tr CB) (nx:Nat) (T:TypeId) (x:Operand) (y:Operand):Ro:=match evo E x with
 | some (.ptr t o)=>match evo E y with
   | some c=>match cellsC c with
     | some m=>match h.get t with
       | some (.cells l bt op _)=>match szQ P T with
         | some k=>bif Nat.beq (lenC m) k && (scalC m && (Nat.ble (Nat.add o k) l.n && Nat.ble (Nat.succ nx) Fit)) then .unit (h.set (some (.cells (putR o m l) bt op nx)) Fit t) (Nat.succ nx) else .bad
         | none=>.bad
       | _=>.bad
     | none=>.bad
   | none=>.bad
 | _=>.bad
noncomputable def wv3 (P:Program) (E:Tr CV) (h:Tr CB) (nx:Nat) (T:TypeId) (n:Nat) (parts:List (Nat×Operand)):Ro:=match elQ P T with
 | some (e,sz,_,z)=>bif Nat.ble 1 n && (Nat.ble (Nat.mul n sz) 16777216 && Nat.ble (Nat.succ nx) Fit) then
  (match fillC E (evenPl n sz) (Nat.mul n sz) parts (repC z n) with
  | some l=>.val (.sl nx 0 n sz (some n)) (h.set (some (.cells (ofR l) e false nx)) Fit nx) (Nat.succ nx)
  | none=>.bad) else .bad
 | none=>.bad
noncomputable def wv4 (P:Program) (E:Tr CV) (h:Tr CB) (nx:Nat) (T:TypeId) (x:Operand) (y:Operand):Ro:=match elQ P T with
 | some (e,sz,by',z)=>match evo E x with
   | some (.int _ n)=>match evo E y with
     | some (.int _ c)=>bif ile 0 n && (ile n c && (Nat.ble (Nat.mul by' c.toNat) 281474976710656 && (Nat.ble c.toNat 4611686018427387904 && Nat.ble (Nat.succ nx) Fit))) then
      .val (.sl nx 0 n.toNat sz (some c.toNat)) (h.set (some (.cells (ofR (repC z c.toNat)) e false nx)) Fit nx) (Nat.succ nx) else .bad
     | _=>.bad
   | _=>.bad
 | none=>.bad
noncomputable def wv6 (P:Program) (E:Tr CV) (h:Tr CB) (nx:Nat) (d:Operand) (x:Operand) (T:TypeId):Ro:=match elQ P T with
 | some (_,sz,_,_)=>match evo E d with
   | some (.sl t o n sz' _)=>match evo E x with
     | some (.sl t2 o2 n2 sz2 _)=>bif Nat.beq sz sz' && Nat.beq sz sz2 then
      (match h.get t with
      | some (.cells l bt op _)=>(match h.get t2 with
        | some (.cells l2 _ _ _) =>
          bif Nat.beq (lenC (sliceR l2 o2 (Nat.mul (Nat.min n2 n) sz))) (Nat.mul (Nat.min n2 n) sz) && (scalC (sliceR l2 o2 (Nat.mul (Nat.min n2 n) sz)) && (Nat.ble (Nat.add o (Nat.mul (Nat.min n2 n) sz)) l.n && Nat.ble (Nat.succ nx) Fit)) then
           .val (.int .i64 (Nat.min n2 n)) (h.set (some (.cells (putR o (sliceR l2 o2 (Nat.mul (Nat.min n2 n) sz)) l) bt op nx)) Fit t) (Nat.succ nx) else .bad
        | _=>.bad)
      | _=>.bad) else .bad
     | some .nils=>.val (.int .i64 0) h nx
     | _=>.bad
   | _=>.bad
 | none=>.bad
noncomputable def wv (P:Program) (E:Tr CV) (h:Tr CB) (nx:Nat):Op→Ro
 | .alloc T=>wv0 P E h nx T
 | .box T x=>wv1 P E h nx T x
 | .store T x y=>wv2 P E h nx T x y
 | .buildSlice T n ⟨parts⟩=>wv3 P E h nx T n parts
 | .makeSlice T x y=>wv4 P E h nx T x y
 | .call ⟨.builtin .append,⟨[s,x]⟩,⟨[T,tx]⟩⟩=>apC P E h nx T tx s x
 | .call ⟨.builtin .copy,⟨[d,x]⟩,⟨[T,_]⟩⟩=>wv6 P E h nx d x T
 | _=>.bad
end Go.Sl.Ev
namespace Go.Sl.Ev
open Go Go.Sl
section
variable {P:Program} {nx n:Nat} {ρ:Pl} {Φ:Imm→Prop} {w0:Bas Φ} {w:World} {E:Tr CV} {h:Tr CB} {a:Act}
theorem ev_a {x:Operand} {v:Value} (hx:(eA a).ev x=some v):a.eval x=v:=(lookN a default).eval hx
theorem Wd.new {op:Op} {c:CV} {b:CB} {o:Obj} {s:Nat} (hm:Mem ρ w0 h nx w) (hf:Nat.ble (Nat.succ nx) Fit=true) (hst:stB b=nx) {w':World} {v:Value} (hu:Upd (fun _=>False) w w') (hsz:w'.heap.size=w.heap.size+1) (ho:w'.heap[w.heap.size]?=some o) (hb:DB nx ρ s b o)
 (hk:∀ ρ',ρ' nx=(w.heap.size,s)→DV ρ' c v) (hbd:Bd (nx+1) c) (hr:∀ (d:Option Tmp) (ty:TypeId) (pos:String) (after:Array Edge) (g:Option (Nat×Bool)),(execOp a.eval ⟨d,op,ty,pos,after,g⟩).run P w=.ok (.value v) w') :
 Wd P op ρ w0 h nx a w (.val c (h.set (some b) Fit nx) (Nat.succ nx)):=by
 have hf':=Nat.le_of_ble_eq_true hf
 obtain ⟨ρ',h1,h2,h3,h4⟩:=hm.new (w':=w') hf' hst hu hsz ho hb
 exact ⟨Nat.le_succ _,v,w',ρ',h1,⟨hbd,hk ρ' h2⟩,h3,hf',h4,hr⟩
theorem alloc_upd (w:World) (o:Obj):Upd (fun _=>False) w (w.alloc o):=(Upd.refl _ w).alloc o
theorem alloc_size (w:World) (o:Obj):(w.alloc o).heap.size=w.heap.size+1:=by show (w.heap.push o).size=_;simp
theorem kl_cells {l:CV} {vs:List Value} (hk:KL nx ρ l vs) (ty:Nat) {st:Nat}:DB nx ρ vs.length (.cells (ofR l) ty false st) (.cells vs.toArray ty (0,0)):=⟨vs,[],ofR_ok hk,by simp,by simp,fun _=>rfl⟩
theorem put_ok {t p:Nat} {l:Rw} {m:CV} {bt:Nat} {op:Bool} {st:Nat} {news:List Value} (hm:Mem ρ w0 h nx w) (hfit:nx≤Fit) (ht:h.get t=some (.cells l bt op st)) (hn:KL nx ρ m news) (hp:p+news.length≤l.n) :
 ∃ cur:Array Value,w.heap[(ρ t).1]?=some (.cells cur bt (0,0))∧p+news.length≤cur.size∧cur.size=(ρ t).2∧∀ w',Upd (·=(ρ t).1) w w'→w'.heap[(ρ t).1]?=some (.cells (cur.toList.take p++news++cur.toList.drop (p+news.length)).toArray bt (0,0))→
  Mem ρ w0 (h.set (some (.cells (putR p m l) bt op nx)) Fit t) (nx+1) w'∧Old ρ h nx w ρ (h.set (some (.cells (putR p m l) bt op nx)) Fit t) w':=by
 obtain ⟨h1,hs1,h2,o,h3,vs,junk,k1,rfl,k3,k4⟩:=hm.own t _ ht
 rw [lenR_ok k1] at hp
 refine ⟨_,h3,by simp;omega,by simpa using k3,fun w' hu ho=>hm.write hfit rfl ht hu ho ?_⟩
 refine ⟨vs.take p++news++vs.drop (p+news.length),junk,?_,?_,?_,k4⟩
 · exact putR_ok k1 hn hp
 · simp only [List.take_append_of_le_length (show p≤vs.length by omega),List.drop_append_of_le_length hp,List.append_assoc]
 simp only [List.length_append,List.length_take,List.length_drop];omega
theorem putlen {m l:CV} {p k:Nat} (h:p+lenC m≤lenC l):lenC (appC (takeC p l) (appC m (dropC (p+lenC m) l)))=lenC l:=by
 have t:∀ (k:Nat) (x:CV),lenC (takeC k x)=min k (lenC x):=by
  intro k
  induction k with
  | zero=>intro x;show 0=_;omega
  | succ k ih=>intro x;cases x with
    | cons a b=>show Nat.succ (lenC (takeC k b))=min (k+1) (Nat.succ (lenC b));rw [ih];omega
    | _=>show 0=min (k+1) 0;omega
 have d:∀ (k:Nat) (x:CV),lenC (dropC k x)=lenC x - k:=by
  intro k
  induction k with
  | zero=>intro x;rfl
  | succ k ih=>intro x;cases x with
    | cons a b=>show lenC (dropC k b)=Nat.succ (lenC b) - (k+1);rw [ih];omega
    | _=>show 0=0 - (k+1);omega
 have ap:∀ x y:CV,lenC (appC x y)=lenC x+lenC y:=by
  intro x y
  induction x with
  | cons a b _ ih=>show Nat.succ (lenC (appC b y))=Nat.succ (lenC b)+lenC y;rw [ih];omega
  | _=>show lenC y=0+lenC y;omega
 rw [ap,ap,t,d];omega
theorem fillC_len {pl:List (Nat×Nat)} {N:Nat}:∀ {parts:List (Nat×Operand)} {l r:CV},fillC E pl N parts l=some r→N≤lenC l→lenC r=lenC l:=by
 intro parts
 induction parts with
 | nil=>intro l r h _;cases h;rfl
 | cons p parts ih =>
   intro l r h hN
   have h':(match nth pl p.1 with
    | some (off,size)=>(match evo E p.2 with
      | some c=>(match cellsC c with
        | some m=>bif Nat.beq (lenC m) size && Nat.ble (off+size) N then fillC E pl N parts (appC (takeC off l) (appC m (dropC (off+size) l))) else none
        | none=>none)
      | none=>none)
    | none=>none)=some r:=h
   split at h'
   · rename_i off size hp0
     split at h'
     · split at h'
       · rename_i m hm0
         rcases bif_cases h' with ⟨h1,h2⟩ | ⟨_,h2⟩
         · simp only [Bool.and_eq_true] at h1
           have e1:=Nat.eq_of_beq_eq_true h1.1
           have e2:=Nat.le_of_ble_eq_true h1.2
           subst e1
           have hp:=putlen (k:=0) (m:=m) (l:=l) (p:=off) (by omega)
           rw [ih h2 (by rw [hp];exact hN),hp]
         cases h2
       cases h'
     cases h'
   cases h'
theorem wv_alloc {T:TypeId} {r:Ro} (hs:Slots ρ E nx n a) (hm:Mem ρ w0 h nx w) (hr:wv P E h nx (.alloc T)=r):Wd P (.alloc T) ρ w0 h nx a w r:=by
 subst hr
 show Wd _ _ _ _ _ _ _ _ (match zeQ P T with | some z=>bif Nat.ble (Nat.succ nx) Fit then .val (.ptr nx 0) (h.set (some (.cells (ofR z) T false nx)) Fit nx) (Nat.succ nx) else .bad | none=>.bad)
 split
 · rename_i z hz
   cases hf:Nat.ble (Nat.succ nx) Fit with
   | false=>trivial
   | true =>
     obtain ⟨i,v,hi,hv,kz⟩:=zeQ_ok hz nx ρ
     refine Wd.new (s:=v.cells.toList.length) (o:=.cells v.cells.toList.toArray T (0,0)) (w':=w.alloc (.cells v.cells.toList.toArray T (0,0))) (v:=.pointer (some ⟨w.heap.size,0,none⟩)) hm hf rfl (alloc_upd _ _) (alloc_size _ _) (alloc_new _ _) (kl_cells kz T) (fun ρ' hρ=>?_) (Nat.lt_succ_self nx) (fun d ty pos after g=>?_)
     · show _=Value.pointer (some ⟨(ρ' nx).1,0,none⟩)
       rw [hρ]
     simp [execOp,Instr.alloc,newVar,newRow,zeroValue,typeInfo,hi,hv]
 trivial
theorem wv_box {T:TypeId} {x:Operand} {r:Ro} (hs:Slots ρ E nx n a) (hm:Mem ρ w0 h nx w) (hr:wv P E h nx (.box T x)=r):Wd P (.box T x) ρ w0 h nx a w r:=by
 subst hr
 show Wd _ _ _ _ _ _ _ _ (match evo E x with
  | some c=>match cellsC c with
    | some l=>bif Nat.ble (Nat.succ nx) Fit then .val (.ptr nx 0) (h.set (some (.cells (ofR l) T false nx)) Fit nx) (Nat.succ nx) else .bad
    | none=>.bad
  | none=>.bad)
 split
 · rename_i c hc
   split
   · rename_i l hl
     cases hf:Nat.ble (Nat.succ nx) Fit with
     | false=>trivial
     | true =>
       obtain ⟨v,e1,k1⟩:=evo_ok hs hc
       have kz:=cellsC_ok k1 hl
       refine Wd.new (s:=v.cells.toList.length) (o:=.cells v.cells.toList.toArray T (0,0)) (w':=w.alloc (.cells v.cells.toList.toArray T (0,0))) (v:=.pointer (some ⟨w.heap.size,0,none⟩)) hm hf rfl (alloc_upd _ _) (alloc_size _ _) (alloc_new _ _) (kl_cells kz T) (fun ρ' hρ=>?_) (Nat.lt_succ_self nx) (fun d ty pos after g=>?_)
       · show _=Value.pointer (some ⟨(ρ' nx).1,0,none⟩)
         rw [hρ]
       simp [execOp,Instr.box,newVar,newRow,ev_a e1]
   trivial
 trivial
theorem wv_store {T:TypeId} {x y:Operand} {r:Ro} (hs:Slots ρ E nx n a) (hm:Mem ρ w0 h nx w) (hfit:nx≤Fit) (hr:wv P E h nx (.store T x y)=r):Wd P (.store T x y) ρ w0 h nx a w r:=by
 subst hr
 show Wd _ _ _ _ _ _ _ _ (match evo E x with
  | some (.ptr t o)=>match evo E y with
    | some c=>match cellsC c with
      | some m=>match h.get t with
        | some (.cells l bt op _)=>match szQ P T with
          | some k=>bif Nat.beq (lenC m) k && (scalC m && (Nat.ble (Nat.add o k) l.n && Nat.ble (Nat.succ nx) Fit)) then .unit (h.set (some (.cells (putR o m l) bt op nx)) Fit t) (Nat.succ nx) else .bad
          | none=>.bad
        | _=>.bad
      | none=>.bad
    | none=>.bad
  | _=>.bad)
 split
 · rename_i t o hx
   split
   · rename_i c hc
     split
     · rename_i m hmc
       split
       · rename_i l bt op st ht
         split
         · rename_i k hk
           cases hb:Nat.beq (lenC m) k && (scalC m && (Nat.ble (Nat.add o k) l.n && Nat.ble (Nat.succ nx) Fit)) with
           | false=>trivial
           | true =>
             simp only [Bool.and_eq_true] at hb
             obtain ⟨v,e1,k1⟩:=evo_ok hs hx
             have e2:=DV.ptr.1 k1.2
             subst e2
             obtain ⟨u,e3,k3⟩:=evo_ok hs hc
             have km:=cellsC_ok k3 hmc
             have hlen:u.cells.toList.length=k:=by rw [←lenC_ok km];exact Nat.eq_of_beq_eq_true hb.1
             have hle:o+u.cells.toList.length≤l.n:=by rw [hlen];exact Nat.le_of_ble_eq_true hb.2.2.1
             obtain ⟨cur,g1,g2,g3,g4⟩:=put_ok hm hfit ht km hle
             have g1':w.heap[(ρ t).1]?=some (.cells cur.toList.toArray bt (0,0)):=by rw [g1]
             have hrun:=run_storeAt (P:=P) (T:=T) (off:=o) (cs:=cur.toList) (vs:=u.cells.toList) (v:=u) (by rw [hlen];exact szQ_ok hk) (by simp) (scalC_ok km hb.2.1) g1' (by simpa using g2)
             have g5:=g4 (w.setRow (ρ t).1 (cur.toList.take o++u.cells.toList++cur.toList.drop (o+u.cells.toList.length)).toArray) (setRow_upd w (ρ t).1 _) (by rw [setRow_heap w (ρ t).1 _ _ bt _ g1])
             refine ⟨Nat.le_succ _,w.setRow (ρ t).1 (cur.toList.take o++u.cells.toList++cur.toList.drop (o+u.cells.toList.length)).toArray,ρ,Ext.refl _ _,g5.1,Nat.le_of_ble_eq_true hb.2.2.2,g5.2,fun ty pos after g=>?_⟩
             simp [execOp,ev_a e1,ev_a e3,hrun]
         trivial
       trivial
     trivial
   trivial
 trivial
theorem wv_buildSlice {T N:Nat} {parts:List (Nat×Operand)} {r:Ro} (hs:Slots ρ E nx n a) (hm:Mem ρ w0 h nx w) (hr:wv P E h nx (.buildSlice T N ⟨parts⟩)=r):Wd P (.buildSlice T N ⟨parts⟩) ρ w0 h nx a w r:=by
 subst hr
 show Wd _ _ _ _ _ _ _ _ (match elQ P T with
  | some (e,sz,_,z)=>bif Nat.ble 1 N && (Nat.ble (Nat.mul N sz) 16777216 && Nat.ble (Nat.succ nx) Fit) then
   (match fillC E (evenPl N sz) (Nat.mul N sz) parts (repC z N) with
   | some l=>.val (.sl nx 0 N sz (some N)) (h.set (some (.cells (ofR l) e false nx)) Fit nx) (Nat.succ nx)
   | none=>.bad) else .bad
  | none=>.bad)
 split
 · rename_i e sz by' z hz
   cases hb:Nat.ble 1 N && (Nat.ble (Nat.mul N sz) 16777216 && Nat.ble (Nat.succ nx) Fit) with
   | false=>trivial
   | true =>
     simp only [cond_true]
     split
     · rename_i l hl
       simp only [Bool.and_eq_true] at hb
       obtain ⟨hu,i,zv,hi,hzv,hsz,hby,kz,hzl,h0⟩:=elQ_ok hz nx ρ
       have kr:=repC_ok kz N
       obtain ⟨vs,e1,o1,k1⟩:=fillC_ok hs kr hl
       have hN:=Nat.le_of_ble_eq_true hb.1
       have hNs:N*sz≤16777216:=Nat.le_of_ble_eq_true hb.2.1
       have hpos:0<N*sz:=Nat.mul_pos hN h0
       have hlen:(List.replicate N zv.cells.toList).flatten.length=N*sz:=by simp [←hzl]
       have hf:=fill_eq (fun i=>some (i*sz,sz)) (evenPl N sz) (fun i x h=>by
        simp only [evenPl,List.getElem?_map,Option.map_eq_some_iff] at h
        obtain ⟨j,hj,rfl⟩:=h
        obtain ⟨hlt,hj⟩:=List.getElem?_eq_some_iff.1 hj
        simp at hj;subst hj;rfl) vs (List.replicate N zv.cells.toList).flatten (N*sz) hlen o1
       have hmade:((Array.range (N*i.size)).map (zv.cells[· % zv.cells.size]!))=(List.replicate N zv.cells.toList).flatten.toArray:=by
        have:=made_eq (zs:=zv.cells.toList) (by omega) N
        rw [hzl] at this
        simpa [madeCells,hsz] using this
       have hrun:=run_buildSlice (P:=P) w T e N vs.toArray (fillL (evenPl N sz) (List.replicate N zv.cells.toList).flatten vs).toArray i zv hu hi hzv (by rw [hsz];omega) (by rw [hsz];omega) (by rw [hmade,hsz];exact hf)
       have hmm:(parts.toArray.map fun (i,x)=>(i,a.eval x))=vs.toArray:=by rw [←(lookN a w).parts e1];simp
       have hlenF:(fillL (evenPl N sz) (List.replicate N zv.cells.toList).flatten vs).length=N*sz:=by
        rw [←lenC_ok k1,fillC_len hl (by rw [lenC_ok kr,hlen];exact Nat.le_refl _),lenC_ok kr,hlen]
       refine Wd.new (s:=(fillL (evenPl N sz) (List.replicate N zv.cells.toList).flatten vs).length) (o:=.cells (fillL (evenPl N sz) (List.replicate N zv.cells.toList).flatten vs).toArray e (0,0)) (v:=.slice (some ⟨w.heap.size,0,none⟩) N N) hm hb.2.2 rfl (alloc_upd _ _) (alloc_size _ _) (alloc_new _ _) (kl_cells k1 e) (fun ρ' hρ=>?_) (Nat.lt_succ_self nx) (fun d ty pos after g=>?_)
       · refine DV.slS.2 ⟨by rw [hρ],by rw [hρ,hlenF];omega,Nat.le_refl _,?_⟩
         have:=Nat.le_mul_of_pos_right N h0
         simp only [maxLen];omega
       simp only [execOp,hmm,Sem.run_bind,hrun,Result.andThen_ok,Sem.run_pure]
     trivial
 trivial
end
end Go.Sl.Ev
namespace Go.Sl.Ev
open Go Go.Sl
section
variable {P:Program} {nx n:Nat} {ρ:Pl} {Φ:Imm→Prop} {w0:Bas Φ} {w:World} {E:Tr CV} {h:Tr CB} {a:Act}
theorem wv_makeSlice {T:TypeId} {x y:Operand} {r:Ro} (hs:Slots ρ E nx n a) (hm:Mem ρ w0 h nx w) (hr:wv P E h nx (.makeSlice T x y)=r):Wd P (.makeSlice T x y) ρ w0 h nx a w r:=by
 subst hr
 show Wd _ _ _ _ _ _ _ _ (match elQ P T with
  | some (e,sz,by',z)=>match evo E x with
    | some (.int _ n)=>match evo E y with
      | some (.int _ c)=>bif ile 0 n && (ile n c && (Nat.ble (Nat.mul by' c.toNat) 281474976710656 && (Nat.ble c.toNat 4611686018427387904 && Nat.ble (Nat.succ nx) Fit))) then
       .val (.sl nx 0 n.toNat sz (some c.toNat)) (h.set (some (.cells (ofR (repC z c.toNat)) e false nx)) Fit nx) (Nat.succ nx) else .bad
      | _=>.bad
    | _=>.bad
  | none=>.bad)
 split
 · rename_i e sz by' z hz
   split
   · rename_i k N hx
     split
     · rename_i k' C hy
       cases hb:ile 0 N && (ile N C && (Nat.ble (Nat.mul by' C.toNat) 281474976710656 && (Nat.ble C.toNat 4611686018427387904 && Nat.ble (Nat.succ nx) Fit))) with
       | false=>trivial
       | true =>
         simp only [Bool.and_eq_true,ile_eq,decide_eq_true_eq] at hb
         obtain ⟨hb1,hb2,hb3,hb4,hb5⟩:=hb
         have hb3:by'*C.toNat≤281474976710656:=Nat.le_of_ble_eq_true hb3
         have hb4:=Nat.le_of_ble_eq_true hb4
         obtain ⟨hu,i,zv,hi,hzv,hsz,hby,kz,hzl,h0⟩:=elQ_ok hz nx ρ
         obtain ⟨v1,e1,k1⟩:=evo_ok hs hx
         obtain ⟨v2,e2,k2⟩:=evo_ok hs hy
         rw [DV.int.1 k1.2] at e1
         rw [DV.int.1 k2.2] at e2
         have hbc:(i.bytes:Int)*C≤281474976710656:=by
          have:((by'*C.toNat:Nat):Int)=(i.bytes:Int)*C:=by rw [Int.natCast_mul,Int.toNat_of_nonneg (by omega),hby]
          omega
         have hrun:=run_make (P:=P) w T e i zv hu hi hzv k k' N C hb1 hb2 hbc (by omega)
         have hmade:madeCells zv.cells (C.toNat*i.size)=(List.replicate C.toNat zv.cells.toList).flatten.toArray:=by
          have:=made_eq (zs:=zv.cells.toList) (by omega) C.toNat
          rw [hzl] at this
          rw [hsz,←this]
         rw [hmade] at hrun
         have hlen:(List.replicate C.toNat zv.cells.toList).flatten.length=C.toNat*sz:=by simp [←hzl]
         refine Wd.new (s:=C.toNat*sz) (o:=.cells (List.replicate C.toNat zv.cells.toList).flatten.toArray e (0,0)) (v:=.slice (some ⟨w.heap.size,0,none⟩) N.toNat C.toNat) hm hb5 rfl (alloc_upd _ _) (alloc_size _ _) (alloc_new _ _) (by rw [←hlen];exact kl_cells (repC_ok kz C.toNat) e) (fun ρ' hρ=>?_) (Nat.lt_succ_self nx) (fun d ty pos after g=>?_)
         · refine DV.slS.2 ⟨by rw [hρ],by rw [hρ];show 0+C.toNat*sz≤C.toNat*sz;omega,by omega,?_⟩
           simp only [maxLen];omega
         simp only [execOp,ev_a e1,ev_a e2,Sem.run_bind,hrun,Result.andThen_ok,Sem.run_pure]
     trivial
   trivial
 trivial
theorem cell_at {t:Nat} {vs:List Value} {ty:TypeId} (hb:w.heap[t]?=some (.cells vs.toArray ty (0,0))) {o:Nat} {m:Nat} {news:List Value} (hn:news=(vs.drop o).take m):∀ j v,news[j]?=some v→w.cell? ((⟨t,o,none⟩:Addr).add j)=some v:=fun j v hj=>by
 rw [add_lit,cell_of_block hb]
 subst hn
 rw [List.getElem?_take] at hj
 split at hj
 · rw [List.getElem?_drop] at hj;exact hj
 cases hj
theorem srcC_ok {sz tx:Nat} {x:Operand} {m:Nat} {l:CV} (hs:Slots ρ E nx n a) (hm:Mem ρ w0 h nx w) (hq:srcC P E h sz tx x=some (m,l)):∃ xv news,(eA a).ev x=some xv∧KL nx ρ l news∧news.length=m*sz∧Go.Src P sz tx xv m news w:=by
 unfold srcC at hq
 split at hq
 · rename_i hx
   split at hq
   · rename_i q hT
     obtain ⟨e',sz'⟩:=q
     cases hq
     obtain ⟨v,e1,k1⟩:=evo_ok hs hx
     have e2:=DV.nils.1 k1.2
     subst e2
     exact ⟨_,[],e1,KL.nil,by simp,Go.Src.ofNil w (slQ_ok hT).1 0⟩
   cases hq
 · rename_i t o N sz' cc hx
   rcases bif_cases hq with ⟨h1,hr1⟩ | ⟨_,hr1⟩
   · have:=Nat.eq_of_beq_eq_true h1
     subst this
     split at hr1
     · rename_i q hT
       obtain ⟨e',sz'⟩:=q
       split at hr1
       · rename_i lb bt op st ht
         rcases bif_cases hr1 with ⟨h2,hr2⟩ | ⟨_,hr2⟩
         · cases hr2
           simp only [Bool.and_eq_true] at h2
           obtain ⟨v,e1,k1⟩:=evo_ok hs hx
           obtain ⟨c',rfl⟩:=sl_inv k1
           obtain ⟨_,_,_,ob,g3,vs,junk,kl,rfl,_,_⟩:=hm.own t _ ht
           have kk:=sliceR_ok (k:=m*sz) kl (Nat.eq_of_beq_eq_true h2.1)
           have hlen:((vs.drop o).take (m*sz)).length=m*sz:=by rw [←lenC_ok kk];exact Nat.eq_of_beq_eq_true h2.1
           have hone:=scalC_ok kk h2.2
           have hdrop:((vs++junk).drop o).take (m*sz)=(vs.drop o).take (m*sz):=by
            rw [List.length_take,List.length_drop] at hlen
            by_cases h0:m*sz=0
            · rw [h0];simp
            rw [List.drop_append_of_le_length (by omega),List.take_append_of_le_length (by rw [List.length_drop];omega)]
           exact ⟨_,(vs.drop o).take (m*sz),e1,kk,hlen,Go.Src.ofSlice w (slQ_ok hT).1 _ m c' _ hlen (cell_at g3 hdrop.symm) (fun u hu=>List.all_eq_true.1 hone u hu)⟩
         cases hr2
       cases hr1
     cases hr1
   cases hr1
 · rename_i s hx
   rcases bif_cases hq with ⟨h1,hr1⟩ | ⟨_,hr1⟩
   · have:=Nat.eq_of_beq_eq_true h1
     subst this
     split at hr1
     · rename_i hT
       cases hr1
       obtain ⟨v,e1,k1⟩:=evo_ok hs hx
       obtain ⟨bs,rfl,k2⟩:=str_inv k1
       have hlen:=lenC_ok k2
       have hsz:(ByteArray.mk bs.toArray).size=lenC l:=by
        rw [hlen,List.length_map];show bs.toArray.size=_;simp
       have hbc:byteCells (ByteArray.mk bs.toArray)=bs.map fun b=>Value.int .u8 b.toNat:=by unfold byteCells;simp
       refine ⟨_,_,e1,k2,by rw [←hlen];omega,?_⟩
       have:=Go.Src.ofString w hT (ByteArray.mk bs.toArray)
       rw [hsz,hbc] at this
       exact this
     cases hr1
   cases hr1
 cases hq
end
end Go.Sl.Ev
namespace Go.Sl.Ev
open Go Go.Sl
section
variable {P:Program} {nx n:Nat} {ρ:Pl} {Φ:Imm→Prop} {w0:Bas Φ} {w:World} {E:Tr CV} {h:Tr CB} {a:Act}
theorem exec_app {s x:Operand} {T tx:TypeId} {v1 v2 v:Value} {w':World} (e1:(eA a).ev s=some v1) (e2:(eA a).ev x=some v2) (hr:∀ ty,(Builtin.append_ #[T,tx] ty #[v1,v2]).run P w=.ok v w') (d:Option Tmp) (ty:TypeId) (pos:String) (after:Array Edge) (g:Option (Nat×Bool)) :
 (execOp a.eval ⟨d,.call ⟨.builtin .append,⟨[s,x]⟩,⟨[T,tx]⟩⟩,ty,pos,after,g⟩).run P w=.ok (.value v) w':=by
 simp only [execOp,resolve,invoke,builtin,Sem.run_bind,Sem.run_pure,Result.andThen_ok,List.map_toArray,List.map_cons,List.map_nil,ev_a e1,ev_a e2,hr]
theorem exec_copy {s x:Operand} {T tx:TypeId} {v1 v2 v:Value} {w':World} (e1:(eA a).ev s=some v1) (e2:(eA a).ev x=some v2) (hr:∀ ty,(Builtin.copy_ #[T,tx] ty #[v1,v2]).run P w=.ok v w') (d:Option Tmp) (ty:TypeId) (pos:String) (after:Array Edge) (g:Option (Nat×Bool)) :
 (execOp a.eval ⟨d,.call ⟨.builtin .copy,⟨[s,x]⟩,⟨[T,tx]⟩⟩,ty,pos,after,g⟩).run P w=.ok (.value v) w':=by
 simp only [execOp,resolve,invoke,builtin,Sem.run_bind,Sem.run_pure,Result.andThen_ok,List.map_toArray,List.map_cons,List.map_nil,ev_a e1,ev_a e2,hr]
theorem app_grow {T tx e:TypeId} {i:TypeInfo} {zv:Value} {sz m N C:Nat} {base:Option Addr} {xv:Value} {olds news:List Value} (hu:P.underlying T=some (.slice e)) (hi:P.info? e=some i) (hz:i.zero=some zv) (hsz:i.size=sz) (hzl:zv.cells.toList.length=sz) (h0:0<sz)
 (hold:(Builtin.firstCells i.size N (.slice base N C)).run P w.drew=.ok olds.toArray w.drew) (ho:olds.length=N*sz) (hs:Go.Src P sz tx xv m news w) (hC:C<N+m) (h1:(N+m)*i.bytes≤140737488355328) (h2:N+m≤4611686018427387904) :
 ∃ cap junk,(∀ ty,(Builtin.append_ #[T,tx] ty #[.slice base N C,xv]).run P w=.ok (.slice (some ⟨w.heap.size,0,none⟩) (N+m) cap) (w.drew.alloc (.cells (olds++news++junk).toArray e)))∧(olds++news).length+junk.length=cap*sz∧N+m≤cap∧cap≤maxLen:=by
 have hge:=grownCap_ge w (N+m) C e
 have hml:N+m≤maxLen:=by simp only [maxLen];omega
 have hle:=grownCap_le_maxLen w (N+m) C e hml
 refine ⟨grownCap w (N+m) C e,(Builtin.zeroCells zv.cells (grownCap w (N+m) C e - (N+m))).toList,fun ty=>?_,?_,hge,hle⟩
 · rw [←hsz] at hs
   have hr:=run_append_grow_src (P:=P) w T tx ty e i zv hu hi hz base N C olds hold xv m news hs hC (by omega) (growslice_fits hC h1)
   rw [hr]
   congr 3
   apply Array.ext'
   simp
 have hn:=hs.newsLen
 have e1:zv.cells.size=sz:=by rw [←hzl];simp
 have hz1:(Builtin.zeroCells zv.cells (grownCap w (N+m) C e - (N+m))).toList.length=(grownCap w (N+m) C e - (N+m))*sz:=by rw [Array.length_toList,size_zeroCells,e1]
 rw [List.length_append,hz1,ho,hn,←Nat.add_mul,←Nat.add_mul]
 congr 1;omega
theorem drew_alloc_upd (w:World) (o:Obj):Upd (fun _=>False) w (w.drew.alloc o):=(Upd.refl _ w).drew.alloc o
theorem drew_alloc_size (w:World) (o:Obj):(w.drew.alloc o).heap.size=w.heap.size+1:=by show (w.heap.push o).size=_;simp
theorem drew_alloc_new (w:World) (o:Obj):(w.drew.alloc o).heap[w.heap.size]?=some o:=by
 rw [show w.heap.size=w.drew.heap.size from rfl,alloc_new]
theorem kl_open {l:Rw} {vs junk:List Value} (hk:RL nx ρ l vs) (ty:Nat) {st:Nat}:DB nx ρ (vs.length+junk.length) (.cells l ty true st) (.cells (vs++junk).toArray ty (0,0)):=⟨vs,junk,hk,rfl,rfl,fun h=>by cases h⟩
theorem bif_val {α:Type} {b:Bool} {x y:α} (M:α→Prop) (h1:b=true→M x) (h2:b=false→M y):M (bif b then x else y):=by cases b;exact h2 rfl;exact h1 rfl
theorem le_ble {a b:Nat} (h:Nat.ble a b=true):a≤b:=Nat.le_of_ble_eq_true h
theorem lt_ble {a b:Nat} (h:Nat.ble a b=false):b<a:=by
 rcases Nat.lt_or_ge b a with h1 | h1
 · exact h1
 rw [Nat.ble_eq_true_of_le h1] at h;cases h
theorem ne_beq {a b:Nat} (h:Nat.beq a b=false):a≠b:=fun e=>by subst e;simp at h
theorem Wd.kill {op:Op} {h' h2:Tr CB} {v:CV} {nx':Nat} (hm:Mem ρ w0 h nx w) (ho:Old ρ h nx w ρ h2 w) (hw:Wd P op ρ w0 h2 nx a w (.val v h' nx')):Wd P op ρ w0 h nx a w (.val v h' nx'):=by
 obtain ⟨h1,v',w',ρ',e1,e2,e3,e4,e5,e6⟩:=hw
 exact ⟨h1,v',w',ρ',e1,e2,e3,e4,ho.trans hm e5 (Nat.le_refl _) (Ext.refl _ _),e6⟩
theorem apC_ok {T tx:Nat} {s x:Operand} (hs:Slots ρ E nx n a) (hm:Mem ρ w0 h nx w) (hfit:nx≤Fit):Wd P (.call ⟨.builtin .append,⟨[s,x]⟩,⟨[T,tx]⟩⟩) ρ w0 h nx a w (apC P E h nx T tx s x):=by
 unfold apC
 split
 · rename_i e sz by' z hz
   obtain ⟨hu,i,zv,hi,hzv,hsz,hby,kz,hzl,h0⟩:=elQ_ok hz nx ρ
   split
   · rename_i m news hsrc
     obtain ⟨xv,nw,ex,kn,hnl,hS⟩:=srcC_ok hs hm hsrc
     split
     · -- from nil
       rename_i hsv
       obtain ⟨v,e1,k1⟩:=evo_ok hs hsv
       have e2:=DV.nils.1 k1.2
       subst e2
       refine bif_val (Wd _ _ _ _ _ _ _ _) (fun _=>trivial) fun hm0=>bif_val (Wd _ _ _ _ _ _ _ _) (fun hb=>?_) fun _=>trivial
       have hm0:=ne_beq hm0
       simp only [Bool.and_eq_true] at hb
       have hb1:m*by'≤140737488355328:=le_ble hb.1
       obtain ⟨cap,junk,hr,hlen,hc1,hc2⟩:=app_grow (base:=none) (N:=0) (C:=0) (olds:=[]) hu hi hzv hsz hzl h0 (run_firstCells_none ..) (by simp) hS (by omega) (by rw [hby,Nat.zero_add];exact hb1) (by rw [Nat.zero_add];exact le_ble hb.2.1)
       rw [Nat.zero_add] at hr hc1
       simp only [List.nil_append] at hr hlen
       refine Wd.new (s:=nw.length+junk.length) hm hb.2.2 rfl (drew_alloc_upd w _) (drew_alloc_size w _) (drew_alloc_new w _) (kl_open (ofR_ok kn) e) (fun ρ' hρ=>?_) (Nat.lt_succ_self nx) (exec_app e1 ex hr)
       exact DV.slN.2 ⟨cap,by rw [hρ],by rw [hρ,hlen];show 0+cap*sz=cap*sz;omega,hc1,hc2⟩
     · -- a slice
       rename_i t o N sz' c hsv
       refine bif_val (Wd _ _ _ _ _ _ _ _) (fun _=>trivial) fun hne=>?_
       have hsq:sz=sz':=by
        cases hb:Nat.beq sz sz' with
        | true=>exact Nat.eq_of_beq_eq_true hb
        | false=>rw [hb] at hne;cases hne
       subst hsq
       obtain ⟨v,e1,k1⟩:=evo_ok hs hsv
       obtain ⟨C,hC⟩:=sl_inv k1
       subst hC
       have hNC:N≤C:=by
        cases c with
        | some c'=>obtain ⟨q1,_,q3,_⟩:=DV.slS.1 k1.2;cases q1;exact q3
        | none=>obtain ⟨c',q1,_,q3,_⟩:=DV.slN.1 k1.2;cases q1;exact q3
       refine bif_val (Wd _ _ _ _ _ _ _ _) (fun hm0=>?_) fun hm0=>?_
       · -- nothing to append
         have hm0:=Nat.eq_of_beq_eq_true hm0
         subst hm0
         have hnw:nw=[]:=List.eq_nil_of_length_eq_zero (by rw [hnl,Nat.zero_mul])
         subst hnw
         refine ⟨Nat.le_refl _,_,w,ρ,Ext.refl _ _,k1,hm,hfit,OldX.refl,exec_app e1 ex fun ty=>?_⟩
         rw [←hsz] at hS
         rcases hS.kind with ⟨e',hk⟩ | hk <;> simp [Builtin.append_,run_underlying hu,run_underlying hk,sizeOf,typeInfo,hi,hS.len,hNC,hS.cells,storeCells]
       have hm0:=ne_beq hm0
       split
       · rename_i l bt op st ht
         refine bif_val (Wd _ _ _ _ _ _ _ _) (fun _=>trivial) fun hbt=>?_
         have hbt:bt=e:=by
          cases hb:Nat.beq bt e with
          | true=>exact Nat.eq_of_beq_eq_true hb
          | false=>rw [hb] at hbt;cases hbt
         subst hbt
         have inplace:∀ c',N+m≤C→o+(N+m)*sz≤l.n→nx+1≤Fit→Kn nx ρ (.sl t o (N+m) sz c') (.slice (some ⟨(ρ t).1,o,none⟩) (N+m) C)→Wd P (.call ⟨.builtin .append,⟨[s,x]⟩,⟨[T,tx]⟩⟩) ρ w0 h nx a w (.val (.sl t o (Nat.add N m) sz c') (h.set (some (.cells (putR (Nat.add o (Nat.mul N sz)) news l) bt op nx)) Fit t) (Nat.succ nx)):=fun c' hr1 hr2 hf1 hk=>by
          have hp:o+N*sz+nw.length≤l.n:=by rw [hnl,Nat.add_assoc,←Nat.add_mul];exact hr2
          obtain ⟨cur,g1,g2,g3,g4⟩:=put_ok hm hfit ht kn hp
          have hrun:=fun ty=>run_app_room (P:=P) (tx:=tx) (ty:=ty) hu hi g1 (x:=xv) (by rw [hsz];exact hS) hr1 (by rw [hsz];exact g2)
          rw [hsz] at hrun
          have g5:=g4 _ (setRow_upd w (ρ t).1 _) (by rw [setRow_heap w (ρ t).1 _ _ bt _ g1])
          exact ⟨Nat.le_succ _,_,_,ρ,Ext.refl _ _,hk.up (Nat.le_succ _) (Ext.refl _ _),g5.1,hf1,g5.2,exec_app e1 ex hrun⟩
         split
         · -- room known
           rename_i c'
           obtain ⟨q1,q2,q3,q4⟩:=DV.slS.1 k1.2
           cases q1
           refine bif_val (Wd _ _ _ _ _ _ _ _) (fun hroom=>?_) fun hroom=>?_
           · have hroom:N+m≤C:=le_ble hroom
             refine bif_val (Wd _ _ _ _ _ _ _ _) (fun hfitl=>?_) fun _=>trivial
             simp only [Bool.and_eq_true] at hfitl
             exact inplace (some C) hroom (le_ble hfitl.1) (le_ble hfitl.2) ⟨k1.1,DV.slS.2 ⟨rfl,q2,hroom,q4⟩⟩
           have hroom:C<N+m:=lt_ble hroom
           refine bif_val (Wd _ _ _ _ _ _ _ _) (fun hb=>?_) fun _=>trivial
           simp only [Bool.and_eq_true] at hb
           obtain ⟨hb1,hb2,hb3,hb4⟩:=hb
           have hb1:(N+m)*by'≤140737488355328:=le_ble hb1
           obtain ⟨_,_,_,ob,p3,vs,junk0,kl,rfl,_,_⟩:=hm.own t _ ht
           have kk:=sliceR_ok (k:=N*sz) kl (Nat.eq_of_beq_eq_true hb4)
           have hlen:((vs.drop o).take (N*sz)).length=N*sz:=by rw [←lenC_ok kk];exact Nat.eq_of_beq_eq_true hb4
           have hdrop:((vs++junk0).drop o).take (N*sz)=(vs.drop o).take (N*sz):=by
            rw [List.length_take,List.length_drop] at hlen
            by_cases h0:N*sz=0
            · rw [h0];simp
            rw [List.drop_append_of_le_length (by omega),List.take_append_of_le_length (by rw [List.length_drop];omega)]
           have hold:(Builtin.firstCells i.size N (.slice (some ⟨(ρ t).1,o,none⟩) N C)).run P w.drew=.ok ((vs.drop o).take (N*sz)).toArray w.drew:=
            run_firstCells_some w.drew i.size N _ N C _ (by rw [hsz];exact hlen) (fun j v hj=>by
             have:=cell_at p3 hdrop.symm j v hj
             simpa using this)
           obtain ⟨cap,junk,hr,hl2,hc1,hc2⟩:=app_grow hu hi hzv hsz hzl h0 hold hlen hS hroom (by rw [hby];exact hb1) (le_ble hb2)
           refine Wd.new (s:=((vs.drop o).take (N*sz)++nw).length+junk.length) hm hb3 rfl (drew_alloc_upd w _) (drew_alloc_size w _) (drew_alloc_new w _) (kl_open (ofR_ok (appC_ok kk kn)) bt) (fun ρ' hρ=>?_) (Nat.lt_succ_self nx) (exec_app e1 ex hr)
           exact DV.slN.2 ⟨cap,by rw [hρ];rfl,by rw [hρ,hl2];show 0+cap*sz=cap*sz;omega,hc1,hc2⟩
         -- room unknown
         obtain ⟨C',q1,q2,q3,q4⟩:=DV.slN.1 k1.2
         cases q1
         obtain ⟨p1,ps,p2,ob,p3,vs,junk0,kl,rfl,p5,p6⟩:=hm.own t _ ht
         have hvl:=lenR_ok kl
         refine bif_val (Wd _ _ _ _ _ _ _ _) (fun hfitl=>?_) fun hfitl=>?_
         · simp only [Bool.and_eq_true] at hfitl
           have hff:=le_ble hfitl.2
           have hfitl:o+(N+m)*sz≤l.n:=le_ble hfitl.1
           have hroom:N+m≤C:=by
            have:(N+m)*sz≤C*sz:=by omega
            exact Nat.le_of_mul_le_mul_right this h0
           exact inplace none hroom hfitl hff ⟨k1.1,DV.slN.2 ⟨C,rfl,q2,hroom,q4⟩⟩
         refine bif_val (Wd _ _ _ _ _ _ _ _) (fun hb=>?_) fun _=>trivial
         simp only [Bool.and_eq_true] at hb
         obtain ⟨⟨hb1,hb2⟩,hb3,hb4,hb5⟩:=hb
         have ho:=Nat.eq_of_beq_eq_true hb1
         subst ho
         have hNl:N*sz=l.n:=Nat.eq_of_beq_eq_true hb2
         have hb3:(N+m)*by'≤140737488355328:=le_ble hb3
         have hf5:nx+1≤Fit:=le_ble hb5
         by_cases hroom:N+m≤C
         · -- in its place
           have hfit2:0+N*i.size+nw.length≤((vs++junk0).toArray).size:=by
            have:(N+m)*sz≤C*sz:=Nat.mul_le_mul_right _ hroom
            rw [Nat.add_mul] at this
            rw [hsz,hnl,List.size_toArray,List.length_append];omega
           have hrun:=fun ty=>run_app_room (P:=P) (tx:=tx) (ty:=ty) hu hi p3 (x:=xv) (by rw [hsz];exact hS) hroom hfit2
           obtain ⟨ρ',r1,r2,r3,r4⟩:=hm.rename (b':=.cells (appR l news) bt true nx) (w':=w.setRow (ρ t).1 ((vs++junk0).toArray.toList.take (0+N*i.size)++nw++(vs++junk0).toArray.toList.drop (0+N*i.size+nw.length)).toArray) hf5 rfl ht (setRow_upd w (ρ t).1 _) (by rw [setRow_heap w (ρ t).1 _ _ bt _ p3]) (by
            refine ⟨vs++nw,junk0.drop nw.length,appR_ok kl kn,?_,?_,fun hh=>by cases hh⟩
            · have e5:0+N*i.size=vs.length:=by rw [hsz,Nat.zero_add,hNl,hvl]
              rw [e5]
              simp only [List.take_left,List.drop_length_add_append]
            rw [List.length_append,List.length_drop]
            have:(N+m)*sz≤C*sz:=Nat.mul_le_mul_right _ hroom
            rw [Nat.add_mul] at this
            omega)
           refine ⟨Nat.le_succ _,_,_,ρ',r1,⟨Nat.lt_succ_self nx,DV.slN.2 ⟨C,?_,?_,hroom,q4⟩⟩,r3,hf5,r4,exec_app e1 ex hrun⟩
           · rw [r2];rfl
           rw [r2];exact q2
         have hroom:C<N+m:=by omega
         have hold:(Builtin.firstCells i.size N (.slice (some ⟨(ρ t).1,0,none⟩) N C)).run P w.drew=.ok vs.toArray w.drew:=
          run_firstCells_some w.drew i.size N _ N C _ (by rw [hsz,←hvl];exact hNl.symm) (fun j v hj=>by
           have:=cell_at p3 (o:=0) (m:=vs.length) (news:=vs) (by simp) j v hj
           simpa using this)
         obtain ⟨cap,junk,hr,hl2,hc1,hc2⟩:=app_grow hu hi hzv hsz hzl h0 hold (by rw [←hvl];exact hNl.symm) hS hroom (by rw [hby];exact hb3) (le_ble hb4)
         have hm2:=hm.kill hfit p1
         refine Wd.kill (h2:=h.set none Fit t) hm hm2.2 ?_
         refine Wd.new (s:=(vs++nw).length+junk.length) hm2.1 hb5 rfl (drew_alloc_upd w _) (drew_alloc_size w _) (drew_alloc_new w _) (kl_open (appR_ok kl kn) bt) (fun ρ' hρ=>?_) (Nat.lt_succ_self nx) (exec_app e1 ex hr)
         exact DV.slN.2 ⟨cap,by rw [hρ];rfl,by rw [hρ,hl2];show 0+cap*sz=cap*sz;omega,hc1,hc2⟩
       trivial
     trivial
   trivial
 trivial
end
end Go.Sl.Ev
namespace Go.Sl.Ev
open Go Go.Sl
section
variable {P:Program} {nx n:Nat} {ρ:Pl} {Φ:Imm→Prop} {w0:Bas Φ} {w:World} {E:Tr CV} {h:Tr CB} {a:Act}
theorem wv_copy {T tx:Nat} {d x:Operand} (hs:Slots ρ E nx n a) (hm:Mem ρ w0 h nx w) (hfit:nx≤Fit):Wd P (.call ⟨.builtin .copy,⟨[d,x]⟩,⟨[T,tx]⟩⟩) ρ w0 h nx a w (wv P E h nx (.call ⟨.builtin .copy,⟨[d,x]⟩,⟨[T,tx]⟩⟩)):=by
 show Wd _ _ _ _ _ _ _ _ (match elQ P T with
  | some (_,sz,_,_)=>match evo E d with
    | some (.sl t o n sz' _)=>match evo E x with
      | some (.sl t2 o2 n2 sz2 _)=>bif Nat.beq sz sz' && Nat.beq sz sz2 then
       (match h.get t with
       | some (.cells l bt op _)=>(match h.get t2 with
         | some (.cells l2 _ _ _) =>
           bif Nat.beq (lenC (sliceR l2 o2 (Nat.mul (Nat.min n2 n) sz))) (Nat.mul (Nat.min n2 n) sz) && (scalC (sliceR l2 o2 (Nat.mul (Nat.min n2 n) sz)) && (Nat.ble (Nat.add o (Nat.mul (Nat.min n2 n) sz)) l.n && Nat.ble (Nat.succ nx) Fit)) then
            .val (.int .i64 (Nat.min n2 n)) (h.set (some (.cells (putR o (sliceR l2 o2 (Nat.mul (Nat.min n2 n) sz)) l) bt op nx)) Fit t) (Nat.succ nx) else .bad
         | _=>.bad)
       | _=>.bad) else .bad
      | some .nils=>.val (.int .i64 0) h nx
      | _=>.bad
    | _=>.bad
  | none=>.bad)
 split
 · rename_i e sz by' z hz
   obtain ⟨hu,i,zv,hi,hzv,hsz,hby,kz,hzl,h0⟩:=elQ_ok hz nx ρ
   split
   · rename_i t o N sz' c hd
     obtain ⟨v,e1,k1⟩:=evo_ok hs hd
     obtain ⟨C,rfl⟩:=sl_inv k1
     split
     · rename_i t2 o2 n2 sz2 c2 hx
       obtain ⟨v2,e2,k2⟩:=evo_ok hs hx
       obtain ⟨C2,rfl⟩:=sl_inv k2
       refine bif_val (Wd _ _ _ _ _ _ _ _) (fun hb=>?_) fun _=>trivial
       simp only [Bool.and_eq_true] at hb
       have q1:=Nat.eq_of_beq_eq_true hb.1
       have q2:=Nat.eq_of_beq_eq_true hb.2
       subst q1 q2
       split
       · rename_i l bt op st ht
         split
         · rename_i l2 bt2 op2 st2 ht2
           refine bif_val (Wd _ _ _ _ _ _ _ _) (fun hb=>?_) fun _=>trivial
           simp only [Bool.and_eq_true] at hb
           obtain ⟨hb1,hb2,hb3,hb4⟩:=hb
           obtain ⟨k,hk⟩:∃ k,k=Nat.min n2 N:=⟨_,rfl⟩
           rw [←hk] at hb1 hb2 hb3 ⊢
           obtain ⟨_,_,_,ob,p3,vs,junk0,kl,rfl,_,_⟩:=hm.own t2 _ ht2
           have kk:=sliceR_ok (k:=k*sz) kl (Nat.eq_of_beq_eq_true hb1)
           have hlen:((vs.drop o2).take (k*sz)).length=k*sz:=by rw [←lenC_ok kk];exact Nat.eq_of_beq_eq_true hb1
           have hdrop:((vs++junk0).drop o2).take (k*sz)=(vs.drop o2).take (k*sz):=by
            rw [List.length_take,List.length_drop] at hlen
            by_cases h0:k*sz=0
            · rw [h0];simp
            rw [List.drop_append_of_le_length (by omega),List.take_append_of_le_length (by rw [List.length_drop];omega)]
           have hp:o+((vs.drop o2).take (k*sz)).length≤l.n:=by rw [hlen];exact le_ble hb3
           obtain ⟨cur,g1,g2,g3,g4⟩:=put_ok hm hfit ht kk hp
           have hone:=scalC_ok kk hb2
           have hrun:=fun ty=>run_copy (P:=P) (tx:=tx) (ty:=ty) (dCap:=C) (sCap:=C2) hu hi g1 hk.symm (by rw [hsz];exact hlen) (cell_at p3 hdrop.symm) (fun v hv=>List.all_eq_true.1 hone v hv) g2
           have g5:=g4 _ (setRow_upd w (ρ t).1 _) (by rw [setRow_heap w (ρ t).1 _ _ bt _ g1])
           exact ⟨Nat.le_succ _,_,_,ρ,Ext.refl _ _,kn_int,g5.1,le_ble hb4,g5.2,exec_copy e1 e2 hrun⟩
         trivial
       trivial
     · rename_i hx
       obtain ⟨v2,e2,k2⟩:=evo_ok hs hx
       have q2:=DV.nils.1 k2.2
       subst q2
       exact ⟨Nat.le_refl _,_,w,ρ,Ext.refl _ _,kn_int,hm,hfit,OldX.refl,exec_copy e1 e2 fun ty=>run_copy0 hu hi (Nat.zero_min _)⟩
     trivial
   trivial
 trivial
theorem wv_ok {op:Op} (hs:Slots ρ E nx n a) (hm:Mem ρ w0 h nx w) (hfit:nx≤Fit):Wd P op ρ w0 h nx a w (wv P E h nx op):=by
 obtain ⟨r,hr⟩:∃ r,wv P E h nx op=r:=⟨_,rfl⟩
 have hr':=hr
 unfold wv at hr
 split at hr
 · rw [hr'];exact wv_alloc hs hm hr'
 · rw [hr'];exact wv_box hs hm hr'
 · rw [hr'];exact wv_store hs hm hfit hr'
 · rw [hr'];exact wv_buildSlice hs hm hr'
 · rw [hr'];exact wv_makeSlice hs hm hr'
 · exact apC_ok hs hm hfit
 · exact wv_copy hs hm hfit
 rw [hr',←hr];trivial
end
end Go.Sl.Ev
namespace Go.Sl.Ev
open Go Go.Sl
def bnd (o:Oper):List Nat:=(o.after.toList.filter (Region.binds .any)).map (·.on)
noncomputable def allB {α:Type} (p:α→Bool) (l:List α):Bool:=List.rec true (fun x _ ih=>p x && ih) l
noncomputable def anyB {α:Type} (p:α→Bool) (l:List α):Bool:=List.rec false (fun x _ ih=>p x || ih) l
theorem allB_iff {α:Type} {p:α→Bool}:∀ {l:List α},allB p l=true↔∀ x∈l,p x=true:=by
 intro l
 induction l with
 | nil=>exact ⟨fun _ x h=>(by cases h),fun _=>rfl⟩
 | cons a l ih =>
   show (p a && allB p l)=true↔_
   rw [Bool.and_eq_true,ih]
   exact ⟨fun h x hx=>by rcases List.mem_cons.1 hx with rfl | hx;exact h.1;exact h.2 x hx,fun h=>⟨h a List.mem_cons_self,fun x hx=>h x (List.mem_cons_of_mem _ hx)⟩⟩
theorem anyB_iff {α:Type} {p:α→Bool}:∀ {l:List α},anyB p l=true↔∃ x∈l,p x=true:=by
 intro l
 induction l with
 | nil=>exact ⟨fun h=>(by cases h),fun ⟨x,h,_⟩=>(by cases h)⟩
 | cons a l ih =>
   show (p a || anyB p l)=true↔_
   rw [Bool.or_eq_true,ih]
   exact ⟨fun h=>by rcases h with h | ⟨x,h1,h2⟩;exact ⟨a,List.mem_cons_self,h⟩;exact ⟨x,List.mem_cons_of_mem _ h1,h2⟩,fun ⟨x,h1,h2⟩=>by rcases List.mem_cons.1 h1 with rfl | h1;exact .inl h2;exact .inr ⟨x,h1,h2⟩⟩
noncomputable def rdy (m i:Nat) (o:Oper):Bool:=not (Nat.testBit m i) && allB (Nat.testBit m) (bnd o)
noncomputable def hasE (o:Oper) (i:Nat):Bool:=anyB (Nat.beq i) (bnd o)
noncomputable def allI (p:Nat→Oper→Bool) (l:List Oper):Nat→Bool:=List.rec (fun _=>true) (fun o _ ih j=>p j o && ih (Nat.succ j)) l
noncomputable def findI (p:Nat→Oper→Bool) (l:List Oper):Nat→Option Nat:=List.rec (fun _=>none) (fun o _ ih j=>bif p j o then some j else ih (Nat.succ j)) l
theorem allI_ok {p:Nat→Oper→Bool}:∀ {l:List Oper} {j:Nat},allI p l j=true→∀ k o,l[k]?=some o→p (j+k) o=true:=by
 intro l
 induction l with
 | nil=>intro j _ k o h;simp at h
 | cons x l ih =>
   intro j h k o hk
   have h':(p j x && allI p l (j+1))=true:=h
   rw [Bool.and_eq_true] at h'
   cases k with
   | zero=>simp at hk;subst hk;exact h'.1
   | succ k =>
     have:=ih h'.2 k o (by simpa using hk)
     rw [show j+(k+1)=j+1+k by omega];exact this
theorem findI_ok {p:Nat→Oper→Bool}:∀ {l:List Oper} {j i:Nat},findI p l j=some i→∃ k o,i=j+k∧l[k]?=some o∧p i o=true:=by
 intro l
 induction l with
 | nil=>intro j i h;cases h
 | cons x l ih =>
   intro j i h
   have h':(bif p j x then some j else findI p l (j+1))=some i:=h
   rcases bif_cases h' with ⟨h1,h2⟩ | ⟨_,h2⟩
   · cases h2;exact ⟨0,x,rfl,rfl,h1⟩
   obtain ⟨k,o,e,h3,h4⟩:=ih h2
   exact ⟨k+1,o,by omega,by simpa using h3,h4⟩
def lookK:Op→Bool
 | .move _ | .assign _ | .pick .. | .unOp .. | .binOp .. | .convert .. | .extract .. | .nilCheck _ | .fieldAddr .. | .field .. | .load .. | .makeFunc .. | .indexAddr .. | .index .. | .slice .. | .build .. | .lookup ..=>true
 | .call ⟨.builtin .len,_,_⟩ | .call ⟨.builtin .cap,_,_⟩ | .call ⟨.builtin .min,_,_⟩ | .call ⟨.builtin .max,_,_⟩=>true
 | _=>false
noncomputable def frB (all:Array Oper) (m i:Nat) (oi:Oper) (l:List Oper):Bool:=allI (fun j oj=>Nat.beq j i || (Nat.testBit m j || (hasE oj i || oi.apart all oj))) l 0
noncomputable def bitS (m i:Nat):Nat:=m ||| (1 <<< i)
inductive Pk where
 | look
 | only
 | race (R:List Nat)
 | make (R:List Nat)
def mkrB:Op→Bool
 | .alloc _ | .box .. | .makeSlice .. | .buildSlice .. | .makeMap _ none=>true
 | _=>false
def isT (d:Nat):Operand→Bool | .tmp t=>Nat.beq t d | _=>false
noncomputable def isMk (o:Oper):Bool:=mkrB o.op && (match o.guard with | none=>(match o.dst with | some d=>not (anyB (isT d) o.op.operands.toList) | none=>false) | some _=>false)
noncomputable def memB (R:List Nat) (i:Nat):Bool:=anyB (Nat.beq i) R
noncomputable def nthB (l:List Oper) (i:Nat) (p:Oper→Bool):Bool:=match nth l i with | some o=>p o | none=>false
noncomputable def setR (R:List Nat) (m:Nat):Nat:=List.rec m (fun j _ ih=>bitS ih j) R
noncomputable def rdyL (l:List Oper) (m:Nat):List Nat:=List.rec (motive:=fun _=>Nat→List Nat) (fun _=>[]) (fun o _ ih j=>bif rdy m j o then j :: ih (Nat.succ j) else ih (Nat.succ j)) l 0
noncomputable def raceB (l:List Oper) (m:Nat) (Rc:List Nat) (i:Nat) (o:Oper) (R:List Nat):Bool:=
 (rdy m i o && allB (fun k=>Nat.beq k i || memB R k) Rc) && ((not (memB R i) && allB (fun j=>nthB l j fun oj=>(isMk oj && not (Nat.testBit m j)) && (oj.apart l.toArray o && allB (fun k=>Nat.beq k j || nthB l k fun ok=>oj.apart l.toArray ok) R)) R) &&
  allI (fun j oj=>Nat.beq j i || not (rdy (setR R m) j oj)) l 0)
def onlyR (R Rc:List Nat):Bool:=match R,Rc with | [],[]=>true | _,_=>false
theorem onlyR_ok {R Rc:List Nat} (h:onlyR R Rc=true):R=[]∧Rc=[]:=by
 cases R <;> cases Rc <;> first | exact ⟨rfl,rfl⟩ | cases h
noncomputable def planF (l:List Oper) (f:Nat):Nat→List Nat→Option (List (Nat×Pk)):=
 Nat.rec (fun m Rc=>bif allI (fun j o=>not (rdy m j o)) l 0 then (bif onlyR [] Rc then some [] else none) else none)
  (fun _ ih m Rc=>match findI (fun i o=>lookK o.op && (rdy m i o && frB l.toArray m i o l)) l 0 with
   | some i=>(match ih (bitS m i) Rc with | some p=>some ((i,.look) :: p) | none=>none)
   | none=>(match findI (fun i o=>rdy m i o && not (isMk o)) l 0 with
     | some i=>bif nthB l i (fun o=>raceB l m Rc i o ((rdyL l m).filter fun j=>not (Nat.beq j i))) then
      (bif onlyR ((rdyL l m).filter fun j=>not (Nat.beq j i)) Rc then (match ih (bitS m i) [] with | some p=>some ((i,.only) :: p) | none=>none) else
      bif nthB l i (fun o=>not (mkrB o.op) && (match o.guard with | none=>true | some _=>false)) then (match ih (bitS m i) ((rdyL l m).filter fun j=>not (Nat.beq j i)) with | some p=>some ((i,.race ((rdyL l m).filter fun j=>not (Nat.beq j i))) :: p) | none=>none) else none) else none
     | none=>(match findI (rdy m) l 0 with
       | some i=>bif nthB l i (fun o=>isMk o && raceB l m Rc i o ((rdyL l m).filter fun j=>not (Nat.beq j i))) then
        (bif onlyR ((rdyL l m).filter fun j=>not (Nat.beq j i)) Rc then (match ih (bitS m i) [] with | some p=>some ((i,.only) :: p) | none=>none) else
        (match ih (bitS m i) ((rdyL l m).filter fun j=>not (Nat.beq j i)) with | some p=>some ((i,.make ((rdyL l m).filter fun j=>not (Nat.beq j i))) :: p) | none=>none)) else none
       | none=>none))) f
noncomputable def planQ (l:List Oper):Option (List (Nat×Pk)):=bif Region.noSelect l.toArray && l.all notDefer then planF l l.length 0 [] else none
def LM (l:List Oper) (L:Array Bool) (m:Nat):Prop:=L.size=l.length∧∀ i,L.getD i false=Nat.testBit m i
theorem LM.in {l:List Oper} {L:Array Bool} {m:Nat} (h:LM l L m) {i:Nat} (hi:i<l.length):L.getD i true=Nat.testBit m i:=by
 rw [←h.2 i]
 have:i<L.size:=by rw [h.1];exact hi
 simp [this]
theorem LM.set {l:List Oper} {L:Array Bool} {m i:Nat} (h:LM l L m) (hi:i<l.length):LM l (L.setIfInBounds i true) (bitS m i):=by
 refine ⟨by simp [h.1],fun j=>?_⟩
 unfold bitS
 rw [Nat.testBit_or,←h.2 j]
 have hsz:i<L.size:=by rw [h.1];exact hi
 by_cases e:i=j
 · subst e
   have:(1 <<< i).testBit i=true:=by rw [Nat.testBit_shiftLeft];simp
   rw [this,Bool.or_true]
   simp [hsz]
 have:(1 <<< i).testBit j=false:=by rw [Nat.one_shiftLeft,Nat.testBit_two_pow_of_ne e]
 rw [this,Bool.or_false]
 rw [Array.getD_eq_getD_getElem?,Array.getD_eq_getD_getElem?,Array.getElem?_setIfInBounds_ne e]
theorem LM.start (l:List Oper):LM l (Array.replicate l.length false) 0:=by
 refine ⟨by simp,fun i=>?_⟩
 rw [Nat.zero_testBit,Array.getD_eq_getD_getElem?,Array.getElem?_replicate]
 split <;> rfl
theorem rdy_iff {l:List Oper} {L:Array Bool} {m j:Nat} {o:Oper} (h:LM l L m) (hj:l[j]?=some o):rdy m j o=true↔j∈Region.ready .any l.toArray L:=by
 have hlt:j<l.length:=(List.getElem?_eq_some_iff.1 hj).1
 rw [mem_ready]
 unfold rdy
 rw [Bool.and_eq_true,Bool.not_eq_true',allB_iff,h.in hlt]
 have hj':l.toArray[j]?=some o:=by simpa using hj
 refine ⟨fun ⟨h1,h2⟩=>⟨h1,o,hj',fun e he hb=>?_⟩,fun ⟨h1,o',ho',h2⟩=>⟨h1,fun x hx=>?_⟩⟩
 · rw [h.2];exact h2 e.on (List.mem_map.2 ⟨e,List.mem_filter.2 ⟨Array.mem_toList_iff.2 he,hb⟩,rfl⟩)
 rw [hj'] at ho';cases ho'
 obtain ⟨e,he,rfl⟩:=List.mem_map.1 hx
 obtain ⟨he1,he2⟩:=List.mem_filter.1 he
 rw [←h.2];exact h2 e (Array.mem_toList_iff.1 he1) he2
theorem hasE_iff {o:Oper} {i:Nat}:hasE o i=true↔∃ e∈o.after,Region.binds .any e=true∧e.on=i:=by
 unfold hasE
 rw [anyB_iff]
 refine ⟨fun ⟨x,hx,hb⟩=>?_,fun ⟨e,he,hb,hi⟩=>⟨i,List.mem_map.2 ⟨e,List.mem_filter.2 ⟨Array.mem_toList_iff.2 he,hb⟩,hi⟩,by simp⟩⟩
 have:=Nat.eq_of_beq_eq_true hb
 subst this
 obtain ⟨e,he,rfl⟩:=List.mem_map.1 hx
 obtain ⟨he1,he2⟩:=List.mem_filter.1 he
 exact ⟨e,Array.mem_toList_iff.1 he1,he2,rfl⟩
def setA (R:List Nat) (L:Array Bool):Array Bool:=R.foldr (fun j L=>L.setIfInBounds j true) L
structure RaceOk (l:List Oper) (L:Array Bool) (Rc:List Nat) (i:Nat) (R:List Nat):Prop where
 rd:i∈Region.ready .any l.toArray L
 sub:∀ k∈Rc,k=i∨k∈R
 ni:i ∉ R
 mks:∀ j∈R,∃ oj,l[j]?=some oj∧isMk oj=true∧L.getD j true=false∧(∀ o,l[i]?=some o→oj.apart l.toArray o=true)∧∀ k∈R,k≠j→∀ ok,l[k]?=some ok→oj.apart l.toArray ok=true
 only:∀ j,j∈Region.ready .any l.toArray (setA R L)→j=i
def PlanOk (l:List Oper):Array Bool→List Nat→List (Nat×Pk)→Prop
 | L,Rc,[]=>Region.ready .any l.toArray L=[]∧Rc=[]
 | L,Rc,(i,.look) :: p=>(∃ o,l[i]?=some o∧lookK o.op=true∧i∈Region.ready .any l.toArray L∧∀ j oj,l.toArray[j]?=some oj→j≠i→L.getD j true=false→(∀ e∈oj.after,Region.binds .any e=true→e.on≠i)→o.apart l.toArray oj=true)∧PlanOk l (L.setIfInBounds i true) Rc p
 | L,Rc,(i,.only) :: p=>Rc=[]∧(∃ o,l[i]?=some o∧i∈Region.ready .any l.toArray L∧∀ j∈Region.ready .any l.toArray L,j=i)∧PlanOk l (L.setIfInBounds i true) [] p
 | L,Rc,(i,.race R) :: p=>RaceOk l L Rc i R∧(∃ o,l[i]?=some o∧o.guard=none∧mkrB o.op=false)∧PlanOk l (L.setIfInBounds i true) R p
 | L,Rc,(i,.make R) :: p=>RaceOk l L Rc i R∧(∃ o,l[i]?=some o∧isMk o=true)∧PlanOk l (L.setIfInBounds i true) R p
theorem nthB_ok {l:List Oper} {i:Nat} {p:Oper→Bool} (h:nthB l i p=true):∃ o,l[i]?=some o∧p o=true:=by
 unfold nthB at h
 split at h
 · rename_i o ho;exact ⟨o,by rw [←nth_eq];exact ho,h⟩
 cases h
theorem memB_iff {R:List Nat} {i:Nat}:memB R i=true↔i∈R:=by
 unfold memB
 rw [anyB_iff]
 exact ⟨fun ⟨x,h1,h2⟩=>by rw [Nat.eq_of_beq_eq_true h2];exact h1,fun h=>⟨i,h,by simp⟩⟩
theorem setA_LM {l:List Oper}:∀ {R:List Nat} {L:Array Bool} {m:Nat},LM l L m→(∀ j∈R,j<l.length)→LM l (setA R L) (setR R m)
 | [],_,_,h,_=>h
 | j :: R,_,_,h,hr=>(setA_LM h fun k hk=>hr k (List.mem_cons_of_mem _ hk)).set (hr j (List.mem_cons_self ..))
theorem raceB_ok {l:List Oper} {m:Nat} {L:Array Bool} {Rc R:List Nat} {i:Nat} {o:Oper} (hL:LM l L m) (ho:l[i]?=some o) (h:raceB l m Rc i o R=true):RaceOk l L Rc i R:=by
 unfold raceB at h
 simp only [Bool.and_eq_true] at h
 obtain ⟨⟨h1,h2⟩,⟨h3,h4⟩,h5⟩:=h
 have hmk:∀ j∈R,∃ oj,l[j]?=some oj∧isMk oj=true∧Nat.testBit m j=false∧oj.apart l.toArray o=true∧∀ k∈R,k≠j→∀ ok,l[k]?=some ok→oj.apart l.toArray ok=true:=fun j hj=>by
  have:=allB_iff.1 h4 j hj
  obtain ⟨oj,e1,e2⟩:=nthB_ok this
  simp only [Bool.and_eq_true,Bool.not_eq_true'] at e2
  obtain ⟨⟨e3,e4⟩,e5,e6⟩:=e2
  refine ⟨oj,e1,e3,e4,e5,fun k hk hne ok hok=>?_⟩
  have:=allB_iff.1 e6 k hk
  simp only [Bool.or_eq_true] at this
  rcases this with h | h
  · exact absurd (Nat.eq_of_beq_eq_true h) hne
  obtain ⟨ok',e7,e8⟩:=nthB_ok h
  rw [hok] at e7;cases e7;exact e8
 have hlt:∀ j∈R,j<l.length:=fun j hj=>by obtain ⟨oj,e1,_⟩:=hmk j hj;exact (List.getElem?_eq_some_iff.1 e1).1
 refine ⟨(rdy_iff hL ho).1 h1,fun k hk=>?_,fun hi=>?_,fun j hj=>?_,fun j hj=>?_⟩
 · have:=allB_iff.1 h2 k hk
   simp only [Bool.or_eq_true] at this
   exact this.imp Nat.eq_of_beq_eq_true memB_iff.1
 · rw [memB_iff.2 hi] at h3;cases h3
 · obtain ⟨oj,e1,e2,e3,e4,e5⟩:=hmk j hj
   exact ⟨oj,e1,e2,by rw [hL.in (hlt j hj)];exact e3,fun o' ho'=>by rw [ho] at ho';cases ho';exact e4,e5⟩
 obtain ⟨_,oj,hoj,_⟩:=mem_ready.1 hj
 have hoj':l[j]?=some oj:=by simpa using hoj
 have:=allI_ok h5 j oj hoj'
 rw [Nat.zero_add,(rdy_iff (setA_LM hL hlt) hoj').2 hj] at this
 simp only [Bool.not_true,Bool.or_false] at this
 exact Nat.eq_of_beq_eq_true this
theorem planF_ok {l:List Oper}:∀ {f m:Nat} {L:Array Bool} {Rc:List Nat} {p:List (Nat×Pk)},LM l L m→planF l f m Rc=some p→PlanOk l L Rc p∧p.length=f:=by
 intro f
 induction f with
 | zero =>
   intro m L Rc p hL h
   have h':(bif allI (fun j o=>not (rdy m j o)) l 0 then (bif onlyR [] Rc then some [] else none) else none)=some p:=h
   rcases bif_cases h' with ⟨h1,h2⟩ | ⟨_,h2⟩
   · rcases bif_cases h2 with ⟨h3,h2⟩ | ⟨_,h2⟩
     · obtain ⟨_,rfl⟩:=onlyR_ok h3
       cases h2
       refine ⟨⟨List.eq_nil_iff_forall_not_mem.2 fun j hj=>?_,rfl⟩,rfl⟩
       obtain ⟨_,o,ho,_⟩:=mem_ready.1 hj
       have ho':l[j]?=some o:=by simpa using ho
       have:=allI_ok h1 j o ho'
       rw [Nat.zero_add] at this
       rw [(rdy_iff hL ho').2 hj] at this
       cases this
     cases h2
   · cases h2
 | succ f ih =>
   intro m L Rc p hL h
   have h':(match findI (fun i o=>lookK o.op && (rdy m i o && frB l.toArray m i o l)) l 0 with
    | some i=>(match planF l f (bitS m i) Rc with | some p=>some ((i,.look) :: p) | none=>none)
    | none=>(match findI (fun i o=>rdy m i o && not (isMk o)) l 0 with
      | some i=>bif nthB l i (fun o=>raceB l m Rc i o ((rdyL l m).filter fun j=>not (Nat.beq j i))) then
       (bif onlyR ((rdyL l m).filter fun j=>not (Nat.beq j i)) Rc then (match planF l f (bitS m i) [] with | some p=>some ((i,.only) :: p) | none=>none) else
       bif nthB l i (fun o=>not (mkrB o.op) && (match o.guard with | none=>true | some _=>false)) then (match planF l f (bitS m i) ((rdyL l m).filter fun j=>not (Nat.beq j i)) with | some p=>some ((i,.race ((rdyL l m).filter fun j=>not (Nat.beq j i))) :: p) | none=>none) else none) else none
      | none=>(match findI (rdy m) l 0 with
        | some i=>bif nthB l i (fun o=>isMk o && raceB l m Rc i o ((rdyL l m).filter fun j=>not (Nat.beq j i))) then
         (bif onlyR ((rdyL l m).filter fun j=>not (Nat.beq j i)) Rc then (match planF l f (bitS m i) [] with | some p=>some ((i,.only) :: p) | none=>none) else
         (match planF l f (bitS m i) ((rdyL l m).filter fun j=>not (Nat.beq j i)) with | some p=>some ((i,.make ((rdyL l m).filter fun j=>not (Nat.beq j i))) :: p) | none=>none)) else none
        | none=>none)))=some p:=h
   have lt:∀ {i:Nat} {o:Oper},l[i]?=some o→i<l.length:=fun h=>(List.getElem?_eq_some_iff.1 h).1
   have one:∀ {i:Nat} {o:Oper},l[i]?=some o→RaceOk l L [] i []→(∃ o,l[i]?=some o∧i∈Region.ready .any l.toArray L∧∀ j∈Region.ready .any l.toArray L,j=i):=fun ho hr=>⟨_,ho,hr.rd,hr.only⟩
   split at h'
   · rename_i i hi
     obtain ⟨k,o,rfl,ho,hp⟩:=findI_ok hi
     rw [Nat.zero_add] at *
     simp only [Bool.and_eq_true] at hp
     split at h'
     · rename_i q hq
       cases h'
       obtain ⟨e1,e2⟩:=ih (hL.set (lt ho)) hq
       refine ⟨⟨⟨o,ho,hp.1,(rdy_iff hL ho).1 hp.2.1,fun j oj hj hne hun hno=>?_⟩,e1⟩,by rw [List.length_cons,e2]⟩
       have hj':l[j]?=some oj:=by simpa using hj
       have:=allI_ok hp.2.2 j oj hj'
       rw [Nat.zero_add] at this
       simp only [Bool.or_eq_true] at this
       rcases this with h1 | h1 | h1 | h1
       · exact absurd (Nat.eq_of_beq_eq_true h1) hne
       · rw [hL.in (lt hj')] at hun;rw [hun] at h1;cases h1
       · obtain ⟨e,he,hb,hi⟩:=hasE_iff.1 h1
         exact absurd hi (hno e he hb)
       exact h1
     cases h'
   split at h'
   · rename_i i hi
     rcases bif_cases h' with ⟨h1,h2⟩ | ⟨_,h2⟩
     · obtain ⟨o,ho,hr⟩:=nthB_ok h1
       generalize ((rdyL l m).filter fun j=>not (Nat.beq j i))=R at hr h2
       have hro:=raceB_ok hL ho hr
       rcases bif_cases h2 with ⟨h3,h2⟩ | ⟨_,h2⟩
       · obtain ⟨rfl,rfl⟩:=onlyR_ok h3
         split at h2
         · rename_i q hq
           cases h2
           obtain ⟨e1,e2⟩:=ih (hL.set (lt ho)) hq
           exact ⟨⟨rfl,one ho hro,e1⟩,by rw [List.length_cons,e2]⟩
         cases h2
       rcases bif_cases h2 with ⟨h3,h4⟩ | ⟨_,h4⟩
       · obtain ⟨o',ho',hg⟩:=nthB_ok h3
         split at h4
         · rename_i q hq
           cases h4
           obtain ⟨e1,e2⟩:=ih (hL.set (lt ho)) hq
           rw [Bool.and_eq_true,Bool.not_eq_true'] at hg
           refine ⟨⟨hro,⟨o',ho',?_,hg.1⟩,e1⟩,by rw [List.length_cons,e2]⟩
           cases hgd:o'.guard with
           | none=>rfl
           | some g=>rw [hgd] at hg;cases hg.2
         cases h4
       cases h4
     cases h2
   split at h'
   · rename_i i hi
     rcases bif_cases h' with ⟨h1,h2⟩ | ⟨_,h2⟩
     · obtain ⟨o,ho,hr⟩:=nthB_ok h1
       rw [Bool.and_eq_true] at hr
       obtain ⟨hmk,hr⟩:=hr
       generalize ((rdyL l m).filter fun j=>not (Nat.beq j i))=R at hr h2
       have hro:=raceB_ok hL ho hr
       rcases bif_cases h2 with ⟨h3,h2⟩ | ⟨_,h2⟩
       · obtain ⟨rfl,rfl⟩:=onlyR_ok h3
         split at h2
         · rename_i q hq
           cases h2
           obtain ⟨e1,e2⟩:=ih (hL.set (lt ho)) hq
           exact ⟨⟨rfl,one ho hro,e1⟩,by rw [List.length_cons,e2]⟩
         cases h2
       split at h2
       · rename_i q hq
         cases h2
         obtain ⟨e1,e2⟩:=ih (hL.set (lt ho)) hq
         exact ⟨⟨hro,⟨o,ho,hmk⟩,e1⟩,by rw [List.length_cons,e2]⟩
       cases h2
     cases h2
   cases h'
theorem planQ_ok {l:List Oper} {p:List (Nat×Pk)} (h:planQ l=some p):Region.noSelect l.toArray=true∧l.all notDefer=true∧PlanOk l (Array.replicate l.length false) [] p∧p.length=l.length:=by
 unfold planQ at h
 rcases bif_cases h with ⟨h1,h2⟩ | ⟨_,h2⟩
 · rw [Bool.and_eq_true] at h1
   obtain ⟨e1,e2⟩:=planF_ok (LM.start l) h2
   exact ⟨h1.1,h1.2,e1,e2⟩
 cases h2
end Go.Sl.Ev
