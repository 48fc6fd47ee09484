/- sT of the proof (part 7): what the rows' text needs of the texts that lead to it. -/
import Derived.Test.YtngphgeghfdjbaaGreatDoorMAf
set_option linter.unusedVariables false
set_option linter.unusedSimpArgs false
set_option linter.unusedSectionVars false
set_option maxHeartbeats 4000000
noncomputable section
set_option maxRecDepth 100000
namespace Go.Proofs.YtngphgeghfdjbaaGreatDoor
open Go Go.Sl
theorem FC {k1 k2:Int} {l:List R2} {x y z:PV} (h:¬sN k1 k2 l=0):tB k1 k2 l x y z=(0,sN k1 k2 l):=by unfold tB;rw [aR h]
theorem Wm {k1 k2:Int} {l:List R2} {x y z:PV} (h:sN k1 k2 l=0) (h1:¬rP x=true):tB k1 k2 l x y z=(1,80):=by
 unfold tB;rw [aK (fun h0=>h0 h),aR h1]
theorem Wn {k1 k2:Int} {l:List R2} {x y z:PV} (h:sN k1 k2 l=0) (h1:rP x=true) (h2:¬tW x k1 l):tB k1 k2 l x y z=(1,180):=by
 unfold tB;rw [aK (fun h0=>h0 h),aK (fun h0=>h0 h1),aR h2]
theorem Wo {k1 k2:Int} {l:List R2} {x y z:PV} (h:sN k1 k2 l=0) (h1:rP x=true) (h2:tW x k1 l) (h3:¬rP y=true):tB k1 k2 l x y z=(2,80):=by
 unfold tB;rw [aK (fun h0=>h0 h),aK (fun h0=>h0 h1),aK (fun h0=>h0 h2),aR h3]
theorem Wp {k1 k2:Int} {l:List R2} {x y z:PV} (h:sN k1 k2 l=0) (h1:rP x=true) (h2:tW x k1 l) (h3:rP y=true) (h4:¬tW y k2 l):tB k1 k2 l x y z=(2,180):=by
 unfold tB;rw [aK (fun h0=>h0 h),aK (fun h0=>h0 h1),aK (fun h0=>h0 h2),aK (fun h0=>h0 h3),aR h4]
theorem Wq {k1 k2:Int} {l:List R2} {x y z:PV} (h:sN k1 k2 l=0) (h1:rP x=true) (h2:tW x k1 l) (h3:rP y=true) (h4:tW y k2 l) (h5:¬rP z=true):tB k1 k2 l x y z=(3,80):=by
 unfold tB;rw [aK (fun h0=>h0 h),aK (fun h0=>h0 h1),aK (fun h0=>h0 h2),aK (fun h0=>h0 h3),aK (fun h0=>h0 h4),aR h5]
theorem Ws {k1 k2:Int} {l:List R2} {x y z:PV} (h:sN k1 k2 l=0) (h1:rP x=true) (h2:tW x k1 l) (h3:rP y=true) (h4:tW y k2 l) (h5:rP z=true) (h6:¬tJ z l):tB k1 k2 l x y z=(3,180):=by
 unfold tB;rw [aK (fun h0=>h0 h),aK (fun h0=>h0 h1),aK (fun h0=>h0 h2),aK (fun h0=>h0 h3),aK (fun h0=>h0 h4),aK (fun h0=>h0 h5),aR h6]
theorem Wt {k1 k2:Int} {l:List R2} {x y z:PV} (h:sN k1 k2 l=0) (h1:rP x=true) (h2:tW x k1 l) (h3:rP y=true) (h4:tW y k2 l) (h5:rP z=true) (h6:tJ z l):tB k1 k2 l x y z=(0,0):=by
 unfold tB;rw [aK (fun h0=>h0 h),aK (fun h0=>h0 h1),aK (fun h0=>h0 h2),aK (fun h0=>h0 h3),aK (fun h0=>h0 h4),aK (fun h0=>h0 h5),aK (fun h0=>h0 h6)]
section
attribute [local irreducible] tW tJ sN rP uM
theorem c26 (G:Imm) (k1 k2:Int) (pl:List R2) (pa:Option Addr) (pc:Nat) (xp yp zp:PV) (xac xao yac yao zac zao:Option Addr) (xcc xoc ycc yoc zcc zoc:Nat) (hpa:Arr G pa pl) (hpc:pl.length≤pc) (hpl:pl.length≤1048576) (hxc:Arr G xac xp.code) (hxo:Arr G xao xp.outs) (hx1:xp.code.length≤16384) (hx2:xp.outs.length≤1048576) (hyc:Arr G yac yp.code) (hyo:Arr G yao yp.outs) (hy1:yp.code.length≤16384) (hy2:yp.outs.length≤1048576) (hzc:Arr G zac zp.code) (hzo:Arr G zao zp.outs) (hz1:zp.code.length≤16384) (hz2:zp.outs.length≤1048576) :
 Does Tryz.prog 26 [.agg #[.int .i64 k1,.int .i64 k2,.slice pa pl.length pc,.int .i64 xp.ins,.int .i64 xp.regs,.slice xac xp.code.length xcc,.slice xao xp.outs.length xoc,.int .i64 yp.ins,.int .i64 yp.regs,.slice yac yp.code.length ycc,.slice yao yp.outs.length yoc,.int .i64 zp.ins,.int .i64 zp.regs,.slice zac zp.code.length zcc,.slice zao zp.outs.length zoc]] G [] (fun v G' Ho=>v=.tuple #[.int .i64 (tB k1 k2 pl xp yp zp).1,.int .i64 (tB k1 k2 pl xp yp zp).2]∧Ho=[]):=by
 refine D0 Tryz.func26 Tryz.ntmps26 fun w=>?_
 by_cases hW:sN k1 k2 pl=0
 case neg =>
  refine aM 2 [] ?_
  refine cV 0 fun b1=>?_
  refine aL 12 [0,0,0] ?_
  refine aN (gI (cs:=[_,_,_]) T.st134 rfl rfl rfl) ?_
  refine cG rfl (c75 _ _ _ _ _ _ rH rG) ?_
  refine aY 20 [1] ?_
  refine eJ ?_
  exact ⟨by rw [FC hW],rfl⟩
 obtain ⟨hP1,hP2,hL,hRL⟩:=Fl hW
 obtain ⟨n1,rfl⟩:∃ n:Nat,k1=(n:Int):=⟨k1.toNat,by have:=hP1.1;omega⟩
 obtain ⟨n2,rfl⟩:∃ n:Nat,k2=(n:Int):=⟨k2.toNat,by have:=hP2.1;omega⟩
 have hn1:1≤n1∧n1≤8:=by have:=hP1.1;have:=hP1.2;omega
 have hn2:1≤n2∧n2≤8:=by have:=hP2.1;have:=hP2.2;omega
 have hl15:pl.length≤15:=rG
 have hl1:1≤pl.length:=rG
 have hRR:pl.length≤15∧(∀ i:Nat,i<pl.length→EJ (pl[i]?.getD default)):=by unfold uM at hRL;exact ⟨hRL.2.1,hRL.2.2.1⟩
 have hok:=hRR.2
 have hnr:∀ i:Nat,i<pl.length→tA (pl[i]?.getD default).a (pl[i]?.getD default).b:=fun i hi=>(hok i hi).1
 refine aM 2 [] ?_
 refine cV 0 fun b1=>?_
 refine aL 12 [0,0,0] ?_
 refine aN (gI (cs:=[_,_,_]) T.st134 rfl rfl rfl) ?_
 refine cG rfl (c75 _ _ _ _ _ _ rH rG) ?_
 refine aL 17 [0] ?_
 refine aN (eI 0 T.agg26 rfl rfl rfl rfl) ?_
 refine cG rfl (RZ _ _ _ _ _ _ rH rH rG rG) ?_
 refine aN (eF rfl) ?_
 refine bR 2 [] ?_
 refine dL (fun hc1=>?_) fun hc1=>?_
 refine bG 8 [] ?_
 rotate_left
 refine aM 6 [] ?_
 refine aN (eI 0 T.agg26 rfl rfl rfl rfl) ?_
 refine aA 4 [0,0] ?_
 refine bU 1 rfl (c77 _ _ _ _ _ _ _ _ _ _ rH rH rH rG rG hl15 hnr (bD.1 rH) rG rG) fun v1 G1 Ho1 hle1 hp=>?_
 obtain ⟨rfl,rfl⟩:=hp
 replace hpa:=hpa.up hle1
 replace hxc:=hxc.up hle1
 replace hxo:=hxo.up hle1
 replace hyc:=hyc.up hle1
 replace hyo:=hyo.up hle1
 replace hzc:=hzc.up hle1
 replace hzo:=hzo.up hle1
 refine aN (eF rfl) ?_
 refine bR 2 [] ?_
 refine dL (fun hc2=>?_) fun hc2=>?_
 refine bG 8 [] ?_
 rotate_left
 refine aM 6 [] ?_
 refine aN (eI 0 T.agg26 rfl rfl rfl rfl) ?_
 refine cG rfl (RZ _ _ _ _ _ _ rH rH rG rG) ?_
 refine aN (eF rfl) ?_
 refine bR 2 [] ?_
 refine dL (fun hc3=>?_) fun hc3=>?_
 refine bG 8 [] ?_
 rotate_left
 refine aM 6 [] ?_
 refine aN (eI 0 T.agg26 rfl rfl rfl rfl) ?_
 refine aA 4 [0,0] ?_
 refine bU 1 rfl (c77 _ _ _ _ _ _ _ _ _ _ rH rH rH rG rG hl15 hnr (bD.1 rH) rG rG) fun v2 G2 Ho2 hle2 hp=>?_
 obtain ⟨rfl,rfl⟩:=hp
 replace hpa:=hpa.up hle2
 replace hxc:=hxc.up hle2
 replace hxo:=hxo.up hle2
 replace hyc:=hyc.up hle2
 replace hyo:=hyo.up hle2
 replace hzc:=hzc.up hle2
 replace hzo:=hzo.up hle2
 refine aN (eF rfl) ?_
 refine bR 2 [] ?_
 refine dL (fun hc4=>?_) fun hc4=>?_
 refine bG 8 [] ?_
 rotate_left
 refine aM 6 [] ?_
 refine aN (eI 0 T.agg26 rfl rfl rfl rfl) ?_
 refine cG rfl (RZ _ _ _ _ _ _ rH rH rG rG) ?_
 refine aN (eF rfl) ?_
 refine bR 2 [] ?_
 refine dL (fun hc5=>?_) fun hc5=>?_
 refine bG 8 [] ?_
 rotate_left
 refine aM 6 [] ?_
 refine aN (eI 0 T.agg26 rfl rfl rfl rfl) ?_
 refine aA 2 [0] ?_
 refine bU 1 rfl (c78 _ _ _ _ _ _ _ _ _ rH rH rH rG rG hpc hl1 hl15 hok) fun v3 G3 Ho3 hle3 hp=>?_
 obtain ⟨rfl,rfl⟩:=hp
 replace hpa:=hpa.up hle3
 replace hxc:=hxc.up hle3
 replace hxo:=hxo.up hle3
 replace hyc:=hyc.up hle3
 replace hyo:=hyo.up hle3
 replace hzc:=hzc.up hle3
 replace hzo:=hzo.up hle3
 refine aN (eF rfl) ?_
 refine bR 2 [] ?_
 refine dL (fun hc6=>?_) fun hc6=>?_
 refine bG 8 [] ?_
 rotate_left
 refine bG 9 [] ?_
 rotate_left
 · refine eJ ?_
   exact ⟨by rw [Wm hW rH],rfl⟩
 · refine eJ ?_
   exact ⟨by rw [Wn hW (bD.1 hc1) rH],rfl⟩
 · refine eJ ?_
   exact ⟨by rw [Wo hW (bD.1 hc1) (bD.1 hc2) rH],rfl⟩
 · refine eJ ?_
   exact ⟨by rw [Wp hW (bD.1 hc1) (bD.1 hc2) (bD.1 hc3) rH],rfl⟩
 · refine eJ ?_
   exact ⟨by rw [Wq hW (bD.1 hc1) (bD.1 hc2) (bD.1 hc3) (bD.1 hc4) rH],rfl⟩
 · refine eJ ?_
   exact ⟨by rw [Ws hW (bD.1 hc1) (bD.1 hc2) (bD.1 hc3) (bD.1 hc4) (bD.1 hc5) rH],rfl⟩
 refine eJ ?_
 exact ⟨by rw [Wt hW (bD.1 hc1) (bD.1 hc2) (bD.1 hc3) (bD.1 hc4) (bD.1 hc5) (bD.1 hc6)],rfl⟩
end
theorem Iv {G:Imm} {b:Nat} {c:Array Value} {ty:TypeId} {z:Nat×Nat} (h:G b=some (.cells c ty z)) {k:Nat} {v:Value} (hv:c[k]?=some v):G.cell b k=some v:=by
 unfold Imm.cell;rw [h];exact hv
structure PF where
 p:PH
 f:Nat
 b:Nat
instance:Inhabited PF:=⟨⟨default,0,0⟩⟩
instance:Cells PF:=⟨5,fun x=>[.int .i64 x.p.ins,.int .i64 x.p.regs,.slice x.p.ac x.p.cn x.p.cc,.slice x.p.ao x.p.on x.p.oc,.func (.func x.f) #[] #[.pointer (some ⟨x.b,0,none⟩)]],fun _=>rfl,fun _=>rfl⟩
section
attribute [local irreducible] tW tJ sN rP uM
theorem VT (G:Imm) (k:Nat) (b:Nat) (cs:Array Value) (ty:TypeId) (zz:Nat×Nat) (p:PV) (ac ao a:Option Addr) (cc co c:Nat) (l:List R2) (hU:G b=some (.cells cs ty zz)) (h0:cs[0]?=some (.int .i64 (k:Int))) (h2:cs[2]?=some (.slice a l.length c)) (hc:Arr G ac p.code) (ho:Arr G ao p.outs) (ha:Arr G a l) (hac:l.length≤c) (hl:l.length≤1048576) (hcl:p.code.length≤16384) (hol:p.outs.length≤1099511627776) (hRL:uM l) (hR:rP p=true) (hk1:1≤k) (hk8:k≤8) :
 Does Tryz.prog 168 [.agg #[.int .i64 p.ins,.int .i64 p.regs,.slice ac p.code.length cc,.slice ao p.outs.length co],.pointer (some ⟨b,0,none⟩)] G [] (fun v G' Ho=>v=.tuple #[.bool (decide (tW p (k:Int) l)),.int .i64 0]∧Ho=[]):=by
 refine D0 Tryz.func168 Tryz.ntmps168 fun w=>?_
 refine aM 2 [] ?_
 refine cV 0 fun b1=>?_
 refine aL 8 [0] ?_
 refine aN (eS T.one3 rfl ((by rw [cO]:G.cell b (0+0)=G.cell b 0).trans (Iv hU h0))) ?_
 refine aA 1 [] ?_
 refine aN (eS T.one22 rfl ((by rw [cO]:G.cell b (0+2)=G.cell b 2).trans (Iv hU h2))) ?_
 refine bU 1 rfl (PM _ _ _ _ _ _ _ _ _ _ rH rH rH rG rG hRL hR rG rG) fun v1 G1 Ho1 hle1 hp=>?_
 obtain ⟨rfl,rfl⟩:=hp
 replace hc:=hc.up hle1
 replace ho:=ho.up hle1
 replace ha:=ha.up hle1
 refine aY 7 [] ?_
 refine eJ ?_
 exact ⟨rfl,rfl⟩
theorem VU (G:Imm) (k:Nat) (b:Nat) (cs:Array Value) (ty:TypeId) (zz:Nat×Nat) (p:PV) (ac ao a:Option Addr) (cc co c:Nat) (l:List R2) (hU:G b=some (.cells cs ty zz)) (h0:cs[1]?=some (.int .i64 (k:Int))) (h2:cs[2]?=some (.slice a l.length c)) (hc:Arr G ac p.code) (ho:Arr G ao p.outs) (ha:Arr G a l) (hac:l.length≤c) (hl:l.length≤1048576) (hcl:p.code.length≤16384) (hol:p.outs.length≤1099511627776) (hRL:uM l) (hR:rP p=true) (hk1:1≤k) (hk8:k≤8) :
 Does Tryz.prog 170 [.agg #[.int .i64 p.ins,.int .i64 p.regs,.slice ac p.code.length cc,.slice ao p.outs.length co],.pointer (some ⟨b,0,none⟩)] G [] (fun v G' Ho=>v=.tuple #[.bool (decide (tW p (k:Int) l)),.int .i64 0]∧Ho=[]):=by
 refine D0 Tryz.func170 Tryz.ntmps170 fun w=>?_
 refine aM 2 [] ?_
 refine cV 0 fun b1=>?_
 refine aL 8 [0] ?_
 refine aN (eS T.one3 rfl ((by rw [cO]:G.cell b (0+1)=G.cell b 1).trans (Iv hU h0))) ?_
 refine aA 1 [] ?_
 refine aN (eS T.one22 rfl ((by rw [cO]:G.cell b (0+2)=G.cell b 2).trans (Iv hU h2))) ?_
 refine bU 1 rfl (PM _ _ _ _ _ _ _ _ _ _ rH rH rH rG rG hRL hR rG rG) fun v1 G1 Ho1 hle1 hp=>?_
 obtain ⟨rfl,rfl⟩:=hp
 replace hc:=hc.up hle1
 replace ho:=ho.up hle1
 replace ha:=ha.up hle1
 refine aY 7 [] ?_
 refine eJ ?_
 exact ⟨rfl,rfl⟩
theorem VV (G:Imm) (b:Nat) (cs:Array Value) (ty:TypeId) (zz:Nat×Nat) (p:PV) (ac ao a:Option Addr) (cc co c:Nat) (l:List R2) (hU:G b=some (.cells cs ty zz)) (h2:cs[2]?=some (.slice a l.length c)) (hc:Arr G ac p.code) (ho:Arr G ao p.outs) (ha:Arr G a l) (hac:l.length≤c) (hl:l.length≤1048576) (hcl:p.code.length≤16384) (hol:p.outs.length≤1099511627776) (hRL:uM l) (hR:rP p=true) :
 Does Tryz.prog 171 [.agg #[.int .i64 p.ins,.int .i64 p.regs,.slice ac p.code.length cc,.slice ao p.outs.length co],.pointer (some ⟨b,0,none⟩)] G [] (fun v G' Ho=>v=.tuple #[.bool (decide (tJ p l)),.int .i64 0]∧Ho=[]):=by
 refine D0 Tryz.func171 Tryz.ntmps171 fun w=>?_
 refine aM 2 [] ?_
 refine cV 0 fun b1=>?_
 refine aL 8 [0] ?_
 refine aN (eS T.one22 rfl ((by rw [cO]:G.cell b (0+2)=G.cell b 2).trans (Iv hU h2))) ?_
 refine bU 1 rfl (PI _ _ _ _ _ _ _ _ _ rH rH rG rG rH hac hl hRL hR) fun v1 G1 Ho1 hle1 hp=>?_
 obtain ⟨rfl,rfl⟩:=hp
 replace hc:=hc.up hle1
 replace ho:=ho.up hle1
 replace ha:=ha.up hle1
 refine aY 7 [] ?_
 refine eJ ?_
 exact ⟨rfl,rfl⟩
theorem VW (G:Imm) (k1 k2:Int) (pl:List R2) (pa:Option Addr) (pc:Nat) (xp yp zp:PV) (xac xao yac yao zac zao:Option Addr) (xcc xoc ycc yoc zcc zoc:Nat) :
 Does Tryz.prog 123 [.agg #[.int .i64 k1,.int .i64 k2,.slice pa pl.length pc,.int .i64 xp.ins,.int .i64 xp.regs,.slice xac xp.code.length xcc,.slice xao xp.outs.length xoc,.int .i64 yp.ins,.int .i64 yp.regs,.slice yac yp.code.length ycc,.slice yao yp.outs.length yoc,.int .i64 zp.ins,.int .i64 zp.regs,.slice zac zp.code.length zcc,.slice zao zp.outs.length zoc]] G [] (fun v G' Ho=>∃ (s:Option Addr) (b:Nat),v=.slice s ([⟨⟨xp.ins,xp.regs,xac,xp.code.length,xcc,xao,xp.outs.length,xoc⟩,168,b⟩,⟨⟨yp.ins,yp.regs,yac,yp.code.length,ycc,yao,yp.outs.length,yoc⟩,170,b⟩,⟨⟨zp.ins,zp.regs,zac,zp.code.length,zcc,zao,zp.outs.length,zoc⟩,171,b⟩]:List PF).length 3∧Arr G' s ([⟨⟨xp.ins,xp.regs,xac,xp.code.length,xcc,xao,xp.outs.length,xoc⟩,168,b⟩,⟨⟨yp.ins,yp.regs,yac,yp.code.length,ycc,yao,yp.outs.length,yoc⟩,170,b⟩,⟨⟨zp.ins,zp.regs,zac,zp.code.length,zcc,zao,zp.outs.length,zoc⟩,171,b⟩]:List PF)∧G' b=some (.cells #[.int .i64 k1,.int .i64 k2,.slice pa pl.length pc,.int .i64 xp.ins,.int .i64 xp.regs,.slice xac xp.code.length xcc,.slice xao xp.outs.length xoc,.int .i64 yp.ins,.int .i64 yp.regs,.slice yac yp.code.length ycc,.slice yao yp.outs.length yoc,.int .i64 zp.ins,.int .i64 zp.regs,.slice zac zp.code.length zcc,.slice zao zp.outs.length zoc] 28 (0,0))∧Ho=[]):=by
 refine D0 Tryz.func123 Tryz.ntmps123 fun w=>?_
 refine aM 2 [] ?_
 refine cV 0 fun b1=>?_
 refine aL 6 [] ?_
 refine aN (eI 0 T.agg26 rfl rfl rfl rfl) ?_
 refine aN (nB rfl rfl) ?_
 refine aN (gI (cs:=[_,_,_,_,_]) T.st203 rfl rfl rfl) ?_
 refine aA 1 [] ?_
 refine aN (eI 0 T.agg26 rfl rfl rfl rfl) ?_
 refine aN (nB rfl rfl) ?_
 refine aN (gI (cs:=[_,_,_,_,_]) T.st203 rfl rfl rfl) ?_
 refine aA 1 [] ?_
 refine aN (eI 0 T.agg26 rfl rfl rfl rfl) ?_
 refine aN (nB rfl rfl) ?_
 refine aN (gI (cs:=[_,_,_,_,_]) T.st203 rfl rfl rfl) ?_
 refine fC (α:=PF) 1 [⟨⟨xp.ins,xp.regs,xac,xp.code.length,xcc,xao,xp.outs.length,xoc⟩,168,b1⟩,⟨⟨yp.ins,yp.regs,yac,yp.code.length,ycc,yao,yp.outs.length,yoc⟩,170,b1⟩,⟨⟨zp.ins,zp.regs,zac,zp.code.length,zcc,zao,zp.outs.length,zoc⟩,171,b1⟩] rfl T.sl199 T.el203 rfl rfl rfl rfl rfl fun b2=>?_
 refine aY 4 [] ?_
 refine Ar.freeze 0 rfl fun G1 hle1 hb1=>?_
 have hoF:OwnA (some ⟨b2,0,none⟩) 3 ([⟨⟨xp.ins,xp.regs,xac,xp.code.length,xcc,xao,xp.outs.length,xoc⟩,168,b1⟩,⟨⟨yp.ins,yp.regs,yac,yp.code.length,ycc,yao,yp.outs.length,yoc⟩,170,b1⟩,⟨⟨zp.ins,zp.regs,zac,zp.code.length,zcc,zao,zp.outs.length,zoc⟩,171,b1⟩]:List PF) []:=iS Hj
 refine dW (α:=PF) 1 rfl hoF fun G2 hle2 hA2=>?_
 refine bT ?_
 exact ⟨_,b1,rfl,hA2,hle2 _ _ hb1,rfl⟩
end
section
attribute [local irreducible] tW tJ sN rP uM
theorem c69 (G:Imm) (k1 k2:Int) (pl:List R2) (pa:Option Addr) (pc:Nat) (xp yp zp:PV) (xac xao yac yao zac zao:Option Addr) (xcc xoc ycc yoc zcc zoc:Nat) (hpa:Arr G pa pl) (hpc:pl.length≤pc) (hpl:pl.length≤1048576) (hxc:Arr G xac xp.code) (hxo:Arr G xao xp.outs) (hx1:xp.code.length≤16384) (hx2:xp.outs.length≤1048576) (hyc:Arr G yac yp.code) (hyo:Arr G yao yp.outs) (hy1:yp.code.length≤16384) (hy2:yp.outs.length≤1048576) (hzc:Arr G zac zp.code) (hzo:Arr G zao zp.outs) (hz1:zp.code.length≤16384) (hz2:zp.outs.length≤1048576) :
 Does Tryz.prog 69 [.agg #[.int .i64 k1,.int .i64 k2,.slice pa pl.length pc,.int .i64 xp.ins,.int .i64 xp.regs,.slice xac xp.code.length xcc,.slice xao xp.outs.length xoc,.int .i64 yp.ins,.int .i64 yp.regs,.slice yac yp.code.length ycc,.slice yao yp.outs.length yoc,.int .i64 zp.ins,.int .i64 zp.regs,.slice zac zp.code.length zcc,.slice zao zp.outs.length zoc]] G [] (fun v G' Ho=>v=.tuple #[.int .i64 (tB k1 k2 pl xp yp zp).1,.int .i64 (tB k1 k2 pl xp yp zp).2]∧Ho=[]):=by
 refine D0 Tryz.func69 Tryz.ntmps69 fun w=>?_
 by_cases hW:sN k1 k2 pl=0
 case neg =>
  refine aM 2 [] ?_
  refine cV 0 fun b1=>?_
  refine aL 12 [0,0,0] ?_
  refine bU 1 rfl (PK _ _ _ _ _ _ rH rG rG) fun v1 G1 Ho1 hle1 hp=>?_
  obtain ⟨pv1,rfl,rfl⟩:=hp
  replace hpa:=hpa.up hle1
  replace hxc:=hxc.up hle1
  replace hxo:=hxo.up hle1
  replace hyc:=hyc.up hle1
  replace hyo:=hyo.up hle1
  replace hzc:=hzc.up hle1
  replace hzo:=hzo.up hle1
  refine aY 24 [1] ?_
  refine eJ ?_
  exact ⟨by rw [FC hW],rfl⟩
 obtain ⟨hP1,hP2,hL,hRL⟩:=Fl hW
 obtain ⟨n1,rfl⟩:∃ n:Nat,k1=(n:Int):=⟨k1.toNat,by have:=hP1.1;omega⟩
 obtain ⟨n2,rfl⟩:∃ n:Nat,k2=(n:Int):=⟨k2.toNat,by have:=hP2.1;omega⟩
 have hn1:1≤n1∧n1≤8:=by have:=hP1.1;have:=hP1.2;omega
 have hn2:1≤n2∧n2≤8:=by have:=hP2.1;have:=hP2.2;omega
 refine aM 2 [] ?_
 refine cV 0 fun b1=>?_
 refine aL 12 [0,0,0] ?_
 refine bU 1 rfl (PK _ _ _ _ _ _ rH rG rG) fun v1 G1 Ho1 hle1 hp=>?_
 obtain ⟨pv1,rfl,rfl⟩:=hp
 replace hpa:=hpa.up hle1
 replace hxc:=hxc.up hle1
 replace hxo:=hxo.up hle1
 replace hyc:=hyc.up hle1
 replace hyo:=hyo.up hle1
 replace hzc:=hzc.up hle1
 replace hzo:=hzo.up hle1
 refine aL 21 [0,0] ?_
 refine bU 1 rfl (VW _ _ _ _ _ _ xp yp zp _ _ _ _ _ _ _ _ _ _ _ _) fun v2 G2 Ho2 hle2 hp=>?_
 obtain ⟨sp2,bp2,rfl,hpA2,hpB2,rfl⟩:=hp
 replace hpa:=hpa.up hle2
 replace hxc:=hxc.up hle2
 replace hxo:=hxo.up hle2
 replace hyc:=hyc.up hle2
 replace hyo:=hyo.up hle2
 replace hzc:=hzc.up hle2
 replace hzo:=hzo.up hle2
 refine bR 5 [] ?_
 refine qN (ι:=Nat×Imm) (fun (i,Gx)=>([(27,.int .i64 (i:Int)),(26,.int .i64 3),(25,.slice sp2 (List.length [PF.mk (PH.mk xp.ins xp.regs xac xp.code.length xcc xao xp.outs.length xoc) 168 bp2,PF.mk (PH.mk yp.ins yp.regs yac yp.code.length ycc yao yp.outs.length yoc) 170 bp2,PF.mk (PH.mk zp.ins zp.regs zac zp.code.length zcc zao zp.outs.length zoc) 171 bp2]) 3)],[(0,some b1,.cells #[.int .i64 (↑n1:Int),.int .i64 (↑n2:Int),.slice pa (List.length pl) pc,.int .i64 xp.ins,.int .i64 xp.regs,.slice xac xp.code.length xcc,.slice xao xp.outs.length xoc,.int .i64 yp.ins,.int .i64 yp.regs,.slice yac yp.code.length ycc,.slice yao yp.outs.length yoc,.int .i64 zp.ins,.int .i64 zp.regs,.slice zac zp.code.length zcc,.slice zao zp.outs.length zoc] 28)])) (fun (i,Gx)=>Gx) (fun (i,Gx)=>i≤3∧G2.le Gx∧(0<i→rP xp=true∧tW xp (n1:Int) pl)∧(1<i→rP yp=true∧tW yp (n2:Int) pl)∧(2<i→rP zp=true∧tJ zp pl)) (fun (i,Gx)=>3 - i) ((0,G2)) (⟨aT _,cD _,fun h=>absurd h rG,fun h=>absurd h rG,fun h=>absurd h rG⟩) fun ⟨i,Gx⟩=>fun hk=>?_
 obtain ⟨hi0,hgx,hx9,hy9,hz9⟩:=hk
 have hB:=hgx _ _ hpB2
 replace hpA2:=hpA2.up hgx
 replace hpa:=hpa.up hgx
 replace hxc:=hxc.up hgx
 replace hxo:=hxo.up hgx
 replace hyc:=hyc.up hgx
 replace hyo:=hyo.up hgx
 replace hzc:=hzc.up hgx
 replace hzo:=hzo.up hgx
 have hi4:i=0∨i=1∨i=2∨i=3:=rG
 rcases hi4 with rfl | rfl | rfl | rfl
 · refine aM 14 [1] ?_
   refine aN (qP (α:=PF) T.sl199 rfl rfl hpA2 (show 0≤((0:Nat):Int)∧((0:Nat):Int)<((3:Nat):Int) by omega)) ?_
   refine aN (mT T.agg203 rfl (qU hpA2 (show 0≤((0:Nat):Int)∧((0:Nat):Int)<((3:Nat):Int) by omega)) rfl) ?_
   refine jO 31 rfl (show _=Value.agg #[.int .i64 xp.ins,.int .i64 xp.regs,.slice xac xp.code.length xcc,.slice xao xp.outs.length xoc,.func (.func 168) #[] #[.pointer (some ⟨bp2,0,none⟩)]] from rfl) ?_
   by_cases hr:rP xp=true
   · skip
     refine aU 1 rfl T.zero203 fun b2=>?_
     refine aL 7 [1] ?_
     refine aN (eI 1 T.agg26 rfl rfl rfl rfl) ?_
     refine cG rfl (Fm _ xp _ _ _ _ rH rH rG rG hr) ?_
     refine aL 22 [0,1] ?_
     refine aN (eI 1 T.agg26 rfl rfl rfl rfl) ?_
     refine gW (fst:=[]) (cap:=[.pointer (some ⟨bp2,0,none⟩)]) 2 rfl T.fn168 rfl rfl (VT _ n1 bp2 _ _ _ xp xac xao pa xcc xoc pc pl hB rfl rfl hxc hxo hpa hpc hpl hx1 rG hRL hr rG rG) (sR trivial) fun v9 G9 Ho9 hle9 hp=>?_
     obtain ⟨rfl,rfl⟩:=hp
     refine aL 12 [] ?_
     refine jH 53 ?_
     refine aA 3 [] ?_
     refine aN (eF rfl) ?_
     refine bR 3 [] ?_
     refine dL (fun hc1=>?_) fun hc1=>?_
     refine bG 14 [] ?_
     rotate_left
     refine bG 7 [] ?_
     rotate_left
     · refine eJ ?_
       exact ⟨by rw [Wn hW hr rH];rfl,rfl⟩
     refine dC 27 rfl (show _=Value.int .i64 ((1:Nat):Int) from rfl) ?_
     refine cP ((1,G9)) ?_ ?_
     · exact ⟨by omega,bA hgx hle9,fun _=>⟨hr,bD.1 rH⟩,fun h=>absurd h rG,fun h=>absurd h rG⟩
     show 3 - 1<3 - 0
     omega
   skip
   refine aU 1 rfl T.zero203 fun b2=>?_
   refine aL 7 [1] ?_
   refine aN (eI 1 T.agg26 rfl rfl rfl rfl) ?_
   refine cG rfl (FB _ xp _ _ _ _ rH rH rG rG hr) ?_
   refine aY 31 [1] ?_
   refine eJ ?_
   exact ⟨by rw [Wm hW rH];rfl,rfl⟩
 · refine aM 14 [1] ?_
   refine aN (qP (α:=PF) T.sl199 rfl rfl hpA2 (show 0≤((1:Nat):Int)∧((1:Nat):Int)<((3:Nat):Int) by omega)) ?_
   refine aN (mT T.agg203 rfl (qU hpA2 (show 0≤((1:Nat):Int)∧((1:Nat):Int)<((3:Nat):Int) by omega)) rfl) ?_
   refine jO 31 rfl (show _=Value.agg #[.int .i64 yp.ins,.int .i64 yp.regs,.slice yac yp.code.length ycc,.slice yao yp.outs.length yoc,.func (.func 170) #[] #[.pointer (some ⟨bp2,0,none⟩)]] from rfl) ?_
   by_cases hr:rP yp=true
   · skip
     refine aU 1 rfl T.zero203 fun b2=>?_
     refine aL 7 [1] ?_
     refine aN (eI 1 T.agg26 rfl rfl rfl rfl) ?_
     refine cG rfl (Fm _ yp _ _ _ _ rH rH rG rG hr) ?_
     refine aL 22 [0,1] ?_
     refine aN (eI 1 T.agg26 rfl rfl rfl rfl) ?_
     refine gW (fst:=[]) (cap:=[.pointer (some ⟨bp2,0,none⟩)]) 2 rfl T.fn170 rfl rfl (VU _ n2 bp2 _ _ _ yp yac yao pa ycc yoc pc pl hB rfl rfl hyc hyo hpa hpc hpl hy1 rG hRL hr rG rG) (sR trivial) fun v9 G9 Ho9 hle9 hp=>?_
     obtain ⟨rfl,rfl⟩:=hp
     refine aL 12 [] ?_
     refine jH 53 ?_
     refine aA 3 [] ?_
     refine aN (eF rfl) ?_
     refine bR 3 [] ?_
     refine dL (fun hc1=>?_) fun hc1=>?_
     refine bG 14 [] ?_
     rotate_left
     refine bG 7 [] ?_
     rotate_left
     · refine eJ ?_
       exact ⟨by rw [Wp hW (hx9 rG).1 (hx9 rG).2 hr rH];rfl,rfl⟩
     refine dC 27 rfl (show _=Value.int .i64 ((2:Nat):Int) from rfl) ?_
     refine cP ((2,G9)) ?_ ?_
     · exact ⟨by omega,bA hgx hle9,fun _=>hx9 rG,fun _=>⟨hr,bD.1 rH⟩,fun h=>absurd h rG⟩
     show 3 - 2<3 - 1
     omega
   skip
   refine aU 1 rfl T.zero203 fun b2=>?_
   refine aL 7 [1] ?_
   refine aN (eI 1 T.agg26 rfl rfl rfl rfl) ?_
   refine cG rfl (FB _ yp _ _ _ _ rH rH rG rG hr) ?_
   refine aY 31 [1] ?_
   refine eJ ?_
   exact ⟨by rw [Wo hW (hx9 rG).1 (hx9 rG).2 rH];rfl,rfl⟩
 · refine aM 14 [1] ?_
   refine aN (qP (α:=PF) T.sl199 rfl rfl hpA2 (show 0≤((2:Nat):Int)∧((2:Nat):Int)<((3:Nat):Int) by omega)) ?_
   refine aN (mT T.agg203 rfl (qU hpA2 (show 0≤((2:Nat):Int)∧((2:Nat):Int)<((3:Nat):Int) by omega)) rfl) ?_
   refine jO 31 rfl (show _=Value.agg #[.int .i64 zp.ins,.int .i64 zp.regs,.slice zac zp.code.length zcc,.slice zao zp.outs.length zoc,.func (.func 171) #[] #[.pointer (some ⟨bp2,0,none⟩)]] from rfl) ?_
   by_cases hr:rP zp=true
   · skip
     refine aU 1 rfl T.zero203 fun b2=>?_
     refine aL 7 [1] ?_
     refine aN (eI 1 T.agg26 rfl rfl rfl rfl) ?_
     refine cG rfl (Fm _ zp _ _ _ _ rH rH rG rG hr) ?_
     refine aL 22 [0,1] ?_
     refine aN (eI 1 T.agg26 rfl rfl rfl rfl) ?_
     refine gW (fst:=[]) (cap:=[.pointer (some ⟨bp2,0,none⟩)]) 2 rfl T.fn171 rfl rfl (VV _ bp2 _ _ _ zp zac zao pa zcc zoc pc pl hB rfl hzc hzo hpa hpc hpl hz1 rG hRL hr) (sR trivial) fun v9 G9 Ho9 hle9 hp=>?_
     obtain ⟨rfl,rfl⟩:=hp
     refine aL 12 [] ?_
     refine jH 53 ?_
     refine aA 3 [] ?_
     refine aN (eF rfl) ?_
     refine bR 3 [] ?_
     refine dL (fun hc1=>?_) fun hc1=>?_
     refine bG 14 [] ?_
     rotate_left
     refine bG 7 [] ?_
     rotate_left
     · refine eJ ?_
       exact ⟨by rw [Ws hW (hx9 rG).1 (hx9 rG).2 (hy9 rG).1 (hy9 rG).2 hr rH];rfl,rfl⟩
     refine dC 27 rfl (show _=Value.int .i64 ((3:Nat):Int) from rfl) ?_
     refine cP ((3,G9)) ?_ ?_
     · exact ⟨by omega,bA hgx hle9,fun _=>hx9 rG,fun _=>hy9 rG,fun _=>⟨hr,bD.1 rH⟩⟩
     show 3 - 3<3 - 2
     omega
   skip
   refine aU 1 rfl T.zero203 fun b2=>?_
   refine aL 7 [1] ?_
   refine aN (eI 1 T.agg26 rfl rfl rfl rfl) ?_
   refine cG rfl (FB _ zp _ _ _ _ rH rH rG rG hr) ?_
   refine aY 31 [1] ?_
   refine eJ ?_
   exact ⟨by rw [Wq hW (hx9 rG).1 (hx9 rG).2 (hy9 rG).1 (hy9 rG).2 rH];rfl,rfl⟩
 refine bG 19 [0] ?_
 refine eJ ?_
 exact ⟨by rw [Wt hW (hx9 rG).1 (hx9 rG).2 (hy9 rG).1 (hy9 rG).2 (hz9 rG).1 (hz9 rG).2],rfl⟩
end
theorem Aq {α:Type} [Inhabited α] {l m:List α} {k:Nat} (hl:k<l.length) (hm:k<m.length) (h:l.take k=m.take k) (he:l[((k:Nat):Int).toNat]?.getD default=m[((k:Nat):Int).toNat]?.getD default):l.take (k+1)=m.take (k+1):=by
 rw [aF,aC hl,aC hm] at he
 rw [eG,eG,h,aC hl,aC hm]
 simp only [gN] at he
 rw [he]
theorem VX (G:Imm) (p q:PV) (ac ao bc bo:Option Addr) (cc co dc do_:Nat) (hc:Arr G ac p.code) (ho:Arr G ao p.outs) (hc':Arr G bc q.code) (ho':Arr G bo q.outs) (h1:p.code.length≤1099511627776) (h2:p.outs.length≤1099511627776) :
 Does Tryz.prog 79 [.agg #[.int .i64 p.ins,.int .i64 p.regs,.slice ac p.code.length cc,.slice ao p.outs.length co],.agg #[.int .i64 q.ins,.int .i64 q.regs,.slice bc q.code.length dc,.slice bo q.outs.length do_]] G []
  (fun v G' Ho=>v=.bool (decide (p=q))∧G'=G∧Ho=[]):=by
 refine D0 Tryz.func79 Tryz.ntmps79 fun w=>?_
 refine aM 2 [] ?_
 refine cV 0 fun b1=>?_
 refine cV 1 fun b2=>?_
 refine aL 12 [0,1] ?_
 apply cA 6 12 18 rfl
 intro hg1
 refine aA 11 [0,1] ?_
 exact cQ 6 0
 intro hg1
 refine aA 6 [] ?_
 exact cQ 6 0
 refine aA 1 [] ?_
 apply cA 8 19 27 rfl
 intro hg1
 refine aA 15 [0,1] ?_
 exact cQ 8 0
 intro hg1
 refine aA 8 [] ?_
 exact cQ 8 0
 refine aA 1 [] ?_
 apply cA 8 28 36 rfl
 intro hg1
 refine aA 15 [0,1] ?_
 exact cQ 8 0
 intro hg1
 refine aA 8 [] ?_
 exact cQ 8 0
 refine bR 2 [] ?_
 refine dL (fun hc1=>?_) fun hc1=>?_
 refine bG 7 [] ?_
 refine bT ?_
 rotate_left
 refine cJ 9 [] ?_
 rotate_left
 · refine ⟨?_,rfl,rfl⟩
   have:p≠q:=by rintro rfl;omega
   simp [this]
 simp only [not_or,ne_eq,bD] at hc1
 obtain ⟨⟨⟨e1,e2⟩,e3⟩,e4⟩:=hc1
 refine fS (ι:=Nat) (fun k=>([(5,.int .i64 (k:Int)),(3,.pointer (some ⟨b2,0,none⟩)),(2,.pointer (some ⟨b1,0,none⟩))],[(1,some b2,.cells #[.int .i64 q.ins,.int .i64 q.regs,.slice bc q.code.length dc,.slice bo q.outs.length do_] 26),(0,some b1,.cells #[.int .i64 p.ins,.int .i64 p.regs,.slice ac p.code.length cc,.slice ao p.outs.length co] 26)])) (fun k=>k≤p.code.length∧p.code.take k=q.code.take k) (fun k=>p.code.length - k) (0) (⟨aT _,rfl⟩) fun k=>fun hk=>?_
 obtain ⟨hk1,hk2⟩:=hk
 refine cJ 10 [0] ?_
 refine dL (fun hc1=>?_) fun hc1=>?_
 refine cJ 5 [] ?_
 refine dT [0,1] [] T.mixed [[0],[1,0],[2]] ?_
 refine iM (α:=Sl.Instr) 3 T.sl23 ?_
 refine oI 4 T.agg211 ?_
 refine eD [[5],[6,1],[7]] ?_
 refine iM (α:=Sl.Instr) 8 T.sl23 ?_
 refine oI 9 T.agg211 ?_
 refine gR 10 [] rfl (Pu T.ai211 rfl rfl) ?_
 refine dY ?_
 refine cB ?_
 refine dL (fun hc2=>?_) fun hc2=>?_
 refine bG 11 [] ?_
 refine bT ?_
 rotate_left
 refine bG 8 [] ?_
 rotate_left
 refine cJ 12 [] ?_
 rotate_left
 · refine ⟨?_,rfl,rfl⟩
   have:p≠q:=by rintro rfl;exact hc2 rfl
   simp [this]
 · refine cP (k+1) ?_ ?_
   · exact ⟨by omega,Aq rG rG hk2 (bD.1 hc2)⟩
   omega
 have hcode:p.code=q.code:=by
  have:k=p.code.length:=rG
  subst this
  rw [gO,cZ rG] at hk2
  exact hk2
 clear hk1 hk2 hc1
 refine fS (ι:=Nat) (fun k=>([(6,.int .i64 (k:Int)),(3,.pointer (some ⟨b2,0,none⟩)),(2,.pointer (some ⟨b1,0,none⟩))],[(1,some b2,.cells #[.int .i64 q.ins,.int .i64 q.regs,.slice bc q.code.length dc,.slice bo q.outs.length do_] 26),(0,some b1,.cells #[.int .i64 p.ins,.int .i64 p.regs,.slice ac p.code.length cc,.slice ao p.outs.length co] 26)])) (fun k=>k≤p.outs.length∧p.outs.take k=q.outs.take k) (fun k=>p.outs.length - k) (0) (⟨aT _,rfl⟩) fun k=>fun hk=>?_
 obtain ⟨hk1,hk2⟩:=hk
 refine cJ 10 [0] ?_
 refine dL (fun hc1=>?_) fun hc1=>?_
 refine cJ 5 [] ?_
 refine dT [0,1] [] T.mixed [[0],[1,0],[2]] ?_
 refine iM (α:=Int) 3 T.sl24 ?_
 refine nW 4 [0] 0 T.one3 ?_
 refine eD [[5],[6,1],[7]] ?_
 refine iM (α:=Int) 8 T.sl24 ?_
 refine nW 9 [0] 0 T.one3 ?_
 refine eD [[10]] ?_
 refine dY ?_
 refine cB ?_
 refine dL (fun hc2=>?_) fun hc2=>?_
 refine bG 11 [] ?_
 refine bT ?_
 rotate_left
 refine bG 8 [] ?_
 rotate_left
 refine bG 11 [] ?_
 refine bT ?_
 rotate_left
 · refine ⟨?_,rfl,rfl⟩
   have:p≠q:=by rintro rfl;exact hc2 rfl
   simp [this]
 · refine cP (k+1) ?_ ?_
   · exact ⟨by omega,Aq rG rG hk2 (bD.1 hc2)⟩
   omega
 refine ⟨?_,rfl,rfl⟩
 have houts:p.outs=q.outs:=by
  have:k=p.outs.length:=rG
  subst this
  rw [gO,cZ rG] at hk2
  exact hk2
 have:p=q:=by cases p;cases q;simp_all
 simp [this]
theorem c28 (G:Imm) (k1 k2:Int) (pl:List R2) (pa qa:Option Addr) (pc qc:Nat) (xp yp zp:PV) (xac xao yac yao zac zao uac uao vac vao wac wao:Option Addr) (xcc xoc ycc yoc zcc zoc ucc uoc vcc voc wcc woc:Nat) (hpa:Arr G pa pl) (hqa:Arr G qa pl) (hpl:pl.length≤1048576) (hxc:Arr G xac xp.code) (hxo:Arr G xao xp.outs) (hyc:Arr G yac yp.code) (hyo:Arr G yao yp.outs) (hzc:Arr G zac zp.code) (hzo:Arr G zao zp.outs) (huc:Arr G uac xp.code) (huo:Arr G uao xp.outs) (hvc:Arr G vac yp.code) (hvo:Arr G vao yp.outs) (hwc:Arr G wac zp.code) (hwo:Arr G wao zp.outs) (hx1:xp.code.length≤1048576) (hx2:xp.outs.length≤1048576) (hy1:yp.code.length≤1048576) (hy2:yp.outs.length≤1048576) (hz1:zp.code.length≤1048576) (hz2:zp.outs.length≤1048576) :
 Does Tryz.prog 28 [.agg #[.int .i64 k1,.int .i64 k2,.slice pa pl.length pc,.int .i64 xp.ins,.int .i64 xp.regs,.slice xac xp.code.length xcc,.slice xao xp.outs.length xoc,.int .i64 yp.ins,.int .i64 yp.regs,.slice yac yp.code.length ycc,.slice yao yp.outs.length yoc,.int .i64 zp.ins,.int .i64 zp.regs,.slice zac zp.code.length zcc,.slice zao zp.outs.length zoc],.agg #[.int .i64 k1,.int .i64 k2,.slice qa pl.length qc,.int .i64 xp.ins,.int .i64 xp.regs,.slice uac xp.code.length ucc,.slice uao xp.outs.length uoc,.int .i64 yp.ins,.int .i64 yp.regs,.slice vac yp.code.length vcc,.slice vao yp.outs.length voc,.int .i64 zp.ins,.int .i64 zp.regs,.slice wac zp.code.length wcc,.slice wao zp.outs.length woc]] G []
  (fun v G' Ho=>v=.bool (decide (1=1))∧G'=G∧Ho=[]):=by
 refine D0 Tryz.func28 Tryz.ntmps28 fun w=>?_
 refine aM 2 [] ?_
 refine cV 0 fun b1=>?_
 refine cV 1 fun b2=>?_
 refine aL 12 [0,1] ?_
 refine jH 11 ?_
 refine aA 12 [0,1] ?_
 refine jH 18 ?_
 refine bR 27 [0,1,0] ?_
 refine fS (ι:=Nat) (fun k=>([(5,.int .i64 (k:Int)),(3,.pointer (some ⟨b2,0,none⟩)),(2,.pointer (some ⟨b1,0,none⟩))],[(1,some b2,.cells #[.int .i64 k1,.int .i64 k2,.slice qa (List.length pl) qc,.int .i64 xp.ins,.int .i64 xp.regs,.slice uac xp.code.length ucc,.slice uao xp.outs.length uoc,.int .i64 yp.ins,.int .i64 yp.regs,.slice vac yp.code.length vcc,.slice vao yp.outs.length voc,.int .i64 zp.ins,.int .i64 zp.regs,.slice wac zp.code.length wcc,.slice wao zp.outs.length woc] 28),(0,some b1,.cells #[.int .i64 k1,.int .i64 k2,.slice pa (List.length pl) pc,.int .i64 xp.ins,.int .i64 xp.regs,.slice xac xp.code.length xcc,.slice xao xp.outs.length xoc,.int .i64 yp.ins,.int .i64 yp.regs,.slice yac yp.code.length ycc,.slice yao yp.outs.length yoc,.int .i64 zp.ins,.int .i64 zp.regs,.slice zac zp.code.length zcc,.slice zao zp.outs.length zoc] 28)])) (fun k=>k≤pl.length) (fun k=>pl.length - k) (0) (aT _) fun k=>fun (hk:k≤pl.length)=>?_
 refine cJ 10 [0] ?_
 refine dL (fun hc1=>?_) fun hc1=>?_
 refine cJ 5 [] ?_
 refine dT [0,1] [] T.mixed [[0],[1,0],[2]] ?_
 refine iM (α:=R2) 3 T.sl22 ?_
 refine oI 4 T.agg51 ?_
 refine eD [[5],[6,1],[7]] ?_
 refine iM (α:=R2) 8 T.sl22 ?_
 refine oI 9 T.agg51 ?_
 refine gR 10 [] rfl (Nj [_,_] [_,_] T.ai51 rfl rfl rfl rfl) ?_
 refine dY ?_
 refine cB ?_
 refine dL (fun hc2=>?_) fun hc2=>?_
 refine bG 11 [] ?_
 refine bT ?_
 rotate_left
 refine bG 8 [] ?_
 rotate_left
 refine aM 8 [] ?_
 refine aN (eI 0 T.agg26 rfl rfl rfl rfl) ?_
 refine aA 1 [] ?_
 refine aN (eI 1 T.agg26 rfl rfl rfl rfl) ?_
 refine cG rfl (VX _ _ _ _ _ _ _ _ _ _ _ rH rH rH rH rG rG) ?_
 refine aA 1 [] ?_
 apply dS 6 50 56 rfl
 intro hg1
 refine aA 3 [] ?_
 refine aN (eI 0 T.agg26 rfl rfl rfl rfl) ?_
 refine aA 3 [] ?_
 refine aN (eI 1 T.agg26 rfl rfl rfl rfl) ?_
 refine aA 1 [] ?_
 refine cG rfl (VX _ _ _ _ _ _ _ _ _ _ _ rH rH rH rH rG rG) ?_
 refine aA 1 [] ?_
 exact cQ 6 0
 intro hg1
 refine aA 6 [] ?_
 exact cQ 6 0
 refine aA 1 [] ?_
 apply dS 6 57 63 rfl
 intro hg1
 refine aA 3 [] ?_
 refine aN (eI 0 T.agg26 rfl rfl rfl rfl) ?_
 refine aA 3 [] ?_
 refine aN (eI 1 T.agg26 rfl rfl rfl rfl) ?_
 refine aA 1 [] ?_
 refine cG rfl (VX _ _ _ _ _ _ _ _ _ _ _ rH rH rH rH rG rG) ?_
 refine aA 1 [] ?_
 exact cQ 6 0
 intro hg1
 refine aA 6 [] ?_
 exact cQ 6 0
 refine aY 4 [] ?_
 refine bT ?_
 rotate_left
 · exact absurd rfl rH
 · refine cP (k+1) ?_ ?_
   · omega
   omega
 exact ⟨by simp,rfl,rfl⟩
end Go.Proofs.YtngphgeghfdjbaaGreatDoor
namespace Go.Sl
open Go
section
variable {P:Program} {B:Bs} {e:Env} {D:List Deferred} {H H':Hp} {G:Imm}
end
abbrev VY (x y:Option Nat×Obj) (T:Hp):Hp:=(0,x) :: (1,y) :: T.shift 2
section
variable {P:Program} {ops:Array Oper} {rest:List Oper} {B:Bs} {e:Env} {D:List Deferred} {H:Hp} {G:Imm} {K:Act→World→Prop}
 {ty:TypeId} {pos:String} {after:Array Edge} {d:Nat}
end
section
variable {P:Program} {B:Bs} {e:Env} {D:List Deferred} {H:Hp} {G:Imm}
end
section stmt
variable {P:Program} {B:Bs} {e:Env} {D:List Deferred} {H:Hp} {G:Imm}
variable {β γ ι:Type} {Q:Exit→Act→World→Prop} {f:FuncId} {caps:List Value} {enc:β→γ→List Value} {o1 o2:β→γ→Option Nat×Obj} {good:β→γ→Prop} {xs:List β} {ps:List Nat} {assign body:Code} {g:Operand}
end stmt
section
variable {P:Program} {e:Env} {H:Hp} {G:Imm} {ty:TypeId}
end
abbrev VZ:=(Option Nat×Obj)×(Option Nat×Obj)
def Hp.keep (t:Nat):List VZ→Hp
 | []=>[]
 | z :: zs=>(t,z.1) :: (t+1,z.2) :: Hp.keep (t+2) zs
section
variable {P:Program} {B:Bs} {e:Env} {D:List Deferred} {H:Hp} {G:Imm}
end
def CellsAt (G:Imm) (b:Nat) (cs:List Value):Prop:=G.row b 0 cs
theorem CellsAt.up {G G':Imm} {b:Nat} {cs:List Value} (h:CellsAt G b cs) (hl:G.le G'):CellsAt G' b cs:=Hq hl h
theorem CellsAt.of {G:Imm} {b:Nat} {cs:List Value} {bt:TypeId} {fz:Nat×Nat} (h:G b=some (.cells cs.toArray bt fz)):CellsAt G b cs:=fun i v hi=>by
 simp only [Imm.cell,h,cO,mO];exact hi
section
variable {P:Program} {e:Env} {H:Hp} {G:Imm} {ty T:TypeId}
end
def Tx (P:Program) (t:TypeId):Bool:=match P.underlying t with | some (.pointer _)=>true | _=>false
theorem Bk {P:Program} {t:TypeId} {a:Option Addr} (ht:Tx P t=true) (d:Nat) (w:World):(Op.equalIn (d+1) t (.pointer a) (.pointer none)).run P w=.ok (decide (a=none)) w:=by
 unfold Tx at ht
 split at ht
 · rename_i e h
   cases a <;> simp [Op.equalIn,aS h]
 cases ht
section
variable {P:Program} {e:Env} {H:Hp} {G:Imm} {ty:TypeId}
theorem Qy.eqlPtrNil {t t':TypeId} {x y:Operand} {a:Option Addr} (ht:Tx P t=true) (hx:e.ev x=some (.pointer a)) (hy:e.ev y=some (.pointer none)):Qy P (.binOp .eql t x y t') ty e H G (.bool (decide (a=none))):=fun w0 w _ _ _ _ hh=>by
 have h:=Bk (a:=a) ht 9999 w
 simp [execOp,hh.eval hx,hh.eval hy,binOp,eqGuard,Op.equal,Op.maxDepth,h]
end
end Go.Sl
namespace Go.Proofs.YtngphgeghfdjbaaGreatDoor
open Go Go.Sl
structure UH where
 pa:Option Addr
 pc:Nat
 xa:Option Addr
 xc:Nat
 xo:Option Addr
 xd:Nat
 ya:Option Addr
 yc:Nat
 yo:Option Addr
 yd:Nat
 za:Option Addr
 zc:Nat
 zo:Option Addr
 zd:Nat
def uC (u:UV) (h:UH):List Value:=[.int .i64 u.k1,.int .i64 u.k2,.slice h.pa u.pl.length h.pc,.int .i64 u.x.ins,.int .i64 u.x.regs,.slice h.xa u.x.code.length h.xc,.slice h.xo u.x.outs.length h.xd,.int .i64 u.y.ins,.int .i64 u.y.regs,.slice h.ya u.y.code.length h.yc,.slice h.yo u.y.outs.length h.yd,.int .i64 u.z.ins,.int .i64 u.z.regs,.slice h.za u.z.code.length h.zc,.slice h.zo u.z.outs.length h.zd]
structure UIn (G:Imm) (u:UV) (h:UH):Prop where
 cap:u.pl.length≤h.pc
 pl:Arr G h.pa u.pl
 xc:Arr G h.xa u.x.code
 xo:Arr G h.xo u.x.outs
 yc:Arr G h.ya u.y.code
 yo:Arr G h.yo u.y.outs
 zc:Arr G h.za u.z.code
 zo:Arr G h.zo u.z.outs
theorem UIn.up {G G':Imm} {u:UV} {h:UH} (i:UIn G u h) (hl:G.le G'):UIn G' u h:=⟨i.cap,i.pl.up hl,i.xc.up hl,i.xo.up hl,i.yc.up hl,i.yo.up hl,i.zc.up hl,i.zo.up hl⟩
structure MidU (u:UV):Prop where
 pl:u.pl.length≤1048576
 x1:u.x.code.length≤16384
 x2:u.x.outs.length≤1048576
 y1:u.y.code.length≤16384
 y2:u.y.outs.length≤1048576
 z1:u.z.code.length≤16384
 z2:u.z.outs.length≤1048576
structure UJ where
 p:List Value
 x:List Value
 a:List Value
 y:List Value
 b:List Value
 z:List Value
 c:List Value
def Wu (t:Nat) (u:UV) (h:UH) (j:UJ):Hp:=[(t,h.pa.map (·.block),rV 51 u.pl j.p),(t+1,h.xa.map (·.block),rV 211 u.x.code j.x),(t+2,h.xo.map (·.block),rV 3 u.x.outs j.a),(t+3,h.ya.map (·.block),rV 211 u.y.code j.y),(t+4,h.yo.map (·.block),rV 3 u.y.outs j.b),(t+5,h.za.map (·.block),rV 211 u.z.code j.z),(t+6,h.zo.map (·.block),rV 3 u.z.outs j.c)]
structure UOwn (u:UV) (h:UH) (j:UJ):Prop where
 pl:OwnA h.pa h.pc u.pl j.p
 xc:OwnA h.xa h.xc u.x.code j.x
 xo:OwnA h.xo h.xd u.x.outs j.a
 yc:OwnA h.ya h.yc u.y.code j.y
 yo:OwnA h.yo h.yd u.y.outs j.b
 zc:OwnA h.za h.zc u.z.code j.z
 zo:OwnA h.zo h.zd u.z.outs j.c
theorem UOwn.lent {u:UV} {h:UH} {j:UJ} {H:Hp} {G:Imm} (o:UOwn u h j) (hb:Nm H G) {t:Nat} (h0:H.get t=some (h.pa.map (·.block),rV 51 u.pl j.p)) (h1:H.get (t+1)=some (h.xa.map (·.block),rV 211 u.x.code j.x)) (h2:H.get (t+2)=some (h.xo.map (·.block),rV 3 u.x.outs j.a)) (h3:H.get (t+3)=some (h.ya.map (·.block),rV 211 u.y.code j.y)) (h4:H.get (t+4)=some (h.yo.map (·.block),rV 3 u.y.outs j.b)) (h5:H.get (t+5)=some (h.za.map (·.block),rV 211 u.z.code j.z)) (h6:H.get (t+6)=some (h.zo.map (·.block),rV 3 u.z.outs j.c)):UIn G u h:=
 ⟨o.pl.le,mN hb _ h0 o.pl,mN hb _ h1 o.xc,mN hb _ h2 o.xo,mN hb _ h3 o.yc,mN hb _ h4 o.yo,mN hb _ h5 o.zc,mN hb _ h6 o.zo⟩
theorem WA (G:Imm) (u:UV) (h:UH) (i:UIn G u h) (m:MidU u) :
 Does Tryz.prog 69 [.agg (uC u h).toArray] G [] (fun v G' Ho=>v=.tuple #[.int .i64 (tB u.k1 u.k2 u.pl u.x u.y u.z).1,.int .i64 (tB u.k1 u.k2 u.pl u.x u.y u.z).2]∧Ho=[]):=
 c69 G u.k1 u.k2 u.pl h.pa h.pc u.x u.y u.z h.xa h.xo h.ya h.yo h.za h.zo h.xc h.xd h.yc h.yd h.zc h.zd i.pl i.cap m.pl i.xc i.xo m.x1 m.x2 i.yc i.yo m.y1 m.y2 i.zc i.zo m.z1 m.z2
theorem PN (G:Imm) (u:UV) (h:UH) (i:UIn G u h) (m:MidU u) :
 Does Tryz.prog 26 [.agg (uC u h).toArray] G [] (fun v G' Ho=>v=.tuple #[.int .i64 (tB u.k1 u.k2 u.pl u.x u.y u.z).1,.int .i64 (tB u.k1 u.k2 u.pl u.x u.y u.z).2]∧Ho=[]):=
 c26 G u.k1 u.k2 u.pl h.pa h.pc u.x u.y u.z h.xa h.xo h.ya h.yo h.za h.zo h.xc h.xd h.yc h.yd h.zc h.zd i.pl i.cap m.pl i.xc i.xo m.x1 m.x2 i.yc i.yo m.y1 m.y2 i.zc i.zo m.z1 m.z2
theorem PO (G:Imm) (u:UV) (h h':UH) (i:UIn G u h) (i':UIn G u h') (m:MidU u) :
 Does Tryz.prog 28 [.agg (uC u h).toArray,.agg (uC u h').toArray] G [] (fun v G' Ho=>v=.bool (decide (1=1))∧G'=G∧Ho=[]):=
 c28 G u.k1 u.k2 u.pl h.pa h'.pa h.pc h'.pc u.x u.y u.z h.xa h.xo h.ya h.yo h.za h.zo h'.xa h'.xo h'.ya h'.yo h'.za h'.zo h.xc h.xd h.yc h.yd h.zc h.zd h'.xc h'.xd h'.yc h'.yd h'.zc h'.zd i.pl i'.pl m.pl i.xc i.xo i.yc i.yo i.zc i.zo i'.xc i'.xo i'.yc i'.yo i'.zc i'.zo (aP m.x1 rW) m.x2 (aP m.y1 rW) m.y2 (aP m.z1 rW) m.z2
theorem PP (G:Imm) (a:Option Addr) (c:Nat) (xs:List Int) (hx:Arr G a xs) (hl:xs.length≤1099511627776) :
 Does Tryz.prog 175 [.slice a xs.length c] G [] (fun v G' Ho=>∃ b d j,v=.slice b xs.length d∧OwnA b d xs j∧Ho=[(0,b.map (·.block),rV 3 xs j)]∧G'=G):=by
 refine D0 Tryz.func175 Tryz.ntmps175 fun w=>?_
 refine aM 9 [] ?_
 refine aN (gH T.sl24 rfl rfl) ?_
 refine bR 2 [] ?_
 refine dL (fun hc1=>?_) fun hc1=>?_
 refine bG 7 [] ?_
 rotate_left
 refine aM 4 [] ?_
 refine pS 0 rfl T.sl24 fun b1=>?_
 refine aA 1 [] ?_
 rotate_left
 · subst hc1
   have hn:xs=[]:=by
    rcases hx.2 with h | ⟨b,o,h,_⟩
    · exact bW h
    cases h
   subst hn
   refine Dt 0 (rV 3 ([]:List Int) []) ?_
   refine pJ [0] ?_
   exact ⟨none,0,[],rfl,fF,rfl,rfl⟩
 refine nO 0 (rV 3 ([]:List Int) []) rfl rfl ?_
 refine oN (α:=Int) 0 rfl T.sl24 T.el3 rfl rfl rfl (iS sI) (oX rH) (by simp only [cT];omega) (by simp only [cT,maxLen];omega) fun a1 c1 junk1 ho1=>?_
 refine aY 4 [] ?_
 refine pJ [0] ?_
 exact ⟨_,_,_,rfl,ho1,rfl,rfl⟩
theorem PQ (G:Imm) (a:Option Addr) (c:Nat) (xs:List Sl.Instr) (hx:Arr G a xs) (hl:xs.length≤1099511627776) :
 Does Tryz.prog 174 [.slice a xs.length c] G [] (fun v G' Ho=>∃ b d j,v=.slice b xs.length d∧OwnA b d xs j∧Ho=[(0,b.map (·.block),rV 211 xs j)]∧G'=G):=by
 refine D0 Tryz.func174 Tryz.ntmps174 fun w=>?_
 refine aM 9 [] ?_
 refine aN (gH T.sl23 rfl rfl) ?_
 refine bR 2 [] ?_
 refine dL (fun hc1=>?_) fun hc1=>?_
 refine bG 7 [] ?_
 rotate_left
 refine aM 4 [] ?_
 refine pS 0 rfl T.sl23 fun b1=>?_
 refine aA 1 [] ?_
 rotate_left
 · subst hc1
   have hn:xs=[]:=by
    rcases hx.2 with h | ⟨b,o,h,_⟩
    · exact bW h
    cases h
   subst hn
   refine Dt 0 (rV 211 ([]:List Sl.Instr) []) ?_
   refine pJ [0] ?_
   exact ⟨none,0,[],rfl,fF,rfl,rfl⟩
 refine nO 0 (rV 211 ([]:List Sl.Instr) []) rfl rfl ?_
 refine oN (α:=Sl.Instr) 0 rfl T.sl23 T.el211 rfl rfl rfl (iS sI) (oX rH) (by simp only [cT];omega) (by simp only [cT,maxLen];omega) fun a1 c1 junk1 ho1=>?_
 refine aY 4 [] ?_
 refine pJ [0] ?_
 exact ⟨_,_,_,rfl,ho1,rfl,rfl⟩
theorem FD (G:Imm) (p:PV) (ac ao:Option Addr) (cc co:Nat) (hc:Arr G ac p.code) (ho:Arr G ao p.outs) (h1:p.code.length≤1099511627776) (h2:p.outs.length≤1099511627776) :
 Does Tryz.prog 125 [.agg #[.int .i64 p.ins,.int .i64 p.regs,.slice ac p.code.length cc,.slice ao p.outs.length co]] G [] (fun v G' Ho=>∃ bc bo dc do_ j1 j2,v=.agg #[.int .i64 p.ins,.int .i64 p.regs,.slice bc p.code.length dc,.slice bo p.outs.length do_]∧
  OwnA bc dc p.code j1∧OwnA bo do_ p.outs j2∧Ho=[(0,bc.map (·.block),rV 211 p.code j1),(1,bo.map (·.block),rV 3 p.outs j2)]∧G'=G):=by
 refine D0 Tryz.func125 Tryz.ntmps125 fun w=>?_
 refine aM 2 [] ?_
 refine cV 0 fun b1=>?_
 refine aU 1 rfl T.zero26 fun b2=>?_
 refine bR 3 [] ?_
 refine dT [0,1] [(0,9),(0,7)] T.mixed [[0],[1,0],[3],[4,0]] ?_
 refine fE 2 ?_
 refine bU 2 rfl (PQ _ _ _ _ rH rG) fun v1 G1 Ho1 hle1 hp=>?_
 obtain ⟨lb1,ld1,lj1,rfl,hlb1,rfl,rfl⟩:=hp
 refine eE ?_
 refine eD [[6]] ?_
 refine fE 5 ?_
 refine bU 3 rfl (PP _ _ _ _ rH rG) fun v2 G2 Ho2 hle2 hp=>?_
 obtain ⟨lb2,ld2,lj2,rfl,hlb2,rfl,rfl⟩:=hp
 refine bO 7 ?_
 refine aA 1 [0] ?_
 refine eE ?_
 refine eD [[8]] ?_
 refine fE 9 ?_
 refine aA 1 [0] ?_
 refine fO ?_
 refine iG 8 [0,1] ?_
 refine Ar.pick [2,3,1] rW (dQ (.inr rfl) (Ho:=Hp.only _ [0,1]) rfl (.agg 2 rfl rfl T.agg26) (bP _ _) ?_)
 exact ⟨_,_,_,_,_,_,rfl,hlb1,hlb2,rfl,rfl⟩
end Go.Proofs.YtngphgeghfdjbaaGreatDoor
namespace Go.Sl.Ez
open Go Go.Sl
section
variable {P:Program} {w:World}
theorem run_mark {t e:TypeId} {b o n c:Nat} {cs:Array Value} {ty:TypeId} (ht:P.underlying t=some (.slice e)) (he:P.underlying e=some (.int .u8)) (hb:w.heap[b]?=some (.cells cs ty (0,0))) :
 (convert t t (.slice (some ⟨b,o,none⟩) n c)).run P w=.ok (.slice (some ⟨b,o,none⟩) n c) (w.freeze ⟨b,cs.size,none⟩ 1):=by
 have hsh:w.shape? b=some (ty,cs.size):=by unfold World.shape?;rw [hb]
 simp [convert,aS ht,aS he,markStringish,hsh]
theorem freeze_upd {b k:Nat}:Upd (·=b) w (w.freeze ⟨b,k,none⟩ 1):=⟨rfl,rfl,rfl,by simp [World.freeze],fun j _ hj=>by
 have hj':b≠j:=fun e=>hj e.symm
 simp [World.freeze,jV,hj']⟩
theorem freeze_at {b k:Nat} {cs:Array Value} {ty:TypeId} (hb:w.heap[b]?=some (.cells cs ty (0,0))):(w.freeze ⟨b,k,none⟩ 1).heap[b]?=some (.cells cs ty (k,k+1)):=by
 simp [World.freeze,jV,hb]
end
section
variable {P:Program} {e:Env} {H:Hp} {G:Imm} {ty T:TypeId}
theorem Qy.indexV {x i:Operand} {n E:Nat} {k:IntKind} {m:Int} {vs:List Value} {v:Value} (hu:P.underlying T=some (.array n E)) (h1:tZ P E=true) (hs:(P.info? E).map (·.size)=some 1) (hx:e.ev x=some (.agg vs.toArray)) (hi:e.ev i=some (.int k m))
 (hb:0≤m∧m<n) (hv:vs[m.toNat]?=some v):Qy P (.index T x i) ty e H G v:=fun a w _ _ _ _ hh=>by
 simp [execOp,Instr.index,hh.eval hx,hh.eval hi,asIntOf,aS hu,hb,run_sizeOf w hs,part,uD w h1,hv]
end
end Go.Sl.Ez
namespace Go.Proofs.YtngphgeghfdjbaaGreatDoor
open Go Go.Sl
section
attribute [local irreducible] tB
theorem c70 (G:Imm) (u:UV) (h:UH) (i:UIn G u h) (m:MidU u) :
 Does Tryz.prog 70 [.agg (uC u h).toArray] G [] (fun v G' Ho=>∃ (h':UH) (j:UJ),v=.agg (uC u h').toArray∧UOwn u h' j∧Ho=Wu 0 u h' j∧G'=G):=by
 obtain ⟨k1,k2,pl,xp,yp,zp⟩:=u
 obtain ⟨pa,pc,xa,xc,xo,xd,ya,yc,yo,yd,za,zc,zo,zd⟩:=h
 obtain ⟨hcap,hpa,hxc,hxo,hyc,hyo,hzc,hzo⟩:=i
 obtain ⟨hpl,hx1,hx2,hy1,hy2,hz1,hz2⟩:=m
 dsimp only at *
 unfold uC
 dsimp only
 refine pD Tryz.func70 rfl Tryz.ntmps70 rfl fun w=>?_
 refine aM 2 [] ?_
 refine Wl.box 0 rfl rfl rfl fun b1=>?_
 refine aU 1 rfl T.zero28 fun b2=>?_
 refine aL 6 [0] ?_
 refine bU 2 rfl (UR _ _ _ _ rH rG) fun v1 G1 Ho1 hle1 hp=>?_
 obtain ⟨s1,d1,j1,rfl,hs1,rfl,rfl⟩:=hp
 refine aL 10 [0] ?_
 refine lH rfl (Ls (cs:=[_,_,_]) T.ar205 rfl rfl rfl) ?_
 refine bR 4 [] ?_
 refine BV (La.round ?_)
 refine aM 13 [1] ?_
 refine lH rfl (Ez.Qy.indexV (n:=3) (E:=150) rR rR rR rfl rfl rW rfl) ?_
 refine aL 7 [] ?_
 refine lH rfl (eI 0 T.agg26 rfl rfl rfl rfl) ?_
 refine bU 3 rfl (FD _ xp _ _ _ _ rH rH rG rG) fun v2 G2 Ho2 hle2 hp=>?_
 obtain ⟨a2,o2,c2,d2,j2,m2,rfl,hc2,ho2,rfl,rfl⟩:=hp
 refine aA 1 [] ?_
 refine qZ 0 T.size26 rfl rfl rfl rfl rfl rfl ?_
 refine aY 7 [] ?_
 refine dC 13 rfl (show _=Value.int .i64 (1:Int) from rfl) ?_
 refine Nn (La.round ?_)
 refine aM 13 [1] ?_
 refine lH rfl (Ez.Qy.indexV (n:=3) (E:=150) rR rR rR rfl rfl rW rfl) ?_
 refine aL 7 [] ?_
 refine lH rfl (eI 0 T.agg26 rfl rfl rfl rfl) ?_
 refine bU 5 rfl (FD _ yp _ _ _ _ rH rH rG rG) fun v3 G3 Ho3 hle3 hp=>?_
 obtain ⟨a3,o3,c3,d3,j3,m3,rfl,hc3,ho3,rfl,rfl⟩:=hp
 refine aA 1 [] ?_
 refine qZ 0 T.size26 rfl rfl rfl rfl rfl rfl ?_
 refine aY 7 [] ?_
 refine dC 13 rfl (show _=Value.int .i64 (2:Int) from rfl) ?_
 refine Nn (La.round ?_)
 refine aM 13 [1] ?_
 refine lH rfl (Ez.Qy.indexV (n:=3) (E:=150) rR rR rR rfl rfl rW rfl) ?_
 refine aL 7 [] ?_
 refine lH rfl (eI 0 T.agg26 rfl rfl rfl rfl) ?_
 refine bU 7 rfl (FD _ zp _ _ _ _ rH rH rG rG) fun v4 G4 Ho4 hle4 hp=>?_
 obtain ⟨a4,o4,c4,d4,j4,m4,rfl,hc4,ho4,rfl,rfl⟩:=hp
 refine aA 1 [] ?_
 refine qZ 0 T.size26 rfl rfl rfl rfl rfl rfl ?_
 refine aY 7 [] ?_
 refine dC 13 rfl (show _=Value.int .i64 (3:Int) from rfl) ?_
 refine Nn (La.round ?_)
 refine bG 19 [0,0,1] ?_
 refine Ar.pick [2,3,4,5,6,7,8,1] rW (dQ (.inr rfl) (Ho:=Hp.only _ [0,1,2,3,4,5,6]) rfl (.agg 7 rfl rfl T.agg28) (bP _ _) ?_)
 exact ⟨⟨s1,d1,a2,c2,o2,d2,a3,c3,o3,d3,a4,c4,o4,d4⟩,⟨j1,j2,m2,j3,m3,j4,m4⟩,rfl,⟨hs1,hc2,ho2,hc3,ho3,hc4,ho4⟩,rfl,rfl⟩
theorem c18 (G:Imm) (u:UV) (h:UH) (i:UIn G u h) (m:MidU u) :
 Does Tryz.prog 18 [.agg (uC u h).toArray] G [] (fun v G' Ho =>
  ((tB u.k1 u.k2 u.pl u.x u.y u.z).2≠0∧v=.tuple #[.pointer none,.int .i64 (tB u.k1 u.k2 u.pl u.x u.y u.z).2]∧Ho=[])∨
  ((tB u.k1 u.k2 u.pl u.x u.y u.z).2=0∧∃ (b:Nat) (h':UH) (j:UJ),v=.tuple #[.pointer (some ⟨b,0,none⟩),.int .i64 0]∧UOwn u h' j∧Ho=(0,some b,.cells (uC u h').toArray 127) :: Wu 1 u h' j)):=by
 refine pD Tryz.func18 rfl Tryz.ntmps18 rfl fun w=>?_
 refine aM 2 [] ?_
 refine Wl.box 0 rfl rfl rfl fun b1=>?_
 refine aL 7 [0] ?_
 refine bU 1 rfl (WA _ u h i m) fun v1 G1 Ho1 hle1 hp=>?_
 obtain ⟨rfl,rfl⟩:=hp
 replace i:=i.up hle1
 refine bR 14 [] ?_
 refine Wc.cond rfl (fun hc1=>?_) fun hc1=>?_
 refine bG 9 [] ?_
 rotate_left
 refine aM 5 [0] ?_
 refine bU 1 rfl (c70 _ u h i m) fun v2 G2 Ho2 hle2 hp=>?_
 obtain ⟨h2,j2,rfl,ho2,rfl,rfl⟩:=hp
 refine lH rfl (gI (cs:=[_,_,_,_,_,_,_,_,_,_,_,_,_,_,_]) T.st127 rfl rfl rfl) ?_
 refine Wl.box 8 rfl rfl rfl fun b2=>?_
 refine aY 5 [] ?_
 rotate_left
 · refine eJ ?_
   exact .inl ⟨hc1,rfl,rfl⟩
 refine Ar.pick [8,1,2,3,4,5,6,7] rW (iO (.inr rfl) (Ho:=Hp.only _ [0,1,2,3,4,5,6,7]) rfl (.tmp rfl) (.tmp rfl) (bP _ _) ?_)
 exact .inr ⟨bD.1 hc1,b2,h2,j2,rfl,ho2,rfl⟩
theorem c27 (G:Imm) (u:UV) (h:UH) (i:UIn G u h) (m:MidU u) (b:Nat) (hb:CellsAt G b (uC u h)) :
 Does Tryz.prog 27 [.pointer (some ⟨b,0,none⟩)] G [] (fun v G' Ho=>∃ (h':UH) (j:UJ),v=.tuple #[.agg (uC u h').toArray,.int .i64 0]∧UOwn u h' j∧Ho=Wu 0 u h' j∧G'=G):=by
 refine pD Tryz.func27 rfl Tryz.ntmps27 rfl fun w=>?_
 refine aM 2 [] ?_
 refine aU 0 rfl T.zero28 fun b1=>?_
 refine aL 7 [] ?_
 refine lH rfl (Qy.eqlPtrNil rR rfl rfl) ?_
 refine bR 2 [] ?_
 refine Wc.cond rfl (fun hc1=>?_) fun hc1=>?_
 refine aM 2 [] ?_
 refine lH rfl (gI (cs:=[_,_,_,_,_,_,_,_,_,_,_,_,_,_,_]) T.st28 rfl rfl rfl) ?_
 refine aY 6 [0] ?_
 rotate_left
 refine aM 7 [] ?_
 refine lH rfl (mT T.agg28 rfl rH rfl) ?_
 refine bU 1 rfl (c70 _ u h i m) fun v1 G1 Ho1 hle1 hp=>?_
 obtain ⟨h1,j1,rfl,ho1,rfl,rfl⟩:=hp
 refine aY 5 [0] ?_
 rotate_left
 · exact absurd hc1 sI
 refine Ar.pick [1,2,3,4,5,6,7,0] rW (iO (.inr rfl) (Ho:=Hp.only _ [0,1,2,3,4,5,6]) rfl (.agg 7 rfl rfl T.agg28) (.tmp rfl) (bP _ _) ?_)
 exact ⟨h1,j1,rfl,ho1,rfl,rfl⟩
end
theorem WB (G:Imm) (u:UV) (h:UH) (i:UIn G u h) (m:MidU u) (hU:(tB u.k1 u.k2 u.pl u.x u.y u.z).2=0) :
 Does Tryz.prog 18 [.agg (uC u h).toArray] G [] (fun v G' Ho=>∃ (b:Nat) (h':UH) (j:UJ),v=.tuple #[.pointer (some ⟨b,0,none⟩),.int .i64 0]∧UOwn u h' j∧Ho=(0,some b,.cells (uC u h').toArray 127) :: Wu 1 u h' j):=
 (c18 G u h i m).mono fun v G' Ho _ hp=>hp.elim (fun k=>absurd hU k.1) fun k=>k.2
theorem WC (G:Imm) (u:UV) (h:UH) (i:UIn G u h) (m:MidU u) (hU:¬(tB u.k1 u.k2 u.pl u.x u.y u.z).2=0) :
 Does Tryz.prog 18 [.agg (uC u h).toArray] G [] (fun v G' Ho=>v=.tuple #[.pointer none,.int .i64 (tB u.k1 u.k2 u.pl u.x u.y u.z).2]∧Ho=[]):=
 (c18 G u h i m).mono fun v G' Ho _ hp=>hp.elim (fun k=>k.2) fun k=>absurd k.1 hU
structure BigU (u:UV):Prop where
 pl:u.pl.length≤1048576
 x1:u.x.code.length≤1048576
 x2:u.x.outs.length≤1048576
 y1:u.y.code.length≤1048576
 y2:u.y.outs.length≤1048576
 z1:u.z.code.length≤1048576
 z2:u.z.outs.length≤1048576
def hX (p:PV) (a:Option Addr) (c:Nat) (o:Option Addr) (d:Nat):PH:=⟨p.ins,p.regs,a,p.code.length,c,o,p.outs.length,d⟩
def Wv (u:UV) (h:UH):Bool:=Fk u.pl.length [hX u.x h.xa h.xc h.xo h.xd,hX u.y h.ya h.yc h.yo h.yd,hX u.z h.za h.zc h.zo h.zd]
theorem FE {u:UV} {h:UH} (b:BigU u) (hl:Wv u h=false):MidU u∧u.x.code.length+u.y.code.length+u.z.code.length≤600∧u.pl.length≤15:=by
 unfold Wv Fk at hl
 simp only [Bool.or_eq_false_iff,dH,bX,iT,List.sum_cons,List.sum_nil,hX] at hl
 exact ⟨⟨b.pl,by omega,b.x2,by omega,b.y2,by omega,b.z2⟩,by omega,by omega⟩
theorem WD (G:Imm) (u:UV) (h:UH) (b:BigU u):Does Tryz.prog 17 [.agg (uC u h).toArray] G [] (fun v G' Ho=>v=.bool (Wv u h)∧G'=G∧Ho=[]):=
 c17 G u.k1 u.k2 h.pa u.pl.length h.pc (hX u.x h.xa h.xc h.xo h.xd) (hX u.y h.ya h.yc h.yo h.yd) (hX u.z h.za h.zc h.zo h.zd) (aP b.x1 rW) (aP b.y1 rW) (aP b.z1 rW)
section
attribute [local irreducible] tB Wv rZ
theorem c4 (hWorks:∀ G,TabOk G→Does Tryz.prog 16 [] G [] (fun v G' Ho=>v=.bool (decide (1=1))∧G'=G∧Ho=[])) (G:Imm) (hT:TabOk G) (u:UV) (h:UH) (i:UIn G u h) (hB:BigU u) :
 Does Tryz.prog 4 [.agg (uC u h).toArray] G [] (fun v G' Ho=>v=.bool true∧Ho=[]):=by
 refine pD Tryz.func4 rfl Tryz.ntmps4 rfl fun w=>?_
 refine aM 2 [] ?_
 refine Wl.box 0 rfl rfl rfl fun b1=>?_
 refine aL 6 [] ?_
 refine cG rfl (hWorks _ hT) ?_
 refine lH rfl (eF rfl) ?_
 refine aL 9 [0,0] ?_
 refine cG rfl (WD _ u h hB) ?_
 refine bR 2 [] ?_
 refine rA rfl (fun hc1=>?_) fun hc1=>?_
 refine bG 7 [] ?_
 rotate_left
 refine aM 5 [0] ?_
 refine aU 1 rfl T.zero28 fun b2=>?_
 refine aL 7 [1,0] ?_
 rotate_left
 · refine bT ?_
   exact ⟨rfl,rfl⟩
 obtain ⟨m,hlen,hpl15⟩:=FE (u:=u) (h:=h) hB rH
 have hin:∀ (s1:Option Addr) (d1:Nat) (Gx:Imm),G.le Gx→Arr Gx s1 u.pl→u.pl.length≤d1→UIn Gx u ⟨s1,d1,h.xa,h.xc,h.xo,h.xd,h.ya,h.yc,h.yo,h.yd,h.za,h.zc,h.zo,h.zd⟩:=fun s1 d1 Gx hl ha hd=>⟨hd,ha,i.xc.up hl,i.xo.up hl,i.yc.up hl,i.yo.up hl,i.zc.up hl,i.zo.up hl⟩
 by_cases hU:(tB u.k1 u.k2 u.pl u.x u.y u.z).2=0
 case neg =>
  refine bU 2 rfl (UR _ _ _ _ i.pl m.pl) fun v1 G1 Ho1 hle1 hp=>?_
  obtain ⟨s1,d1,j1,rfl,hs1,rfl,rfl⟩:=hp
  refine aL 7 [1,1] ?_
  refine nP 3 rfl T.fn18 rfl (fun Gx hGx hgx=>(WC Gx u ⟨s1,d1,h.xa,h.xc,h.xo,h.xd,h.ya,h.yc,h.yo,h.yd,h.za,h.zc,h.zo,h.zd⟩ (hin s1 d1 Gx hGx KQ hs1.le) m hU)) fun v1 Gx1 G1 Ho1 hlx1 hp=>?_
  obtain ⟨rfl,rfl⟩:=hp
  refine aL 10 [0] ?_
  refine bU 3 rfl (PN _ u h i m) fun v2 G2 Ho2 hle2 hp=>?_
  obtain ⟨rfl,rfl⟩:=hp
  replace i:=i.up hle2
  refine aL 18 [1] ?_
  refine lH rfl (Qy.eqlPtrNil rR rfl rfl) ?_
  refine aA 1 [] ?_
  apply dS 4 34 38 rfl
  intro hg1
  refine aA 7 [] ?_
  exact Wl.back 4 0 rfl rfl rfl rfl rfl
  intro hg1
  refine aA 4 [] ?_
  exact Wl.back 4 0 rfl rfl rfl rfl rfl
  refine aY 5 [] ?_
  refine bT ?_
  exact ⟨by simp,rfl⟩
 case pos =>
  refine bU 2 rfl (UR _ _ _ _ i.pl m.pl) fun v1 G1 Ho1 hle1 hp=>?_
  obtain ⟨s1,d1,j1,rfl,hs1,rfl,rfl⟩:=hp
  refine aL 7 [1,1] ?_
  refine nP 3 rfl T.fn18 rfl (fun Gx hGx hgx=>(WB Gx u ⟨s1,d1,h.xa,h.xc,h.xo,h.xd,h.ya,h.yc,h.yo,h.yd,h.za,h.zc,h.zo,h.zd⟩ (hin s1 d1 Gx hGx KQ hs1.le) m hU)) fun v1 Gx1 G1 Ho1 hlx1 hp=>?_
  obtain ⟨bm1,hm1,jm1,rfl,hmo1,rfl⟩:=hp
  refine aL 10 [0] ?_
  refine bU 11 rfl (PN _ u h i m) fun v2 G2 Ho2 hle2 hp=>?_
  obtain ⟨rfl,rfl⟩:=hp
  replace i:=i.up hle2
  refine aL 21 [0] ?_
  refine lH rfl (Qy.eqlPtrNil rR rfl rfl) ?_
  refine aA 1 [] ?_
  apply cA 3 41 44 rfl
  intro hg1
  refine aA 5 [] ?_
  exact Wl.back 3 0 rfl rfl rfl rfl rfl
  intro hg1
  refine aA 3 [] ?_
  exact Wl.back 3 0 rfl rfl rfl rfl rfl
  refine bR 2 [] ?_
  refine Wc.cond rfl (fun hc2=>?_) fun hc2=>?_
  refine bG 7 [] ?_
  rotate_left
  refine aM 6 [1] ?_
  rotate_left
  · exfalso
    have hq:(some (Addr.mk bm1 0 none)=none)∨¬((0:Int)=0):=by assumption
    simp at hq
  refine Dx (α:=R2) (xs:=u.pl) 2 T.sl22 T.el51 rfl rfl rfl hs1 fun hs1'=>?_
  refine aL 5 [] ?_
  refine Wl.freeze 3 rfl fun Ga hla hba=>?_
  refine cN 4 rfl hmo1.pl fun Gb hlb hbb=>?_
  refine cN 5 rfl hmo1.xc fun Gc hlc hbc=>?_
  refine cN 6 rfl hmo1.xo fun Gd hld hbd=>?_
  refine cN 7 rfl hmo1.yc fun Ge hle hbe=>?_
  refine cN 8 rfl hmo1.yo fun Gf hlf hbf=>?_
  refine cN 9 rfl hmo1.zc fun Gg hlg hbg=>?_
  refine cN 10 rfl hmo1.zo fun Gh hlh hbh=>?_
  have lg:=hlh
  have lf:=bA hlg lg
  have le:=bA hlf lf
  have ld:=bA hle le
  have lc:=bA hld ld
  have lb:=bA hlc lc
  have la:=bA hlb lb
  have l0:=bA hla la
  replace i:=i.up l0
  have hM:CellsAt Gh bm1 (uC u hm1):=(CellsAt.of hba).up la
  have hI:UIn Gh u hm1:=⟨hmo1.pl.le,hbb.up lb,hbc.up lc,hbd.up ld,hbe.up le,hbf.up lf,hbg.up lg,hbh⟩
  refine bU 11 rfl (c27 _ u hm1 hI m bm1 hM) fun v3 G3 Ho3 hle3 hp=>?_
  obtain ⟨hv3,jv3,rfl,hvo3,rfl,rfl⟩:=hp
  refine aA 3 [] ?_
  refine aU 18 rfl T.zero28 fun b3=>?_
  refine aL 10 [18] ?_
  refine Vb 54 rfl tU ?_
  refine aA 5 [18,0] ?_
  refine nP 19 rfl T.fn28 rfl (fun Gx hGx hgx=>(PO Gx u hv3 h (hvo3.lent hgx (t:=11) rfl rfl rfl rfl rfl rfl rfl) (i.up hGx) m)) fun v2 Gx2 G2 Ho2 hlx2 hp=>?_
  obtain ⟨rfl,rfl,rfl⟩:=hp
  refine aA 1 [] ?_
  refine lH rfl (eF rfl) ?_
  refine aL 10 [0,18] ?_
  refine Dx (α:=R2) (xs:=u.pl) 11 T.sl22 T.el51 rfl rfl rfl hvo3.pl fun hv'=>?_
  refine aL 7 [18] ?_
  refine Dx (α:=Int) (xs:=u.z.outs) 17 T.sl24 T.el3 rfl rfl rfl hvo3.zo fun hv''=>?_
  refine aL 5 [] ?_
  refine bU 19 rfl (c27 _ u hm1 hI m bm1 hM) fun v4 G4 Ho4 hle4 hp=>?_
  obtain ⟨hv4,jv4,rfl,hvo4,rfl,rfl⟩:=hp
  refine aA 3 [] ?_
  refine aU 26 rfl T.zero28 fun b4=>?_
  refine aL 9 [26] ?_
  refine Ng 72 rfl tU ?_
  refine aA 5 [26,0] ?_
  refine nP 27 rfl T.fn28 rfl (fun Gx hGx hgx=>(PO Gx u hv4 h (hvo4.lent hgx (t:=19) rfl rfl rfl rfl rfl rfl rfl) (i.up hGx) m)) fun v3 Gx3 G3 Ho3 hlx3 hp=>?_
  obtain ⟨rfl,rfl,rfl⟩:=hp
  refine aY 5 [] ?_
  refine Ar.base ?_
  refine bT ?_
  exact ⟨by simp,rfl⟩
end
end Go.Proofs.YtngphgeghfdjbaaGreatDoor
namespace Go.Sl.Ev
open Go Go.Sl
def s4 {β:Sort _} (a b c d:β) (n:Nat):β:=Nat.rec (motive:=fun _=>β) a (fun n _=>Nat.rec (motive:=fun _=>β) b (fun n _=>Nat.rec (motive:=fun _=>β) c (fun _ _=>d) n) n) n
theorem ML {β:Sort _} (a b c d:β):s4 a b c d 0=a:=rfl
theorem MM {β:Sort _} (a b c d:β):s4 a b c d 1=b:=rfl
theorem MN {β:Sort _} (a b c d:β):s4 a b c d 2=c:=rfl
theorem MO {β:Sort _} (a b c d:β):s4 a b c d 3=d:=rfl
inductive Tr (α:Type) where
 | e
 | n (x:Option α) (a b c d:Tr α)
def Tr.get {α:Type} (t:Tr α):Nat→Option α:=
 Tr.rec (motive:=fun _=>Nat→Option α) (fun _=>none) (fun x _ _ _ _ ga gb gc gd k=>Nat.rec (motive:=fun _=>Option α) x (fun m _=>s4 ga gb gc gd (Nat.mod m 4) (Nat.div m 4)) k) t
def Tr.put {α:Type} (v:Option α) (ih:Tr α→Nat→Tr α) (k:Nat) (x:Option α) (a b c d:Tr α):Tr α:=
 Nat.rec (motive:=fun _=>Tr α) (.n v a b c d) (fun m _=>s4 (.n x (ih a (Nat.div m 4)) b c d) (.n x a (ih b (Nat.div m 4)) c d) (.n x a b (ih c (Nat.div m 4)) d) (.n x a b c (ih d (Nat.div m 4))) (Nat.mod m 4)) k
def Tr.set {α:Type} (v:Option α) (f:Nat):Tr α→Nat→Tr α:=
 Nat.rec (motive:=fun _=>Tr α→Nat→Tr α) (fun t _=>t) (fun _ ih t k=>Tr.rec (motive:=fun _=>Tr α) (Tr.put v ih k none .e .e .e .e) (fun x a b c d _ _ _ _=>Tr.put v ih k x a b c d) t) f
theorem Iw {α:Type} (a b c d:Tr α) (x:Option α) (m:Nat):Tr.get (.n x a b c d) (m+1)=s4 a.get b.get c.get d.get (Nat.mod m 4) (Nat.div m 4):=rfl
theorem Rp {α:Type} (v:Option α) (f k:Nat):Tr.set v (f+1) (.e:Tr α) k=Tr.set v (f+1) (.n none .e .e .e .e) k:=rfl
theorem FG {α:Type} (v:Option α) (f:Nat) (a b c d:Tr α) (x:Option α):Tr.set v (f+1) (.n x a b c d) 0=.n v a b c d:=rfl
theorem Ix {α:Type} (v:Option α) (f m:Nat) (a b c d:Tr α) (x:Option α):Tr.set v (f+1) (.n x a b c d) (m+1) =
 s4 (.n x (Tr.set v f a (Nat.div m 4)) b c d) (.n x a (Tr.set v f b (Nat.div m 4)) c d) (.n x a b (Tr.set v f c (Nat.div m 4)) d) (.n x a b c (Tr.set v f d (Nat.div m 4))) (Nat.mod m 4):=rfl
theorem Ty (m:Nat):Nat.mod m 4=0∨Nat.mod m 4=1∨Nat.mod m 4=2∨Nat.mod m 4=3:=by
 have h:∀ k,k<4→k=0∨k=1∨k=2∨k=3:=rG
 exact h _ (nR m rW)
theorem PR {i m r:Nat} (h1:Nat.mod i 4=r) (h2:Nat.mod m 4=r):(Nat.div i 4=Nat.div m 4)=(i+1=m+1):=by
 have e1:i % 4=r:=h1
 have e2:m % 4=r:=h2
 apply propext
 show (i / 4=m / 4)↔_
 constructor <;> intro h <;> omega
theorem PS {i m r s:Nat} (h1:Nat.mod i 4=r) (h2:Nat.mod m 4=s) (h:r≠s):¬(i+1=m+1):=fun e=>by
 have:i=m:=rG
 subst this
 exact h (h1.symm.trans h2)
theorem Tz {α:Type} (v:Option α):∀ (f:Nat) (t:Tr α) (k j:Nat),k<f→(Tr.set v f t k).get j=if j=k then v else t.get j:=by
 intro f
 induction f with
 | zero=>intro t k j h;omega
 | succ f ih =>
   have key:∀ (a b c d:Tr α) (x:Option α) (k j:Nat),k<f+1→(Tr.set v (f+1) (.n x a b c d) k).get j=if j=k then v else (Tr.n x a b c d).get j:=by
    intro a b c d x k j h
    cases k with
    | zero =>
      rw [FG]
      cases j with
      | zero=>rfl
      | succ i=>rw [aK (by omega)];rfl
    | succ m =>
      rw [Ix]
      have hm:Nat.div m 4<f:=by show m / 4<f;omega
      cases j with
      | zero =>
        rw [aK (by omega)]
        rcases Ty m with h1 | h1 | h1 | h1 <;> rw [h1] <;> rfl
      | succ i =>
        rcases Ty m with h1 | h1 | h1 | h1 <;> rcases Ty i with h2 | h2 | h2 | h2 <;> simp only [h1,ML,MM,MN,MO,Iw,h2] <;>
         first
         | (rw [aK (PS h2 h1 rW)])
         | (simp only [ih _ _ _ hm,PR h2 h1])
   intro t k j h
   cases t with
   | e =>
     rw [Rp,key _ _ _ _ _ _ _ h]
     congr 1
     cases j with
     | zero=>rfl
     | succ i=>rw [Iw];rcases Ty i with h2 | h2 | h2 | h2 <;> rw [h2] <;> rfl
   | n x a b c d=>exact key a b c d x k j h
abbrev eN:=@Tz
inductive CV where
 | int (k:IntKind) (n:Int)
 | bool (b:Bool)
 | str (s:CV)
 | ptr (t o:Nat)
 | nilp
 | sl (t o n sz:Nat) (c:Option Nat)
 | nils
 | sle
 | mp (t:Nat)
 | nilm
 | fn (f:Nat) (fst cap:CV)
 | nilf
 | yl (t:Nat)
 | agg (l:CV)
 | tup (l:CV)
 | nil
 | cons (a b:CV)
abbrev Pl:=Nat→Nat×Nat
def D (ρ:Pl) (x:CV):(Value→Prop)×(List Value→Prop):=
 CV.rec (motive:=fun _=>(Value→Prop)×(List Value→Prop))
  (fun k n=>(fun v=>v=.int k n,fun _=>False))
  (fun b=>(fun v=>v=.bool b,fun _=>False))
  (fun _ ih=>(fun v=>∃ (vs:List Value) (bs:List UInt8),ih.2 vs∧vs=bs.map (fun b=>Value.int .u8 b.toNat)∧v=.string ⟨bs.toArray⟩,fun _=>False))
  (fun t o=>(fun v=>v=.pointer (some ⟨(ρ t).1,o,none⟩),fun _=>False))
  (fun v=>v=.pointer none,fun _=>False)
  (fun t o n sz c=>(fun v=>match c with
   | some c=>v=.slice (some ⟨(ρ t).1,o,none⟩) n c∧o+c*sz≤(ρ t).2∧n≤c∧c≤maxLen
   | none=>∃ c,v=.slice (some ⟨(ρ t).1,o,none⟩) n c∧o+c*sz=(ρ t).2∧n≤c∧c≤maxLen,fun _=>False))
  (fun v=>v=.slice none 0 0,fun _=>False)
  (fun v=>∃ a c,v=.slice a 0 c,fun _=>False)
  (fun t=>(fun v=>v=.map (some (ρ t).1),fun _=>False))
  (fun v=>v=.map none,fun _=>False)
  (fun f _ _ i1 i2=>(fun v=>∃ xs ys,i1.2 xs∧i2.2 ys∧v=.func (.func f) xs.toArray ys.toArray,fun _=>False))
  (fun v=>v=.nilFunc,fun _=>False)
  (fun t=>(fun v=>v=.func (.yield (ρ t).1) #[] #[],fun _=>False))
  (fun _ ih=>(fun v=>∃ vs,ih.2 vs∧v=.agg vs.toArray,fun _=>False))
  (fun _ ih=>(fun v=>∃ vs,ih.2 vs∧v=.tuple vs.toArray,fun _=>False))
  (fun v=>v=.nilIface,fun l=>l=[])
  (fun _ _ i1 i2=>(fun _=>False,fun l=>∃ v vs,l=v :: vs∧i1.1 v∧i2.2 vs)) x
def DV (ρ:Pl) (x:CV) (v:Value):Prop:=(D ρ x).1 v
def DL (ρ:Pl) (x:CV) (l:List Value):Prop:=(D ρ x).2 l
section
variable {ρ:Pl} {v:Value} {l:List Value}
theorem DV.int {k:IntKind} {n:Int}:DV ρ (.int k n) v↔v=.int k n:=mJ
abbrev fY:=@DV.int
theorem DV.bool {b:Bool}:DV ρ (.bool b) v↔v=.bool b:=mJ
abbrev pX:=@DV.bool
theorem DV.ptr {t o:Nat}:DV ρ (.ptr t o) v↔v=.pointer (some ⟨(ρ t).1,o,none⟩):=mJ
abbrev lK:=@DV.ptr
theorem DV.nilp:DV ρ .nilp v↔v=.pointer none:=mJ
theorem DV.nils:DV ρ .nils v↔v=.slice none 0 0:=mJ
abbrev mL:=@DV.nils
theorem DV.mp {t:Nat}:DV ρ (.mp t) v↔v=.map (some (ρ t).1):=mJ
theorem MP {t o n sz c:Nat}:DV ρ (.sl t o n sz (some c)) v↔v=.slice (some ⟨(ρ t).1,o,none⟩) n c∧o+c*sz≤(ρ t).2∧n≤c∧c≤maxLen:=mJ
abbrev jG:=@MP
theorem MQ {t o n sz:Nat}:DV ρ (.sl t o n sz none) v↔∃ c,v=.slice (some ⟨(ρ t).1,o,none⟩) n c∧o+c*sz=(ρ t).2∧n≤c∧c≤maxLen:=mJ
abbrev mK:=@MQ
theorem DV.fn {f:Nat} {x y:CV}:DV ρ (.fn f x y) v↔∃ xs ys,DL ρ x xs∧DL ρ y ys∧v=.func (.func f) xs.toArray ys.toArray:=mJ
theorem DV.agg {x:CV}:DV ρ (.agg x) v↔∃ vs,DL ρ x vs∧v=.agg vs.toArray:=mJ
abbrev rF:=@DV.agg
theorem DV.tup {x:CV}:DV ρ (.tup x) v↔∃ vs,DL ρ x vs∧v=.tuple vs.toArray:=mJ
abbrev pE:=@DV.tup
theorem DL.nil:DL ρ .nil l↔l=[]:=mJ
theorem DL.cons {a b:CV}:DL ρ (.cons a b) l↔∃ v vs,l=v :: vs∧DV ρ a v∧DL ρ b vs:=mJ
abbrev kC:=@DL.cons
end
def Bd (nx:Nat) (x:CV):Prop:=
 CV.rec (motive:=fun _=>Prop) (fun _ _=>True) (fun _=>True) (fun _ ih=>ih) (fun t _=>t<nx) True (fun t _ _ _ _=>t<nx) True True (fun t=>t<nx) True (fun _ _ _ i1 i2=>i1∧i2) True (fun t=>t<nx)
  (fun _ ih=>ih) (fun _ ih=>ih) True (fun _ _ i1 i2=>i1∧i2) x
def Ext (nx:Nat) (ρ ρ':Pl):Prop:=∀ t,t<nx→ρ' t=ρ t
theorem Ext.refl (nx:Nat) (ρ:Pl):Ext nx ρ ρ:=fun _ _=>rfl
abbrev dD:=@Ext.refl
theorem Ext.trans {nx nx':Nat} {a b c:Pl} (h:Ext nx a b) (k:Ext nx' b c) (hn:nx≤nx'):Ext nx a c:=fun t ht=>(k t (bN ht hn)).trans (h t ht)
theorem KY {nx:Nat} {ρ ρ':Pl} (h:Ext nx ρ ρ') (x:CV) (hb:Bd nx x):D ρ' x=D ρ x:=by
 induction x with
 | int k n=>rfl
 | bool b=>rfl
 | str s ih=>have:=ih hb;show (_,_)=(_,_);simp only [D] at this ⊢;rw [this]
 | ptr t o=>have e:=h t hb;show (_,_)=(_,_);simp only [e]
 | nilp=>rfl
 | sl t o n sz c=>have e:=h t hb;show (_,_)=(_,_);simp only [e]
 | nils=>rfl
 | sle=>rfl
 | mp t=>have e:=h t hb;show (_,_)=(_,_);simp only [e]
 | nilm=>rfl
 | fn f x y i1 i2=>have e1:=i1 hb.1;have e2:=i2 hb.2;show (_,_)=(_,_);simp only [D] at e1 e2 ⊢;rw [e1,e2]
 | nilf=>rfl
 | yl t=>have e:=h t hb;show (_,_)=(_,_);simp only [e]
 | agg l ih=>have:=ih hb;show (_,_)=(_,_);simp only [D] at this ⊢;rw [this]
 | tup l ih=>have:=ih hb;show (_,_)=(_,_);simp only [D] at this ⊢;rw [this]
 | nil=>rfl
 | cons a b i1 i2=>have e1:=i1 hb.1;have e2:=i2 hb.2;show (_,_)=(_,_);simp only [D] at e1 e2 ⊢;rw [e1,e2]
theorem Bd.mono {nx nx':Nat} (h:nx≤nx') (x:CV) (hb:Bd nx x):Bd nx' x:=by
 induction x with
 | str s ih=>exact ih hb
 | ptr t o=>exact bN (show t<nx from hb) h
 | sl t o n sz c=>exact bN (show t<nx from hb) h
 | mp t=>exact bN (show t<nx from hb) h
 | fn f x y i1 i2=>exact ⟨i1 hb.1,i2 hb.2⟩
 | yl t=>exact bN (show t<nx from hb) h
 | agg l ih=>exact ih hb
 | tup l ih=>exact ih hb
 | cons a b i1 i2=>exact ⟨i1 hb.1,i2 hb.2⟩
 | _=>trivial
def Kn (nx:Nat) (ρ:Pl) (x:CV) (v:Value):Prop:=Bd nx x∧DV ρ x v
def KL (nx:Nat) (ρ:Pl) (x:CV) (l:List Value):Prop:=Bd nx x∧DL ρ x l
theorem Kn.up {nx nx':Nat} {ρ ρ':Pl} {x:CV} {v:Value} (h:Kn nx ρ x v) (hn:nx≤nx') (he:Ext nx ρ ρ'):Kn nx' ρ' x v:=
 ⟨h.1.mono hn,by unfold DV;rw [KY he x h.1];exact h.2⟩
theorem KL.up {nx nx':Nat} {ρ ρ':Pl} {x:CV} {v:List Value} (h:KL nx ρ x v) (hn:nx≤nx') (he:Ext nx ρ ρ'):KL nx' ρ' x v:=
 ⟨h.1.mono hn,by unfold DL;rw [KY he x h.1];exact h.2⟩
theorem KL.nil {nx:Nat} {ρ:Pl}:KL nx ρ .nil []:=⟨trivial,rfl⟩
abbrev mV:=@KL.nil
theorem KL.cons {nx:Nat} {ρ:Pl} {a b:CV} {v:Value} {vs:List Value} (h1:Kn nx ρ a v) (h2:KL nx ρ b vs):KL nx ρ (.cons a b) (v :: vs):=⟨⟨h1.1,h2.1⟩,⟨v,vs,rfl,h1.2,h2.2⟩⟩
abbrev oE:=@KL.cons
structure Rw where
 n:Nat
 t:Tr CV
def RT (nx:Nat) (ρ:Pl) (t:Tr CV) (vs:List Value):Prop:=∀ i x,t.get i=some x→∃ v,vs[i]?=some v∧Kn nx ρ x v
def RL (nx:Nat) (ρ:Pl) (r:Rw) (vs:List Value):Prop:=r.n=vs.length∧RT nx ρ r.t vs
theorem RL.up {nx nx':Nat} {ρ ρ':Pl} {r:Rw} {vs:List Value} (h:RL nx ρ r vs) (hn:nx≤nx') (he:Ext nx ρ ρ'):RL nx' ρ' r vs:=
 ⟨h.1,fun i x hx=>by obtain ⟨v,h1,h2⟩:=h.2 i x hx;exact ⟨v,h1,h2.up hn he⟩⟩
inductive CB where
 | cells (l:Rw) (ty:Nat) (op:Bool) (st:Nat)
 | ro (l:Rw) (ty:Nat) (st:Nat)
 | mapI (l:List (Int×Int)) (st:Nat)
 | mapK (l:List (K4×Int)) (st:Nat)
 | it (l:CV) (pos:Nat) (st:Nat)
 | lp (E:Tr CV) (n:Nat) (ps:List Nat) (asg body:Code) (q:LoopState) (p:Option Code) (st:Nat)
def Og:CB→Nat
 | .cells _ _ _ s=>s
 | .ro _ _ s=>s
 | .mapI _ s=>s
 | .mapK _ s=>s
 | .it _ _ s=>s
 | .lp _ _ _ _ _ _ _ s=>s
def DB (nx:Nat) (ρ:Pl) (size:Nat):CB→Obj→Prop
 | .cells l ty op _,o=>∃ vs junk,RL nx ρ l vs∧o=.cells (vs++junk).toArray ty (0,0)∧vs.length+junk.length=size∧(op=false→junk=[])
 | .ro l ty _,o=>∃ vs fz,RL nx ρ l vs∧o=.cells vs.toArray ty fz
 | .mapI l _,o=>o=sP l
 | .mapK l _,o=>o=sP l
 | .it l pos _,o=>∃ bs:List UInt8,KL nx ρ l (bs.map fun b=>Value.int .u8 b.toNat)∧o=.stringIter ⟨bs.toArray⟩ pos
 | .lp E n ps asg body st p _,o=>∃ q:Loop,o=.loop q∧q.state=st∧q.pending=p∧q.params=ps.toArray∧q.assign=asg∧q.body=body∧q.tmps.size=n∧∀ i x,E.get i=some x→∃ v,q.tmps[i]?=some v∧Kn nx ρ x v
theorem DB.up {nx nx':Nat} {ρ ρ':Pl} {s:Nat} {b:CB} {o:Obj} (h:DB nx ρ s b o) (hn:nx≤nx') (he:Ext nx ρ ρ'):DB nx' ρ' s b o:=by
 cases b with
 | cells l ty op st=>obtain ⟨vs,junk,h1,h2⟩:=h;exact ⟨vs,junk,h1.up hn he,h2⟩
 | ro l ty st=>obtain ⟨vs,fz,h1,h2⟩:=h;exact ⟨vs,fz,h1.up hn he,h2⟩
 | mapI l st=>exact h
 | mapK l st=>exact h
 | it l pos st=>obtain ⟨bs,h1,h2⟩:=h;exact ⟨bs,h1.up hn he,h2⟩
 | lp E n ps asg body q p st =>
   obtain ⟨q,h1,h2,h3,h4,h5,h6,h7,h8⟩:=h
   exact ⟨q,h1,h2,h3,h4,h5,h6,h7,fun i x hx=>by obtain ⟨v,g1,g2⟩:=h8 i x hx;exact ⟨v,g1,g2.up hn he⟩⟩
structure Bas (Φ:Imm→Prop) where
 w:World
 ks:List Nat
 G:Imm
 ok:Φ G
 s:Nat
structure Mem {Φ:Imm→Prop} (ρ:Pl) (w0:Bas Φ) (h:Tr CB) (nx:Nat) (w:World):Prop where
 upd:Upd (fun _=>False) w0.w w
 own:∀ t b,h.get t=some b→t<nx∧Og b<nx∧w0.w.heap.size≤(ρ t).1∧∃ o,w.heap[(ρ t).1]?=some o∧DB nx ρ (ρ t).2 b o
 one:∀ t t' b b',h.get t=some b→h.get t'=some b'→(ρ t).1=(ρ t').1→t=t'
 imm:∀ b o,w0.G b=some o→w0.w.heap[b]?=some o
 nod:w0.ks.Nodup
 kept:∀ b,b∈w0.ks→w0.w.heap.size≤b∧w.heap[b]?=some (.deferred (some []))∧∀ t c,h.get t=some c→(ρ t).1≠b
def Slots (ρ:Pl) (E:Tr CV) (nx:Nat) (n:Nat) (a:Act):Prop:=a.tmps.size=n∧∀ i x,E.get i=some x→∃ v,a.tmps[i]?=some v∧Kn nx ρ x v
def Bas.plus {Φ:Imm→Prop} (w0:Bas Φ) (os:List Nat):Bas Φ:=⟨w0.w,os++w0.ks,w0.G,w0.ok,w0.s⟩
structure Rel0 {Φ:Imm→Prop} (ρ:Pl) (w0:Bas Φ) (os:List Nat) (n:Nat) (E:Tr CV) (h:Tr CB) (nx:Nat) (a:Act) (w:World):Prop where
 slots:Slots ρ E nx n a
 defers:a.defers=os.map mark
 mem:Mem ρ (w0.plus os) h nx w
 mks:∀ b,b∈os→w0.s≤b
 ss:w0.s≤w.heap.size
def Rel {Φ:Imm→Prop} (ρ:Pl) (w0:Bas Φ) (n:Nat) (E:Tr CV) (h:Tr CB) (nx:Nat) (a:Act) (w:World):Prop:=∃ os,Rel0 ρ w0 os n E h nx a w
def lrec {β:Sort _} (n:β) (c:CV→CV→β→β) (x:CV):β:=
 CV.rec (motive:=fun _=>β) (fun _ _=>n) (fun _=>n) (fun _ _=>n) (fun _ _=>n) n (fun _ _ _ _ _=>n) n n (fun _=>n) n (fun _ _ _ _ _=>n) n (fun _=>n) (fun _ _=>n) (fun _ _=>n) n (fun a b _ ih=>c a b ih) x
section
variable {β:Type} {n:β} {c:CV→CV→β→β}
end
def Ek (l:CV):Nat→Option CV:=lrec (fun _=>none) (fun a _ ih k=>bif Nat.beq k 0 then some a else ih (Nat.pred k)) l
def sG (l:CV):Nat:=lrec 0 (fun _ _ ih=>Nat.succ ih) l
def yA (l m:CV):CV:=lrec m (fun a _ ih=>.cons a ih) l
def zR (k:Nat):CV→CV:=Nat.rec (fun l=>l) (fun _ ih l=>lrec .nil (fun _ b _=>ih b) l) k
def zS (k:Nat):CV→CV:=Nat.rec (fun _=>.nil) (fun _ ih l=>lrec .nil (fun a b _=>.cons a (ih b)) l) k
def Oh (x:CV):Bool:=
 CV.rec (motive:=fun _=>Bool) (fun _ _=>true) (fun _=>true) (fun _ _=>true) (fun _ _=>true) true (fun _ _ _ _ _=>true) true true (fun _=>true) true (fun _ _ _ _ _=>true) true (fun _=>true) (fun _ _=>false) (fun _ _=>false) false (fun _ _ _ _=>false) x
def Cw (l:CV):Bool:=lrec true (fun a _ ih=>Oh a && ih) l
def Ua (l:CV) (k:Nat):CV:=Nat.rec .nil (fun _ ih=>yA l ih) k
section
variable {nx:Nat} {ρ:Pl}
theorem KL.inv_nil {l:List Value} (h:KL nx ρ .nil l):l=[]:=h.2
theorem KL.inv_cons {a b:CV} {l:List Value} (h:KL nx ρ (.cons a b) l):∃ v vs,l=v :: vs∧Kn nx ρ a v∧KL nx ρ b vs:=by
 obtain ⟨h1,v,vs,h2,h3,h4⟩:=h
 exact ⟨v,vs,h2,⟨h1.1,h3⟩,⟨h1.2,h4⟩⟩
theorem Zx {motive:CV→List Value→Prop} (h0:motive .nil []) (h1:∀ a b v vs,Kn nx ρ a v→KL nx ρ b vs→motive b vs→motive (.cons a b) (v :: vs)):∀ {x:CV} {l:List Value},KL nx ρ x l→motive x l:=by
 intro x
 induction x with
 | nil=>intro l h;rw [h.inv_nil];exact h0
 | cons a b _ ih =>
   intro l h
   obtain ⟨v,vs,rfl,h2,h3⟩:=h.inv_cons
   exact h1 a b v vs h2 h3 (ih h3)
 | _=>intro l h;exact absurd h.2 id
abbrev kT:=@Zx
theorem Ae {x:CV} {l:List Value} (h:KL nx ρ x l):∀ {k:Nat} {c:CV},Ek x k=some c→∃ v,l[k]?=some v∧Kn nx ρ c v:=by
 refine kT (motive:=fun x l=>∀ {k:Nat} {c:CV},Ek x k=some c→∃ v,l[k]?=some v∧Kn nx ρ c v) ?_ ?_ h
 · intro k c hc;cases hc
 intro a b v vs hv hvs ih k c hc
 have hc':(bif Nat.beq k 0 then some a else Ek b (Nat.pred k))=some c:=hc
 cases hb:Nat.beq k 0 with
 | true =>
   rw [hb] at hc'
   have:=aD hb
   subst this
   cases hc'
   exact ⟨v,rfl,hv⟩
 | false =>
   rw [hb] at hc'
   obtain ⟨u,h1,h2⟩:=ih hc'
   refine ⟨u,?_,h2⟩
   cases k with
   | zero=>cases hb
   | succ k=>exact h1
theorem sJ {x:CV} {l:List Value} (h:KL nx ρ x l):sG x=l.length:=by
 refine kT (motive:=fun x l=>sG x=l.length) rfl ?_ h
 intro a b v vs _ _ ih
 show Nat.succ (sG b)=_
 rw [ih];rfl
theorem Af {x y:CV} {l m:List Value} (h:KL nx ρ x l) (k:KL nx ρ y m):KL nx ρ (yA x y) (l++m):=by
 refine kT (motive:=fun x l=>KL nx ρ (yA x y) (l++m)) k ?_ h
 intro a b v vs h1 _ ih
 exact oE h1 ih
theorem Cx:∀ (k:Nat) {x:CV} {l:List Value},KL nx ρ x l→KL nx ρ (zR k x) (l.drop k):=by
 intro k
 induction k with
 | zero=>intro x l h;exact h
 | succ k ih =>
   intro x l h
   refine kT (motive:=fun x l=>KL nx ρ (zR (k+1) x) (l.drop (k+1))) mV ?_ h
   intro a b v vs _ h2 _
   exact ih h2
theorem Cy:∀ (k:Nat) {x:CV} {l:List Value},KL nx ρ x l→KL nx ρ (zS k x) (l.take k):=by
 intro k
 induction k with
 | zero=>intro x l h;exact mV
 | succ k ih =>
   intro x l h
   refine kT (motive:=fun x l=>KL nx ρ (zS (k+1) x) (l.take (k+1))) mV ?_ h
   intro a b v vs h1 h2 _
   exact oE h1 (ih h2)
theorem Gs {x:CV} {l:List Value} (h:KL nx ρ x l):∀ k:Nat,KL nx ρ (Ua x k) (List.replicate k l).flatten:=by
 intro k
 induction k with
 | zero=>exact mV
 | succ k ih =>
   rw [nF,List.flatten_cons]
   exact Af h ih
theorem Mi {x:CV} {v:Value} (h:Kn nx ρ x v) (hs:Oh x=true):v.oneCell'=true:=by
 cases x with
 | int k n=>rw [show v=_ from h.2];rfl
 | bool b=>rw [show v=_ from h.2];rfl
 | str s=>obtain ⟨_,_,_,_,h3⟩:=h.2;rw [h3];rfl
 | ptr t o=>rw [show v=_ from h.2];rfl
 | nilp=>rw [show v=_ from h.2];rfl
 | sl t o n sz c =>
   cases c with
   | some c=>rw [(jG.1 h.2).1];rfl
   | none=>obtain ⟨c,h1,_⟩:=mK.1 h.2;rw [h1];rfl
 | nils=>rw [show v=_ from h.2];rfl
 | sle=>obtain ⟨_,_,h1⟩:=h.2;rw [h1];rfl
 | mp t=>rw [show v=_ from h.2];rfl
 | nilm=>rw [show v=_ from h.2];rfl
 | fn f x y=>obtain ⟨_,_,_,_,h1⟩:=DV.fn.1 h.2;rw [h1];rfl
 | nilf=>rw [show v=_ from h.2];rfl
 | yl t=>rw [show v=_ from h.2];rfl
 | agg l=>cases hs
 | tup l=>cases hs
 | nil=>cases hs
 | cons a b=>cases hs
theorem Iy {x:CV} {l:List Value} (h:KL nx ρ x l):Cw x=true→l.all (·.oneCell')=true:=by
 refine kT (motive:=fun x l=>Cw x=true→l.all (·.oneCell')=true) (fun _=>rfl) ?_ h
 intro a b v vs h1 _ ih hs
 have hs':(Oh a && Cw b)=true:=hs
 simp only [aB] at hs'
 rw [iZ,aB]
 exact ⟨Mi h1 hs'.1,ih hs'.2⟩
end
def Zy (r:Rw) (o:Nat):Option CV:=r.t.get o
def sO (r:Rw) (o k:Nat):CV:=Nat.rec (motive:=fun _=>Nat→CV) (fun _=>.nil) (fun _ ih o=>match r.t.get o with | some a=>.cons a (ih (Nat.succ o)) | none=>.nil) k o
def Zz (m:CV) (t:Tr CV) (p:Nat):Tr CV:=lrec (β:=Tr CV→Nat→Tr CV) (fun t _=>t) (fun a _ ih t p=>ih (t.set (some a) (Nat.succ p) p) (Nat.succ p)) m t p
def Ky (p:Nat) (m:CV) (r:Rw):Rw:=⟨r.n,Zz m r.t p⟩
def MR (r:Rw) (m:CV):Rw:=⟨Nat.add r.n (sG m),Zz m r.t r.n⟩
def Kz (m:CV):Rw:=⟨sG m,Zz m .e 0⟩
theorem FH:∀ (m:CV) (t:Tr CV) (p i:Nat),(Zz m t p).get i=if p≤i∧i<p+sG m then Ek m (i - p) else t.get i:=by
 intro m
 induction m with
 | cons a b _ ih =>
   intro t p i
   show (Zz b (t.set (some a) (Nat.succ p) p) (Nat.succ p)).get i=if p≤i∧i<p+Nat.succ (sG b) then (bif Nat.beq (i - p) 0 then some a else Ek b (Nat.pred (i - p))) else t.get i
   rw [ih,eN _ _ _ _ _ (cK p)]
   by_cases h1:i=p
   · subst h1
     rw [aK (by omega),aR rfl,aR (by omega),jK]
     rfl
   · by_cases h2:p+1≤i∧i<p+1+sG b
     · rw [aR (show Nat.succ p≤i∧i<Nat.succ p+sG b from h2),aR (by omega)]
       have h3:Nat.beq (i - p) 0=false:=by
        cases hb:Nat.beq (i - p) 0 with
        | false=>rfl
        | true=>have:=aD hb;omega
       rw [h3]
       show Ek b (i - (p+1))=Ek b (i - p - 1)
       rw [Nat.sub_add_eq]
     · rw [aK (show ¬(Nat.succ p≤i∧i<Nat.succ p+sG b) from h2),aK h1,aK (by omega)]
 | _=>intro t p i;exact (aK (show ¬(p≤i∧i<p+0) by omega)).symm
section
variable {nx:Nat} {ρ:Pl}
theorem Ww {α:Type} {l n:List α} {p:Nat} (h:p+n.length≤l.length) (i:Nat):(l.take p++n++l.drop (p+n.length))[i]?=if p≤i∧i<p+n.length then n[i - p]? else l[i]?:=by
 have hl:(l.take p).length=p:=by rw [bC];omega
 by_cases h1:i<p
 · rw [aK (by omega),dJ,aZ rG,List.getElem?_take_of_lt h1]
 by_cases h2:i<p+n.length
 · rw [aR ⟨by omega,h2⟩,dJ,cH rG,hl,aZ rG]
 rw [aK (by omega),cH (by rw [aI,hl];omega),aI,hl,eR]
 congr 1;omega
theorem Oi {m:CV} {t:Tr CV} {p:Nat} {vs us news:List Value} (hm:KL nx ρ m news) (ht:RT nx ρ t vs) (h1:∀ i,p≤i→i<p+news.length→us[i]?=news[i - p]?) (h2:∀ i v,¬(p≤i∧i<p+news.length)→vs[i]?=some v→us[i]?=some v):RT nx ρ (Zz m t p) us:=fun i x hx=>by
 rw [FH,sJ hm] at hx
 by_cases h:p≤i∧i<p+news.length
 · rw [aR h] at hx
   obtain ⟨v,e1,e2⟩:=Ae hm hx
   exact ⟨v,by rw [h1 i h.1 h.2];exact e1,e2⟩
 rw [aK h] at hx
 obtain ⟨v,e1,e2⟩:=ht i x hx
 exact ⟨v,h2 i v h e1,e2⟩
theorem JQ {m:CV} {r:Rw} {p:Nat} {vs news:List Value} (hr:RL nx ρ r vs) (hm:KL nx ρ m news) (hp:p+news.length≤vs.length):RL nx ρ (Ky p m r) (vs.take p++news++vs.drop (p+news.length)):=
 ⟨by show r.n=_;rw [hr.1];simp only [aI,bC,dM];omega,
  Oi hm hr.2 (fun i h1 h2=>by rw [Ww hp,aR ⟨h1,h2⟩]) (fun i v h e=>by rw [Ww hp,aK h];exact e)⟩
theorem Wx {m:CV} {r:Rw} {vs news:List Value} (hr:RL nx ρ r vs) (hm:KL nx ρ m news):RL nx ρ (MR r m) (vs++news):=
 ⟨by show r.n+sG m=_;rw [hr.1,sJ hm,aI],
  Oi hm hr.2 (fun i h1 h2=>by rw [hr.1] at h1 ⊢;exact cH h1) (fun i v _ e=>by
   have:=(aV.1 e).1
   rw [aZ this];exact e)⟩
theorem Oj {m:CV} {vs:List Value} (hm:KL nx ρ m vs):RL nx ρ (Kz m) vs:=
 ⟨sJ hm,Oi (vs:=[]) hm (fun i x hx=>by cases hx) (fun i _ h2=>by rw [oY]) (fun i v _ e=>by cases e)⟩
theorem Cz {r:Rw} {vs:List Value} (hr:RL nx ρ r vs):r.n=vs.length:=hr.1
theorem Wy {r:Rw} {vs:List Value} (hr:RL nx ρ r vs) {k:Nat} {c:CV} (h:Zy r k=some c):∃ v,vs[k]?=some v∧Kn nx ρ c v:=hr.2 k c h
theorem vV {r:Rw} {vs:List Value} (hr:RL nx ρ r vs):∀ {k o:Nat},sG (sO r o k)=k→KL nx ρ (sO r o k) ((vs.drop o).take k):=by
 intro k
 induction k with
 | zero=>intro o h;exact mV
 | succ k ih =>
   intro o h
   have hs:sO r o (k+1)=(match r.t.get o with | some a=>.cons a (sO r (o+1) k) | none=>.nil):=rfl
   rw [hs] at h ⊢
   split at h
   · rename_i a ha
     obtain ⟨v,e1,e2⟩:=hr.2 o a ha
     have h':sG (sO r (o+1) k)=k:=Nat.succ.inj h
     obtain ⟨hl,hg⟩:=aV.1 e1
     rw [gL hl,hg,List.take_succ_cons]
     exact oE e2 (ih h')
   cases h
end
def ofB (l:List UInt8):CV:=List.rec .nil (fun b _ ih=>.cons (.int .u8 b.toNat) ih) l
def FI:Value→Option CV
 | .int k n=>some (.int k n)
 | .bool b=>some (.bool b)
 | .pointer none=>some .nilp
 | .slice none n c=>bif Nat.beq n 0 && Nat.beq c 0 then some .nils else none
 | .map none=>some .nilm
 | .nilFunc=>some .nilf
 | .nilIface=>some .nil
 | .string ⟨⟨l⟩⟩=>some (.str (ofB l))
 | _=>none
def SA (l:List Value):Option CV:=List.rec (some .nil) (fun v _ ih=>match FI v with | some a=>(match ih with | some b=>some (.cons a b) | none=>none) | none=>none) l
def KZ:Value→Option CV
 | .agg ⟨l⟩=>match SA l with | some x=>some (.agg x) | none=>none
 | .tuple ⟨l⟩=>match SA l with | some x=>some (.tup x) | none=>none
 | v=>FI v
section
variable {nx:Nat} {ρ:Pl}
theorem MS:∀ l:List UInt8,KL nx ρ (ofB l) (l.map fun b=>Value.int .u8 b.toNat):=by
 intro l
 induction l with
 | nil=>exact mV
 | cons b l ih=>exact oE ⟨trivial,rfl⟩ ih
theorem Wz {v:Value} {x:CV} (h:FI v=some x):Kn nx ρ x v:=by
 unfold FI at h
 split at h
 · cases h;exact ⟨trivial,rfl⟩
 · cases h;exact ⟨trivial,rfl⟩
 · cases h;exact ⟨trivial,rfl⟩
 · rename_i n c
   cases hb:Nat.beq n 0 && Nat.beq c 0 with
   | true =>
     rw [hb] at h
     cases h
     simp only [aB] at hb
     have e1:=aD hb.1
     have e2:=aD hb.2
     subst e1 e2
     exact ⟨trivial,rfl⟩
   | false=>rw [hb] at h;cases h
 · cases h;exact ⟨trivial,rfl⟩
 · cases h;exact ⟨trivial,rfl⟩
 · cases h;exact ⟨trivial,rfl⟩
 · rename_i l
   cases h
   have:=MS (nx:=nx) (ρ:=ρ) l
   exact ⟨this.1,⟨_,l,this.2,rfl,rfl⟩⟩
 cases h
theorem FJ:∀ {l:List Value} {x:CV},SA l=some x→KL nx ρ x l:=by
 intro l
 induction l with
 | nil=>intro x h;cases h;exact mV
 | cons v l ih =>
   intro x h
   have h':(match FI v with | some a=>(match SA l with | some b=>some (.cons a b) | none=>none) | none=>none)=some x:=h
   split at h'
   · rename_i a ha
     split at h'
     · rename_i b hb
       cases h'
       exact oE (Wz ha) (ih hb)
     cases h'
   cases h'
theorem FK {v:Value} {x:CV} (h:KZ v=some x):Kn nx ρ x v:=by
 unfold KZ at h
 split at h
 · split at h
   · rename_i l y hy
     cases h
     have:=FJ (nx:=nx) (ρ:=ρ) hy
     exact ⟨this.1,rF.2 ⟨_,this.2,rfl⟩⟩
   cases h
 · split at h
   · rename_i l y hy
     cases h
     have:=FJ (nx:=nx) (ρ:=ρ) hy
     exact ⟨this.1,pE.2 ⟨_,this.2,rfl⟩⟩
   cases h
 exact Wz h
end
def sU (E:Tr CV):Operand→Option CV
 | .tmp t=>E.get t
 | .const v=>KZ v
 | .func f=>some (.fn f .nil .nil)
 | .global _=>none
def AA (E:Tr CV) (l:List Operand):Option CV:=List.rec (some .nil) (fun x _ ih=>match sU E x with | some a=>(match ih with | some b=>some (.cons a b) | none=>none) | none=>none) l
theorem zT:∀ (vs:List Value) (i j:Nat),(tX i vs).get (i+j)=vs[j]?
 | [],i,j=>rfl
 | v :: vs,i,j=>by
   show Env.get ((i,v) :: tX (i+1) vs) (i+j)=_
   rw [iB]
   cases j with
   | zero=>simp
   | succ j =>
     rw [aK (by omega),show i+(j+1)=(i+1)+j by omega,zT vs (i+1) j]
     rfl
def eA (a:Act):Env:=tX 0 a.tmps.toList
theorem Ub (a:Act) (i:Nat):(eA a).get i=a.tmps[i]?:=by
 have:=zT a.tmps.toList 0 i
 rw [cO] at this
 unfold eA
 rw [this,mQ]
section
variable {nx n:Nat} {ρ:Pl} {E:Tr CV} {a:Act}
theorem rM (h:Slots ρ E nx n a) {x:Operand} {c:CV} (hc:sU E x=some c):∃ v,(eA a).ev x=some v∧Kn nx ρ c v:=by
 cases x with
 | tmp t =>
   obtain ⟨v,h1,h2⟩:=h.2 t c hc
   exact ⟨v,by show (eA a).get t=_;rw [Ub];exact h1,h2⟩
 | const v=>exact ⟨v,rfl,FK hc⟩
 | func f =>
   cases hc
   exact ⟨_,rfl,⟨⟨trivial,trivial⟩,DV.fn.2 ⟨[],[],rfl,rfl,rfl⟩⟩⟩
 | global g=>cases hc
theorem Gu (h:Slots ρ E nx n a):∀ {l:List Operand} {c:CV},AA E l=some c→∃ vs,(eA a).evs l=some vs∧KL nx ρ c vs:=by
 intro l
 induction l with
 | nil=>intro c hc;cases hc;exact ⟨[],rfl,mV⟩
 | cons x l ih =>
   intro c hc
   have hc':(match sU E x with | some a=>(match AA E l with | some b=>some (.cons a b) | none=>none) | none=>none)=some c:=hc
   split at hc'
   · rename_i c1 h1
     split at hc'
     · rename_i c2 h2
       cases hc'
       obtain ⟨v,e1,k1⟩:=rM h h1
       obtain ⟨vs,e2,k2⟩:=ih h2
       exact ⟨v :: vs,by unfold Env.evs;rw [e1,e2],oE k1 k2⟩
     cases hc'
   cases hc'
theorem lookN (a:Act) (w:World):Look (eA a) [] (fun _=>none) a w:=
 ⟨fun i v h=>by rw [Ub] at h;exact h,⟨fun t b o h=>wW,fun t t' b o o' h=>wW,fun b o h=>wW,fun t b o h=>wW⟩⟩
theorem PT (a:Act) {w:World} {b:Nat} {o:Obj} (hb:w.heap[b]?=some o):Look (eA a) [(0,some b,o)] (fun _=>none) a w:=
 ⟨fun i v h=>by rw [Ub] at h;exact h,⟨fun t b' o' h=>(by
  rw [cE] at h
  split at h
  · cases h;exact hb
  · cases h),fun t t' b1 o1 o2 h h'=>(by
  rw [cE] at h h'
  split at h <;> split at h'
  · omega
  · cases h'
  · cases h
  cases h),fun b o h=>wW,fun t b o h=>rfl⟩⟩
end
def AY (P:Program) (T:Nat):Option Nat:=match P.info? T with | some i=>some i.size | none=>none
def NX (P:Program) (T:Nat):Option Nat:=match AY P T with | some k=>bif uS P T k then some k else none | none=>none
def SB (P:Program) (s f:Nat):Option Nat:=match P.underlying s with
 | some (.struct ⟨fs⟩)=>match Br fs f with
   | some fd=>match AY P fd.type with
     | some k=>bif Nat.beq k 0 then none else some fd.offset
     | none=>none
   | none=>none
 | _=>none
def Mj (P:Program) (T:Nat):Option (Nat×Nat):=match P.underlying T with
 | some (.slice E)=>match AY P E with | some k=>some (E,k) | none=>none
 | _=>none
theorem Bl {P:Program} {T k:Nat} (h:AY P T=some k):(P.info? T).map (·.size)=some k:=by
 unfold AY at h
 split at h
 · rename_i i hi;rw [hi];exact h
 cases h
theorem FL {P:Program} {T k:Nat} (h:NX P T=some k):uS P T k=true:=by
 unfold NX at h
 split at h
 · rename_i m hm
   cases hb:uS P T m with
   | true=>rw [hb] at h;cases h;exact hb
   | false=>rw [hb] at h;cases h
 cases h
theorem uG {P:Program} {T E k:Nat} (h:Mj P T=some (E,k)):rS P T E k:=by
 unfold Mj at h
 split at h
 · rename_i E' hu
   split at h
   · rename_i m hm
     cases h
     exact ⟨hu,Bl hm⟩
   cases h
 cases h
theorem MT {P:Program} {s f k:Nat} (h:SB P s f=some k):Gi P s f k:=by
 unfold SB at h
 split at h
 · rename_i fs hu
   split at h
   · rename_i fd hf
     split at h
     · rename_i m hm
       cases hb:Nat.beq m 0 with
       | true=>rw [hb] at h;cases h
       | false =>
         rw [hb] at h
         cases h
         intro b o w
         rw [vE] at hf
         have h1:fs.toArray[f]?=some fd:=by simpa using hf
         have h2:=run_sizeOf (P:=P) w (Bl hm)
         have h3:m≠0:=fun e=>by subst e;simp at hb
         simp only [Instr.fieldAt,bE,aS hu,aO,h1,Instr.sureAddr,bJ,fieldPlace,h2,h3,eP,add_lit]
     cases h
   cases h
 cases h
def El (m n:Int):Bool:=Int.rec (fun a=>Int.rec (fun b=>Nat.beq a b) (fun _=>false) n) (fun a=>Int.rec (fun _=>false) (fun b=>Nat.beq a b) n) m
def uO (m n:Int):Bool:=Int.rec (fun a=>Int.rec (fun b=>Nat.ble a b) (fun _=>false) n) (fun a=>Int.rec (fun _=>true) (fun b=>Nat.ble b a) n) m
theorem Iz (a b:Nat):Nat.beq a b=decide (a=b):=by
 cases h:Nat.beq a b with
 | true=>rw [aD h];simp
 | false => have:a≠b:=fun e=>by subst e;simp at h
            simp [this]
theorem Ja (a b:Nat):Nat.ble a b=decide (a≤b):=by
 cases h:Nat.ble a b with
 | true=>simp [bH h]
 | false => have:¬a≤b:=fun e=>by rw [Nat.ble_eq_true_of_le e] at h;cases h
            simp [this]
theorem uR (m n:Int):El m n=decide (m=n):=by
 cases m <;> cases n
 · rename_i a b;show Nat.beq a b=_;rw [Iz];exact iH.2 ⟨fun h=>by rw [h],fun h=>Int.ofNat.inj h⟩
 · rename_i a b;show false=_;symm;rw [dH];intro h;cases h
 · rename_i a b;show false=_;symm;rw [dH];intro h;cases h
 rename_i a b;show Nat.beq a b=_;rw [Iz];exact iH.2 ⟨fun h=>by rw [h],fun h=>Int.negSucc.inj h⟩
theorem sZ (m n:Int):uO m n=decide (m≤n):=by
 cases m <;> cases n
 · rename_i a b;show Nat.ble a b=_;rw [Ja];exact iH.2 ⟨fun h=>pA.2 h,fun h=>pA.1 h⟩
 · rename_i a b;show false=_;symm;rw [dH];intro h;have:=Int.negSucc_lt_zero b;have:=nT a;simp only [iV] at h;omega
 · rename_i a b;show true=_;symm;rw [aQ];have:=Int.negSucc_lt_zero a;have:=nT b;simp only [iV];omega
 rename_i a b;show Nat.ble b a=_;rw [Ja];exact iH.2 ⟨fun h=>by omega,fun h=>by omega⟩
def PU (lim a:Nat) (z w:Int):Int:=bif Nat.ble a lim then z else w
theorem Uc {lim a:Nat} {z w:Int} (h:a≤lim→w=z):PU lim a z w=w:=by
 unfold PU
 cases hb:Nat.ble a lim with
 | true=>exact (h (bH hb)).symm
 | false=>rfl
def PW (z:Int):Int:=Int.rec (fun a=>PU 9223372036854775807 a (.ofNat a) (IntKind.wrap .i64 (.ofNat a))) (fun a=>PU 9223372036854775807 a (.negSucc a) (IntKind.wrap .i64 (.negSucc a))) z
def SC (lim:Nat) (k:IntKind) (z:Int):Int:=Int.rec (fun a=>PU lim a (.ofNat a) (k.wrap (.ofNat a))) (fun a=>k.wrap (.negSucc a)) z
def wr (k:IntKind) (z:Int):Int:=match k with
 | .i64=>PW z
 | .u64=>SC 18446744073709551615 .u64 z
 | .u32=>SC 4294967295 .u32 z
 | .u8=>SC 255 .u8 z
 | k=>k.wrap z
theorem JR (z:Int):PW z=IntKind.wrap .i64 z:=by
 cases z with
 | ofNat a=>exact Uc fun h=>kM _ (by simp only [iV];omega)
 | negSucc a=>exact Uc fun h=>kM _ rG
theorem Ud {lim:Nat} {k:IntKind} (h:∀ a:Nat,a≤lim→k.wrap (.ofNat a)=.ofNat a) (z:Int):SC lim k z=k.wrap z:=by
 cases z with
 | ofNat a=>exact Uc (h a)
 | negSucc a=>exact Eq.refl (k.wrap (.negSucc a))
theorem Jb (k:IntKind) (z:Int):wr k z=k.wrap z:=by
 cases k
 case i64=>exact JR z
 case u64=>exact Ud (fun a h=>iK _ (by simp only [iV];omega)) z
 case u32=>exact Ud (fun a h=>by rw [oS];simp only [iV];omega) z
 case u8=>exact Ud (fun a h=>by rw [IntKind.wrap_u8];simp only [iV];omega) z
 all_goals exact Eq.refl _
def bo (o:BinOp) (k:IntKind) (m n:Int):Option CV:=match o with
 | .eql=>some (.bool (El m n))
 | .neq=>some (.bool (not (El m n)))
 | .lss=>some (.bool (not (uO n m)))
 | .leq=>some (.bool (uO m n))
 | .gtr=>some (.bool (not (uO m n)))
 | .geq=>some (.bool (uO n m))
 | .add=>some (.int k (wr k (Int.add m n)))
 | .sub=>some (.int k (wr k (Int.sub m n)))
 | .mul=>some (.int k (wr k (Int.mul m n)))
 | .quo=>bif El n 0 then none else some (.int k (wr k (Int.tdiv m n)))
 | .rem=>bif El n 0 then none else some (.int k (Int.tmod m n))
 | .and=>some (.int k (bits .and k m n))
 | .or=>some (.int k (bits .or k m n))
 | _=>none
def sh (o:BinOp) (k:IntKind) (m n:Int):Option CV:=match o with
 | .shl=>bif uO 0 n then some (.int k (wr k (Int.mul m (2 ^ (min n.toNat k.bits))))) else none
 | .shr=>bif uO 0 n then some (.int k (Int.fdiv m (2 ^ (min n.toNat k.bits)))) else none
 | _=>none
section
variable {P:Program} {e:Env} {H:Hp} {G:Imm} {ty t t':TypeId} {x y:Operand} {k k':IntKind} {m n:Int} {nx:Nat} {ρ:Pl} {c:CV}
theorem Da (p:Prop) [Decidable p]:(not (decide p))=decide (¬p):=by by_cases h:p <;> simp [h]
theorem PX {o:BinOp} (hx:e.ev x=some (.int k m)) (hy:e.ev y=some (.int k n)) (h:bo o k m n=some c):∃ v,Kn nx ρ c v∧∀ ty,Qy P (.binOp o t x y t') ty e H G v:=by
 cases o <;> first | (cases h;done) | skip
 case eql=>cases h;exact ⟨_,⟨trivial,rfl⟩,fun ty=>by rw [uR];exact Qy.eql hx hy⟩
 case neq=>cases h;exact ⟨_,⟨trivial,rfl⟩,fun ty=>by rw [uR,Da];exact Qy.neq hx hy⟩
 case lss=>cases h;exact ⟨_,⟨trivial,rfl⟩,fun ty=>by rw [sZ,Da,show decide (¬n≤m)=decide (m<n) from iH.2 Int.not_le];exact Qy.lss hx hy⟩
 case leq=>cases h;exact ⟨_,⟨trivial,rfl⟩,fun ty=>by rw [sZ];exact Qy.leq hx hy⟩
 case gtr=>cases h;exact ⟨_,⟨trivial,rfl⟩,fun ty=>by rw [sZ,Da,show decide (¬m≤n)=decide (n<m) from iH.2 Int.not_le];exact Qy.gtr hx hy⟩
 case geq=>cases h;exact ⟨_,⟨trivial,rfl⟩,fun ty=>by rw [sZ];exact Qy.geq hx hy⟩
 case add=>cases h;exact ⟨_,⟨trivial,rfl⟩,fun ty=>by rw [Jb];exact Fy hx hy⟩
 case sub=>cases h;exact ⟨_,⟨trivial,rfl⟩,fun ty=>by rw [Jb];exact Bu hx hy⟩
 case mul=>cases h;exact ⟨_,⟨trivial,rfl⟩,fun ty=>by rw [Jb];exact lA hx hy⟩
 case quo =>
  have h':(bif El n 0 then none else some (CV.int k (wr k (Int.tdiv m n))))=some c:=h
  have e:=uR n 0
  by_cases h0:n=0
  · rw [e,cR h0] at h';cases h'
  rw [e,bF h0] at h'
  cases h'
  exact ⟨_,⟨trivial,rfl⟩,fun ty=>by rw [Jb];exact Fz hx hy h0⟩
 case rem =>
  have h':(bif El n 0 then none else some (CV.int k (Int.tmod m n)))=some c:=h
  have e:=uR n 0
  by_cases h0:n=0
  · rw [e,cR h0] at h';cases h'
  rw [e,bF h0] at h'
  cases h'
  exact ⟨_,⟨trivial,rfl⟩,fun ty=>Qy.rem hx hy h0⟩
 case and=>cases h;exact ⟨_,⟨trivial,rfl⟩,fun ty=>lB hx hy⟩
 case or=>cases h;exact ⟨_,⟨trivial,rfl⟩,fun ty=>Dp hx hy⟩
theorem PY {o:BinOp} (hx:e.ev x=some (.int k m)) (hy:e.ev y=some (.int k' n)) (h:sh o k m n=some c):∃ v,Kn nx ρ c v∧∀ ty,Qy P (.binOp o t x y t') ty e H G v:=by
 cases o <;> first | (cases h;done) | skip
 case shl =>
  have h':(bif uO 0 n then some (CV.int k (wr k (Int.mul m (2 ^ (min n.toNat k.bits))))) else none)=some c:=h
  have e:=sZ 0 n
  by_cases h0:0≤n
  · rw [e,cR h0] at h'
    cases h'
    exact ⟨_,⟨trivial,rfl⟩,fun ty=>by rw [Jb];exact Qy.shl hx hy h0⟩
  rw [e,bF h0] at h';cases h'
 case shr =>
  have h':(bif uO 0 n then some (CV.int k (Int.fdiv m (2 ^ (min n.toNat k.bits)))) else none)=some c:=h
  have e:=sZ 0 n
  by_cases h0:0≤n
  · rw [e,cR h0] at h'
    cases h'
    exact ⟨_,⟨trivial,rfl⟩,fun ty=>nE hx hy h0⟩
  rw [e,bF h0] at h';cases h'
end
def MU (e:Env) (d:Nat):Option Operand→Nat→Prop
 | none,l=>l=d
 | some y,l=>∃ k,e.ev y=some (.int k (l:Int))
section
variable {P:Program} {e:Env} {H:Hp} {G:Imm} {ty T:TypeId}
theorem AB {x:Operand} {fs:Array Field} {fd:Field} {i:Nat} {vs:List Value} {v:Value} (hu:P.underlying T=some (.struct fs)) (hf:fs[i]?=some fd) (h1:tZ P fd.type=true)
 (hx:e.ev x=some (.agg vs.toArray)) (hv:vs[fd.offset]?=some v):Qy P (.field T x i) ty e H G v:=fun a w _ _ _ _ hh=>by
 simp [execOp,hh.eval hx,Instr.field,aS hu,hf,asAgg,part,uD w h1,hv]
theorem AC {x:Operand} {fs:Array Field} {fd:Field} {i k:Nat} {vs:List Value} (hu:P.underlying T=some (.struct fs)) (hf:fs[i]?=some fd) (h1:uS P fd.type k=true)
 (hx:e.ev x=some (.agg vs.toArray)):Qy P (.field T x i) ty e H G (.agg ((vs.drop fd.offset).take k).toArray):=fun a w _ _ _ _ hh=>by
 have h2:=run_sizeOf (P:=P) w (Hn h1)
 simp [execOp,hh.eval hx,Instr.field,aS hu,hf,asAgg,part,xS w h1,h2]
theorem Fp {x:Operand} {lo hi:Option Operand} {a:Option Addr} {n c l h E sz:Nat} (hT:rS P T E sz) (hx:e.ev x=some (.slice a n c))
 (hl:MU e 0 lo l) (hh:MU e n hi h) (hlh:l≤h) (hhc:h≤c) :
 Qy P (.slice T x lo hi none) ty e H G (.slice (if c=l then a else a.map (·.add (l*sz))) (h - l) (c - l)):=fun ac w _ _ _ _ hk=>by
 have hr:=run_sizeOf (P:=P) w hT.2
 have e1:(h:Int)≤c:=rG
 have e2:(l:Int)≤h:=rG
 cases lo with
 | none =>
   have hl:l=0:=hl
   subst hl
   cases hi with
   | none=>have hh:h=n:=hh;subst hh;simp [execOp,Instr.sliceAt,Instr.slice,hk.eval hx,aS hT.1,Instr.sliceBounds,Instr.sliceBound,asIntOf,hr]
   | some y =>
     obtain ⟨k,hy⟩:=hh
     simp [execOp,Instr.sliceAt,Instr.slice,hk.eval hx,hk.eval hy,aS hT.1,Instr.sliceBounds,Instr.sliceBound,asIntOf,hr,e1,hhc]
 | some z =>
   obtain ⟨kz,hz⟩:=hl
   cases hi with
   | none =>
     have hh:h=n:=hh
     subst hh
     simp [execOp,Instr.sliceAt,Instr.slice,hk.eval hx,hk.eval hz,aS hT.1,Instr.sliceBounds,Instr.sliceBound,asIntOf,hr,e2,hlh]
   | some y =>
     obtain ⟨k,hy⟩:=hh
     simp [execOp,Instr.sliceAt,Instr.slice,hk.eval hx,hk.eval hz,hk.eval hy,aS hT.1,Instr.sliceBounds,Instr.sliceBound,asIntOf,hr,e1,e2,hlh,hhc]
theorem Lb {x i:Operand} {b o n sz E:Nat} {k:IntKind} {m:Int} (hu:P.underlying T=some (.array n E)) (hs:(P.info? E).map (·.size)=some sz) (hx:e.ev x=some (.pointer (some ⟨b,o,none⟩))) (hi:e.ev i=some (.int k m))
 (hb:0≤m∧m<n):Qy P (.indexAddr T x i) ty e H G (.pointer (some ⟨b,o+m.toNat*sz,none⟩)):=fun a w _ _ _ _ hh=>by
 simp [execOp,Instr.indexAt,hh.eval hx,hh.eval hi,asIntOf,aS hu,Instr.sureAddr,hb,run_sizeOf w hs,add_lit]
theorem Qy.indexV {x i:Operand} {n E:Nat} {k:IntKind} {m:Int} {vs:List Value} {v:Value} (hu:P.underlying T=some (.array n E)) (h1:tZ P E=true) (hs:(P.info? E).map (·.size)=some 1) (hx:e.ev x=some (.agg vs.toArray)) (hi:e.ev i=some (.int k m))
 (hb:0≤m∧m<n) (hv:vs[m.toNat]?=some v):Qy P (.index T x i) ty e H G v:=fun a w _ _ _ _ hh=>by
 simp [execOp,Instr.index,hh.eval hx,hh.eval hi,asIntOf,aS hu,hb,run_sizeOf w hs,part,uD w h1,hv]
theorem Ue {x i:Operand} {n E sz:Nat} {k:IntKind} {m:Int} {vs:List Value} (hu:P.underlying T=some (.array n E)) (h1:uS P E sz=true) (hx:e.ev x=some (.agg vs.toArray)) (hi:e.ev i=some (.int k m))
 (hb:0≤m∧m<n):Qy P (.index T x i) ty e H G (.agg ((vs.drop (m.toNat*sz)).take sz).toArray):=fun a w _ _ _ _ hh=>by
 have h2:=run_sizeOf (P:=P) w (Hn h1)
 simp [execOp,Instr.index,hh.eval hx,hh.eval hi,asIntOf,aS hu,hb,h2,part,xS w h1]
theorem JS {x:Operand} {s:ByteArray} (ht:P.underlying T=some .string) (hx:e.ev x=some (.string s)):Qy P (.call { callee:=.builtin .len,args:=#[x],argTypes:=#[T] }) ty e H G (.int .i64 s.size):=fun a w _ _ _ _ hh=>by
 simp [execOp,resolve,invoke,builtin,Builtin.len_,hh.eval hx,aS ht,goInt]
end
section
variable {P:Program} {e:Env} {H:Hp} {G:Imm} {ty T:TypeId}
theorem Qy.eqlPtrNil {t t':TypeId} {x y:Operand} {a:Option Addr} (ht:P.underlying t=some (.pointer (P.pointee t))) (hx:e.ev x=some (.pointer a)) (hy:e.ev y=some (.pointer none)):Qy P (.binOp .eql t x y t') ty e H G (.bool a.isNone):=fun w0 w _ _ _ _ hh=>by
 have:=run_equalIn_pointer_nil (P:=P) w 9999 t a ht
 simp [execOp,hh.eval hx,hh.eval hy,binOp,eqGuard,Op.equal,Op.maxDepth,this]
theorem Db {t t':TypeId} {x y:Operand} {a:Option Addr} (ht:P.underlying t=some (.pointer (P.pointee t))) (hx:e.ev x=some (.pointer a)) (hy:e.ev y=some (.pointer none)):Qy P (.binOp .neq t x y t') ty e H G (.bool (!a.isNone)):=fun w0 w _ _ _ _ hh=>by
 have:=run_equalIn_pointer_nil (P:=P) w 9999 t a ht
 simp [execOp,hh.eval hx,hh.eval hy,binOp,eqGuard,Op.equal,Op.maxDepth,this]
theorem Mk {x z:Operand} {lo hi:Option Operand} {a:Option Addr} {n c l h m E sz:Nat} {kz:IntKind} (hT:rS P T E sz) (hx:e.ev x=some (.slice a n c))
 (hl:MU e 0 lo l) (hh:∃ y,hi=some y∧∃ k,e.ev y=some (.int k (h:Int))) (hz:e.ev z=some (.int kz (m:Int))) (hlh:l≤h) (hhm:h≤m) (hmc:m≤c) :
 Qy P (.slice T x lo hi (some z)) ty e H G (.slice (if m=l then a else a.map (·.add (l*sz))) (h - l) (m - l)):=fun ac w _ _ _ _ hk=>by
 have hr:=run_sizeOf (P:=P) w hT.2
 have e1:(h:Int)≤m:=rG
 have e2:(l:Int)≤h:=rG
 have e3:(m:Int)≤c:=rG
 obtain ⟨y,rfl,k,hy⟩:=hh
 cases lo with
 | none =>
   have hl:l=0:=hl
   subst hl
   simp [execOp,Instr.sliceAt,Instr.slice,hk.eval hx,hk.eval hy,hk.eval hz,aS hT.1,Instr.sliceBounds,Instr.sliceBound,asIntOf,hr,e1,e3,hhm,hmc]
 | some u =>
   obtain ⟨ku,hu⟩:=hl
   simp [execOp,Instr.sliceAt,Instr.slice,hk.eval hx,hk.eval hy,hk.eval hz,hk.eval hu,aS hT.1,Instr.sliceBounds,Instr.sliceBound,asIntOf,hr,e1,e2,e3,hhm,hmc,hlh]
end
def PZ (P:Program) (T:Nat):Option (Nat×Nat×Nat):=match P.underlying T with
 | some (.array n E)=>match AY P E with | some k=>some (n,E,k) | none=>none
 | _=>none
theorem Em {P:Program} {T n E k:Nat} (h:PZ P T=some (n,E,k)):P.underlying T=some (.array n E)∧(P.info? E).map (·.size)=some k:=by
 unfold PZ at h
 split at h
 · rename_i n' E' hu
   split at h
   · rename_i m hm;cases h;exact ⟨hu,Bl hm⟩
   cases h
 cases h
def xU:CV→Option CV
 | .agg l=>some l
 | .tup _=>none
 | .nil=>none
 | .cons _ _=>none
 | x=>some (.cons x .nil)
section
variable {nx n:Nat} {ρ:Pl}
theorem yB {x:CV} {v:Value} (h:Kn nx ρ x v) {l:CV} (hl:xU x=some l):KL nx ρ l v.cells.toList:=by
 have scal:∀ y:CV,Oh y=true→∀ u,Kn nx ρ y u→KL nx ρ (.cons y .nil) u.cells.toList:=fun y hy u hu=>by
  rw [Ln (Mi hu hy)];exact oE hu mV
 cases x with
 | agg m=>cases hl;obtain ⟨vs,h1,h2⟩:=rF.1 h.2;rw [h2];exact ⟨h.1,h1⟩
 | tup m=>cases hl
 | nil=>cases hl
 | cons a b=>cases hl
 | _=>cases hl;exact scal _ rfl _ h
end
def WE (P:Program) (fs:List Field):Option (List (Nat×Nat)):=List.rec (some []) (fun f _ ih=>match AY P f.type with | some k=>(match ih with | some l=>some ((f.offset,k) :: l) | none=>none) | none=>none) fs
theorem MV {P:Program}:∀ {fs:List Field} {pl:List (Nat×Nat)},WE P fs=some pl→fs.map (fun f=>(f.offset,(P.info? f.type).map (·.size)))=pl.map fun x=>(x.1,some x.2):=by
 intro fs
 induction fs with
 | nil=>intro pl h;cases h;rfl
 | cons f fs ih =>
   intro pl h
   have h':(match AY P f.type with | some k=>(match WE P fs with | some l=>some ((f.offset,k) :: l) | none=>none) | none=>none)=some pl:=h
   split at h'
   · rename_i k hk
     split at h'
     · rename_i l hl
       cases h'
       rw [bX,bX,ih hl,Bl hk]
     cases h'
   cases h'
def LA (P:Program) (T:Nat):Option CV:=match P.info? T with
 | some i=>match i.zero with
   | some v=>match KZ v with
     | some x=>xU x
     | none=>none
   | none=>none
 | none=>none
theorem Jc {P:Program} {T:Nat} {x:CV} (h:LA P T=some x) (nx:Nat) (ρ:Pl):∃ i z,P.info? T=some i∧i.zero=some z∧KL nx ρ x z.cells.toList:=by
 unfold LA at h
 split at h
 · rename_i i hi
   split at h
   · rename_i v hv
     split at h
     · rename_i y hy
       exact ⟨i,v,hi,hv,yB (FK hy) h⟩
     cases h
   cases h
 cases h
def Dc (E:Tr CV) (pl:List (Nat×Nat)) (n:Nat) (parts:List (Nat×Operand)):CV→Option CV:=
 List.rec (fun l=>some l) (fun p _ ih l=>match Br pl p.1 with
  | some (off,size)=>(match sU E p.2 with
    | some c=>(match xU c with
      | some m=>bif Nat.beq (sG m) size && Nat.ble (off+size) n then ih (yA (zS off l) (yA m (zR (off+size) l))) else none
      | none=>none)
    | none=>none)
  | none=>none) parts
section
variable {nx n:Nat} {ρ:Pl} {E:Tr CV} {a:Act}
theorem Dd (hs:Slots ρ E nx n a) {pl:List (Nat×Nat)} {N:Nat}:∀ {parts:List (Nat×Operand)} {l r:CV} {zs:List Value},KL nx ρ l zs→Dc E pl N parts l=some r→
 ∃ vs,wP (eA a) parts=some vs∧Av pl N vs=true∧KL nx ρ r (wL pl zs vs):=by
 intro parts
 induction parts with
 | nil=>intro l r zs hl h;cases h;exact ⟨[],rfl,rfl,hl⟩
 | cons p parts ih =>
   intro l r zs hl h
   obtain ⟨i,x⟩:=p
   have h':(match Br pl i with
    | some (off,size)=>(match sU E x with
      | some c=>(match xU c with
        | some m=>bif Nat.beq (sG m) size && Nat.ble (off+size) N then Dc E pl N parts (yA (zS off l) (yA m (zR (off+size) l))) else none
        | none=>none)
      | none=>none)
    | none=>none)=some r:=h
   split at h'
   · rename_i off size hp
     split at h'
     · rename_i c hc
       split at h'
       · rename_i m hm
         cases hb:Nat.beq (sG m) size && Nat.ble (off+size) N with
         | true =>
           rw [hb] at h'
           simp only [aB] at hb
           obtain ⟨v,e1,k1⟩:=rM hs hc
           have kc:=yB k1 hm
           have hlen:v.cells.toList.length=size:=by rw [←sJ kc];exact aD hb.1
           obtain ⟨vs,e2,o2,k2⟩:=ih (Af (Cy off hl) (Af kc (Cx (off+size) hl))) h'
           rw [vE] at hp
           refine ⟨(i,v) :: vs,by unfold wP;rw [e1,e2],?_,?_⟩
           · unfold Av
             rw [hp,o2,kY,hlen]
             simp only [aB]
             exact ⟨by simp,hb.2⟩
           · unfold wL
             rw [hp]
             simp only [hlen]
             exact k2
         | false=>rw [hb] at h';cases h'
       cases h'
     cases h'
   cases h'
end
def MW (P:Program) (fs:List Field):Nat→Bool:=List.rec (fun _=>true) (fun f _ ih j=>match wE P f with | (true,k)=>Nat.beq k j && ih (Nat.succ j) | _=>false) fs
theorem JT {P:Program}:∀ {fs:List Field} {j:Nat},MW P fs j=true→fs.map (wE P)=(List.range' j fs.length).map fun i=>(true,i):=by
 intro fs
 induction fs with
 | nil=>intro j _;rfl
 | cons f fs ih =>
   intro j h
   have h':(match wE P f with | (true,k)=>Nat.beq k j && MW P fs (Nat.succ j) | _=>false)=true:=h
   split at h'
   · rename_i k hk
     rw [aB] at h'
     have e:=aD h'.1
     subst e
     rw [bX,hk,bV,rD,bX,ih h'.2]
   cases h'
def SD (P:Program) (t:Nat):Option Nat:=match P.underlying t with
 | some (.struct ⟨fs⟩)=>bif not (P.stoodInHeld t) && (not (P.eqGuardType P.depth t) && MW P fs 0) then some fs.length else none
 | _=>none
theorem FM {P:Program} {t n:Nat} (h:SD P t=some n):yL P t n:=by
 unfold SD at h
 split at h
 · rename_i fs hu
   rcases rK h with ⟨h1,h2⟩ | ⟨_,h2⟩
   · cases h2
     simp only [aB,dV] at h1
     have hf:P.fieldsOf t=⟨fs⟩:=by unfold Program.fieldsOf;rw [hu]
     refine ⟨by rw [hf];exact hu,h1.1,h1.2.1,?_⟩
     rw [hf,JT h1.2.2,pM]
   cases h2
 cases h
def JU:CV→Option Int
 | .int .i64 n=>some n
 | _=>none
theorem JV {nx:Nat} {ρ:Pl} {a:CV} {v:Value} {n:Int} (h:JU a=some n) (hk:Kn nx ρ a v):v=.int .i64 n:=by
 unfold JU at h
 split at h
 · cases h;exact hk.2
 cases h
def Rq (l:CV):Option (List Int):=lrec (some []) (fun a _ ih=>match JU a with | some n=>(match ih with | some l=>some (n :: l) | none=>none) | none=>none) l
theorem Rr {nx:Nat} {ρ:Pl} {x:CV} {vs:List Value} (h:KL nx ρ x vs):∀ {xs:List Int},Rq x=some xs→vs=xs.map (Value.int .i64):=by
 refine kT (motive:=fun x vs=>∀ {xs:List Int},Rq x=some xs→vs=xs.map (Value.int .i64)) ?_ ?_ h
 · intro xs hx
   have hx':some []=some xs:=hx
   cases hx';rfl
 intro a b v vs hv _ ih xs hx
 have hx':(match JU a with | some n=>(match Rq b with | some l=>some (n :: l) | none=>none) | none=>none)=some xs:=hx
 split at hx'
 · rename_i n hn
   split at hx'
   · rename_i l hl
     cases hx'
     rw [bX,←ih hl,JV hn hv]
   cases hx'
 cases hx'
def QA (xs ys:List Int):Bool:=List.rec (fun ys=>List.rec true (fun _ _ _=>false) ys) (fun x _ ih ys=>List.rec false (fun y l _=>El x y && ih l) ys) xs ys
theorem FN:∀ xs ys:List Int,QA xs ys=decide (xs=ys):=by
 intro xs
 induction xs with
 | nil=>intro ys;cases ys with
   | nil=>rfl
   | cons y ys=>show false=_;simp
 | cons x xs ih=>intro ys;cases ys with
   | nil=>show false=_;simp
   | cons y ys =>
     show (El x y && QA xs ys)=_
     rw [uR,ih]
     by_cases h1:x=y <;> by_cases h2:xs=ys <;> simp [h1,h2]
theorem JW (b:ByteArray):∀ (k i:Nat) (r:List UInt8),b.size=i+k→ByteArray.toList.loop b i r=r.reverse++b.data.toList.drop i:=by
 intro k
 induction k with
 | zero =>
   intro i r h
   rw [ByteArray.toList.loop]
   rw [aK (by omega),eC (by have:b.data.toList.length=b.size:=rfl;omega),fN]
 | succ k ih =>
   intro i r h
   rw [ByteArray.toList.loop,aR (by omega),ih (i+1) _ rG]
   have hl:i<b.data.toList.length:=by show i<b.size;omega
   rw [gL hl,List.reverse_cons,dJ]
   have hs:i<b.size:=rG
   have:b.get! i=b.data.toList[i]:=by
    show b.data[i]! = _
    rw [qM b.data i hs]
    rfl
   rw [this];rfl
theorem Ml (l:List UInt8):(ByteArray.mk l.toArray).toList=l:=by
 show ByteArray.toList.loop _ 0 []=l
 rw [JW _ _ 0 [] (cO _).symm]
 simp
def WF:CV→Option Int
 | .int .u8 n=>some n
 | _=>none
def FO (l:CV):Option (List Int):=lrec (some []) (fun a _ ih=>match WF a with | some n=>(match ih with | some l=>some (n :: l) | none=>none) | none=>none) l
theorem Xa {nx:Nat} {ρ:Pl} {x:CV} {vs:List Value} (h:KL nx ρ x vs):∀ {xs:List Int},FO x=some xs→vs=xs.map (Value.int .u8):=by
 refine kT (motive:=fun x vs=>∀ {xs:List Int},FO x=some xs→vs=xs.map (Value.int .u8)) ?_ ?_ h
 · intro xs hx
   have hx':some []=some xs:=hx
   cases hx';rfl
 intro a b v vs hv _ ih xs hx
 have hx':(match WF a with | some n=>(match FO b with | some l=>some (n :: l) | none=>none) | none=>none)=some xs:=hx
 split at hx'
 · rename_i n hn
   split at hx'
   · rename_i l hl
     cases hx'
     rw [bX,←ih hl]
     unfold WF at hn
     split at hn
     · cases hn;rw [fY.1 hv.2]
     cases hn
   cases hx'
 cases hx'
theorem FP {bs:List UInt8} {xs:List Int} (h:(bs.map fun b=>Value.int .u8 (b.toNat:Int))=xs.map (Value.int .u8)):xs=bs.map fun b=>(b.toNat:Int):=by
 induction bs generalizing xs with
 | nil=>cases xs with
   | nil=>rfl
   | cons x xs=>cases h
 | cons b bs ih=>cases xs with
   | nil=>cases h
   | cons x xs =>
     rw [bX,bX] at h
     injection h with h1 h2
     injection h1 with _ h3
     rw [bX,ih h2,h3]
theorem MX {a b:List UInt8} (h:(a.map fun b=>(b.toNat:Int))=b.map fun b=>(b.toNat:Int)):a=b:=by
 induction a generalizing b with
 | nil=>cases b with
   | nil=>rfl
   | cons y b=>cases h
 | cons x a ih=>cases b with
   | nil=>cases h
   | cons y b =>
     rw [bX,bX] at h
     injection h with h1 h2
     rw [ih h2,UInt8.toNat_inj.1 (Int.ofNat.inj h1)]
section
variable {P:Program} {e:Env} {H:Hp} {G:Imm} {ty:TypeId}
theorem Uf {t t':TypeId} {x y:Operand} {m n:ByteArray} (hx:e.ev x=some (.string m)) (hy:e.ev y=some (.string n)):Qy P (.binOp .eql t x y t') ty e H G (.bool (m.toList == n.toList)):=fun a w _ _ _ _ hh=>by
 simp [execOp,hh.eval hx,hh.eval hy,binOp,eqGuard,Op.stringOp]
theorem Ug {t t':TypeId} {x y:Operand} {m n:ByteArray} (hx:e.ev x=some (.string m)) (hy:e.ev y=some (.string n)):Qy P (.binOp .neq t x y t') ty e H G (.bool (!(m.toList == n.toList))):=fun a w _ _ _ _ hh=>by
 simp [execOp,hh.eval hx,hh.eval hy,binOp,eqGuard,Op.stringOp]
end
def WG (P:Program) (t:Nat) (x y:CV):Option Bool:=match x,y with
 | .bool a,.bool b=>(match P.underlying t with | some .bool=>some (bif a then b else not b) | _=>none)
 | .agg a,.agg b=>(match SD P t with
   | some n=>(match Rq a with
     | some xs=>(match Rq b with
       | some ys=>bif Nat.beq xs.length n && Nat.beq ys.length n then some (QA xs ys) else none
       | none=>none)
     | none=>none)
   | none=>none)
 | .sl _ _ _ _ _,.nils=>(match Mj P t with | some _=>some false | none=>none)
 | .nils,.nils=>(match Mj P t with | some _=>some true | none=>none)
 | .ptr _ _,.nilp=>(match P.underlying t with | some (.pointer _)=>some false | _=>none)
 | .nilp,.nilp=>(match P.underlying t with | some (.pointer _)=>some true | _=>none)
 | .ptr p o,.ptr p' o'=>bif Nat.beq p p' && Nat.beq o o' then (match P.underlying t with | some (.pointer te)=>(match P.info? te with | some _=>some true | none=>none) | _=>none) else none
 | .fn _ _ _,.nilf=>bif Cb P t then some false else none
 | .str a,.str b=>(match FO a with
   | some xs=>(match FO b with | some ys=>some (QA xs ys) | none=>none)
   | none=>none)
 | _,_=>none
theorem Gv {P:Program} {t u:Nat} (h:P.underlying t=some (.pointer u)):P.underlying t=some (.pointer (P.pointee t)):=by
 have:P.pointee t=u:=by unfold Program.pointee;rw [h]
 rw [this];exact h
section
variable {P:Program} {nx n:Nat} {ρ:Pl} {E:Tr CV} {a:Act} {e:Env} {H:Hp} {G:Imm}
theorem Lc {P:Program} {e:Env} {H:Hp} {G:Imm} {ty t t' te:TypeId} {x y:Operand} {ad:Addr} {j:TypeInfo} (ht:P.underlying t=some (.pointer te)) (hj:P.info? te=some j) (hx:e.ev x=some (.pointer (some ad))) (hy:e.ev y=some (.pointer (some ad))):Qy P (.binOp .eql t x y t') ty e H G (.bool true):=fun w0 w _ _ _ _ hh=>by
 have h:∀ d:Nat,(Op.equalIn (d+1) t (.pointer (some ad)) (.pointer (some ad))).run P w=.ok true w:=fun d=>by
  simp [Op.equalIn,aS ht,sizeOf,typeInfo,hj,run_sameAddr_same]
 have h2:=h 9999
 simp [execOp,hh.eval hx,hh.eval hy,binOp,eqGuard,Op.equal,Op.maxDepth,h2]
theorem Ld {P:Program} {e:Env} {H:Hp} {G:Imm} {ty t t' te:TypeId} {x y:Operand} {ad:Addr} {j:TypeInfo} (ht:P.underlying t=some (.pointer te)) (hj:P.info? te=some j) (hx:e.ev x=some (.pointer (some ad))) (hy:e.ev y=some (.pointer (some ad))):Qy P (.binOp .neq t x y t') ty e H G (.bool false):=fun w0 w _ _ _ _ hh=>by
 have h:∀ d:Nat,(Op.equalIn (d+1) t (.pointer (some ad)) (.pointer (some ad))).run P w=.ok true w:=fun d=>by
  simp [Op.equalIn,aS ht,sizeOf,typeInfo,hj,run_sameAddr_same]
 have h2:=h 9999
 simp [execOp,hh.eval hx,hh.eval hy,binOp,eqGuard,Op.equal,Op.maxDepth,h2]
theorem MY {t t':Nat} {x y:Operand} {cx cy:CV} {vx vy:Value} {b:Bool} (h:WG P t cx cy=some b) (kx:Kn nx ρ cx vx) (ky:Kn nx ρ cy vy) (hx:e.ev x=some vx) (hy:e.ev y=some vy) :
 (∀ ty,Qy P (.binOp .eql t x y t') ty e H G (.bool b))∧(∀ ty,Qy P (.binOp .neq t x y t') ty e H G (.bool (not b))):=by
 unfold WG at h
 split at h
 · rename_i p q
   split at h
   · rename_i hu
     cases h
     rw [pX.1 kx.2] at hx
     rw [pX.1 ky.2] at hy
     have e1:(bif p then q else not q)=decide (p=q):=by cases p <;> cases q <;> rfl
     refine ⟨fun ty=>by rw [e1];exact pV hu hx hy,fun ty=>?_⟩
     rw [e1,Da]
     exact Bv hu hx hy
   cases h
 · rename_i l m
   split at h
   · rename_i N hN
     split at h
     · rename_i xs hxs
       split at h
       · rename_i ys hys
         rcases rK h with ⟨h1,h2⟩ | ⟨_,h2⟩
         · cases h2
           rw [aB] at h1
           obtain ⟨vs,k1,e1⟩:=rF.1 kx.2
           obtain ⟨us,k2,e2⟩:=rF.1 ky.2
           have kl1:KL nx ρ l vs:=⟨kx.1,k1⟩
           have kl2:KL nx ρ m us:=⟨ky.1,k2⟩
           have g1:=Rr kl1 hxs
           have g2:=Rr kl2 hys
           rw [e1,g1] at hx
           rw [e2,g2] at hy
           rw [FN]
           have hT:=FM hN
           refine ⟨fun ty=>Ni xs ys hT hx hy (aD h1.1) (aD h1.2),fun ty=>?_⟩
           rw [Da]
           exact Nj xs ys hT hx hy (aD h1.1) (aD h1.2)
         cases h2
       cases h
     cases h
   cases h
 · rename_i t1 o1 n1 s1 c1
   split at h
   · rename_i q hT
     obtain ⟨E',sz⟩:=q
     cases h
     have e2:=mL.1 ky.2
     subst e2
     have hs:∃ c',vx=.slice (some ⟨(ρ t1).1,o1,none⟩) n1 c':=by
      cases c1 with
      | some c=>exact ⟨c,(jG.1 kx.2).1⟩
      | none=>obtain ⟨c,h1,_⟩:=mK.1 kx.2;exact ⟨c,h1⟩
     obtain ⟨c',rfl⟩:=hs
     refine ⟨fun ty=>?_,fun ty=>?_⟩
     · have:=gH (t':=t') (ty:=ty) (H:=H) (G:=G) (uG hT) hx hy;simpa using this
     have:=zF (t':=t') (ty:=ty) (H:=H) (G:=G) (uG hT) hx hy;simpa using this
   cases h
 · split at h
   · rename_i q hT
     obtain ⟨E',sz⟩:=q
     cases h
     have e1:=mL.1 kx.2
     have e2:=mL.1 ky.2
     subst e1 e2
     refine ⟨fun ty=>?_,fun ty=>?_⟩
     · have:=gH (t':=t') (ty:=ty) (H:=H) (G:=G) (uG hT) hx hy;simpa using this
     have:=zF (t':=t') (ty:=ty) (H:=H) (G:=G) (uG hT) hx hy;simpa using this
   cases h
 · split at h
   · rename_i u hu
     cases h
     have e1:=lK.1 kx.2
     have e2:=DV.nilp.1 ky.2
     subst e1 e2
     exact ⟨fun ty=>Qy.eqlPtrNil (Gv hu) hx hy,fun ty=>Db (Gv hu) hx hy⟩
   cases h
 · split at h
   · rename_i u hu
     cases h
     have e1:=DV.nilp.1 kx.2
     have e2:=DV.nilp.1 ky.2
     subst e1 e2
     exact ⟨fun ty=>Qy.eqlPtrNil (Gv hu) hx hy,fun ty=>Db (Gv hu) hx hy⟩
   cases h
 · rcases rK h with ⟨h1,h2⟩ | ⟨_,h2⟩
   · rw [aB] at h1
     have q1:=aD h1.1
     have q2:=aD h1.2
     subst q1 q2
     split at h2
     · rename_i te hu
       split at h2
       · rename_i j hj
         cases h2
         have e1:=lK.1 kx.2
         have e2:=lK.1 ky.2
         subst e1 e2
         exact ⟨fun ty=>Lc hu hj hx hy,fun ty=>Ld hu hj hx hy⟩
       cases h2
     cases h2
   cases h2
 · rcases rK h with ⟨h1,h2⟩ | ⟨_,h2⟩
   · cases h2
     obtain ⟨xs,ys,_,_,e1⟩:=DV.fn.1 kx.2
     have e2:vy=.nilFunc:=ky.2
     subst e1 e2
     exact ⟨fun ty=>Kr h1 hx hy,fun ty=>Ks h1 hx hy⟩
   cases h2
 · rename_i p q
   split at h
   · rename_i xs hxs
     split at h
     · rename_i ys hys
       cases h
       obtain ⟨vs,bs,k1,e1,e2⟩:=kx.2
       obtain ⟨us,cs,k2,e3,e4⟩:=ky.2
       subst e2 e4
       have g1:=Xa (nx:=nx) (ρ:=ρ) (x:=p) (vs:=vs) ⟨kx.1,k1⟩ hxs
       have g2:=Xa (nx:=nx) (ρ:=ρ) (x:=q) (vs:=us) ⟨ky.1,k2⟩ hys
       rw [e1] at g1
       rw [e3] at g2
       have q1:=FP g1
       have q2:=FP g2
       have e5:((ByteArray.mk bs.toArray).toList == (ByteArray.mk cs.toArray).toList)=QA xs ys:=by
        rw [Ml,Ml,FN,q1,q2]
        by_cases hbc:bs=cs
        · subst hbc;simp
        have:¬((bs.map fun b=>(b.toNat:Int))=cs.map fun b=>(b.toNat:Int)):=fun h=>hbc (MX h)
        rw [bF this]
        simp [hbc]
       refine ⟨fun ty=>?_,fun ty=>?_⟩
       · rw [←e5];exact Uf hx hy
       rw [←e5];exact Ug hx hy
     cases h
   cases h
 cases h
end
section My
variable {κ:Type} [DecidableEq κ] [OneVal κ]
def Le (eq:κ→κ→Bool) (k:κ) (l:List (κ×Int)):Option Int:=List.rec none (fun x _ ih=>bif eq x.1 k then some x.2 else ih) l
def FQ (eq:κ→κ→Bool) (k:κ) (v:Int) (l:List (κ×Int)):List (κ×Int):=List.rec [(k,v)] (fun x xs ih=>bif eq x.1 k then (x.1,v) :: xs else x :: ih) l
theorem Gw {eq:κ→κ→Bool} (he:∀ a b,eq a b=decide (a=b)) (k:κ) (l:List (κ×Int)):Le eq k l=vB l k:=by
 induction l with
 | nil=>rfl
 | cons x l ih =>
   show (bif eq x.1 k then some x.2 else Le eq k l)=_
   rw [he,ih]
   by_cases h:x.1=k
   · simp [vB,h]
   simp [vB,h]
theorem JX {eq:κ→κ→Bool} (he:∀ a b,eq a b=decide (a=b)) (k:κ) (v:Int) (l:List (κ×Int)):FQ eq k v l=Kk l k v:=by
 induction l with
 | nil=>rfl
 | cons x l ih =>
   obtain ⟨k',u⟩:=x
   show (bif eq k' k then (k',v) :: l else (k',u) :: FQ eq k v l)=_
   rw [he,ih]
   by_cases h:k'=k
   · simp [Kk,h]
   simp [Kk,h]
end My
def NY (a b:K4):Bool:=El a.c b.c && (El a.b b.b && (El a.a b.a && El a.op b.op))
theorem Ok (a b:K4):NY a b=decide (a=b):=by
 cases a;cases b
 simp only [NY,uR]
 rw [Bool.eq_iff_iff]
 simp only [aB,aQ,K4.mk.injEq]
 constructor
 · rintro ⟨h1,h2,h3,h4⟩;exact ⟨h4,h3,h2,h1⟩
 rintro ⟨h1,h2,h3,h4⟩;exact ⟨h4,h3,h2,h1⟩
def AD (x:CV):Option Int:=match x with
 | .int .i64 n=>some n
 | _=>none
def AE (x:CV):Option K4:=match x with
 | .agg (.cons (.int .i64 a) (.cons (.int .i64 b) (.cons (.int .i64 c) (.cons (.int .i64 d) .nil))))=>some ⟨a,b,c,d⟩
 | _=>none
def z0 (P:Program) (et:Nat):Bool:=match P.info? et with
 | some i=>match i.zero with | some (.int .i64 n)=>El n 0 | _=>false
 | none=>false
theorem LB {P:Program} {et:Nat} (h:z0 P et=true) (w:World):(zeroValue et).run P w=.ok (.int .i64 0) w:=by
 unfold z0 at h
 split at h
 · rename_i i hi
   split at h
   · rename_i n hz
     rw [uR,aQ] at h
     subst h
     simp [zeroValue,typeInfo,hi,hz]
   cases h
 cases h
def MZ (P:Program) (T:Nat):Bool:=match P.underlying T with
 | some (.map kt et)=>match P.underlying kt with | some (.int .i64)=>z0 P et | _=>false
 | _=>false
def NA (P:Program) (T:Nat):Bool:=match P.underlying T with
 | some (.map kt et)=>match SD P kt with | some n=>Nat.beq n 4 && z0 P et | none=>false
 | _=>false
theorem Ol {P:Program} {T:Nat} (h:MZ P T=true):∃ kt,MapT P T kt Int:=by
 unfold MZ at h
 split at h
 · rename_i kt et hT
   split at h
   · rename_i hk
     exact ⟨kt,⟨et,hT,LB h⟩,KeyT.int hk⟩
   cases h
 cases h
theorem Om {P:Program} {T:Nat} (h:NA P T=true):∃ kt,MapT P T kt K4:=by
 unfold NA at h
 split at h
 · rename_i kt et hT
   split at h
   · rename_i n hk
     rw [aB] at h
     have:=aD h.1
     subst this
     exact ⟨kt,⟨et,hT,LB h.2⟩,KeyT.k4 (FM hk)⟩
   cases h
 cases h
def NZ (c:Bool) (r:Option Int):CV:=bif c then .tup (.cons (.int .i64 (match r with | some v=>v | none=>0)) (.cons (.bool (match r with | some _=>true | none=>false)) .nil)) else .int .i64 (match r with | some v=>v | none=>0)
section
variable {P:Program} {nx n:Nat} {ρ:Pl} {w:World}
theorem Gz {x:CV} {n:Int} {v:Value} (h:AD x=some n) (hk:Kn nx ρ x v):v=OneVal.val n:=by
 unfold AD at h
 split at h
 · cases h;exact fY.1 hk.2
 cases h
theorem Ha {x:CV} {n:K4} {v:Value} (h:AE x=some n) (hk:Kn nx ρ x v):v=OneVal.val n:=by
 unfold AE at h
 split at h
 · cases h
   obtain ⟨vs,h1,rfl⟩:=rF.1 hk.2
   obtain ⟨v1,r1,rfl,g1,h1⟩:=kC.1 h1
   obtain ⟨v2,r2,rfl,g2,h1⟩:=kC.1 h1
   obtain ⟨v3,r3,rfl,g3,h1⟩:=kC.1 h1
   obtain ⟨v4,r4,rfl,g4,h1⟩:=kC.1 h1
   rw [DL.nil.1 h1,fY.1 g1,fY.1 g2,fY.1 g3,fY.1 g4]
   rfl
 cases h
theorem Jd {t:Nat} {v:Value} (hk:Kn nx ρ (.mp t) v):v=.map (some (ρ t).1):=DV.mp.1 hk.2
theorem FR {c:Bool} {r:Option Int}:Kn nx ρ (NZ c r) (if c then .tuple #[.int .i64 (r.getD 0),.bool r.isSome] else .int .i64 (r.getD 0)):=by
 cases c with
 | false=>cases r <;> exact ⟨trivial,rfl⟩
 | true =>
   cases r with
   | none=>exact ⟨⟨trivial,trivial,trivial⟩,pE.2 ⟨_,kC.2 ⟨_,_,rfl,rfl,kC.2 ⟨_,_,rfl,rfl,rfl⟩⟩,rfl⟩⟩
   | some v=>exact ⟨⟨trivial,trivial,trivial⟩,pE.2 ⟨_,kC.2 ⟨_,_,rfl,rfl,kC.2 ⟨_,_,rfl,rfl,rfl⟩⟩,rfl⟩⟩
variable {κ:Type} [DecidableEq κ] [OneVal κ] {T kt:TypeId}
theorem Bm {r:Nat} {xs:List (κ×Int)} {k:κ} (hT:MapT P T kt κ) (hb:w.heap[r]?=some (sP xs)) (c:Bool):(Instr.lookup T (.map (some r)) (OneVal.val k) c).run P w =
 .ok (if c then .tuple #[.int .i64 ((vB xs k).getD 0),.bool (vB xs k).isSome] else .int .i64 ((vB xs k).getD 0)) w:=by
 obtain ⟨⟨et,hu,hz⟩,hk⟩:=hT
 simp only [Instr.lookup,bE,aS hu,aO,mC (P:=P) hb,bJ,hk.check,hk.look]
 cases hm:vB xs k with
 | none=>rw [(Ds xs k).1 hm];cases c <;> simp [hz]
 | some v=>obtain ⟨i,h1,_⟩:=Lu xs k hm;rw [h1];cases c <;> simp
end
def NB (E:Tr CV):Option Operand→Option Int
 | none=>some 0
 | some y=>match sU E y with | some (.int _ m)=>some m | _=>none
def hiC (E:Tr CV) (n:Nat):Option Operand→Option Int
 | none=>some n
 | some y=>match sU E y with | some (.int _ m)=>some m | _=>none
def NC (t o n sz:Nat) (c:Option Nat) (l h:Int):Option CV:=
 bif uO 0 l && uO l h then
  (match c with
  | some c=>bif uO h c then
   (bif Nat.beq c l.toNat then some (.sl t o (Nat.sub h.toNat l.toNat) sz (some 0)) else some (.sl t (Nat.add o (Nat.mul l.toNat sz)) (Nat.sub h.toNat l.toNat) sz (some (Nat.sub c l.toNat)))) else none
  | none=>bif uO h n then
   (bif Nat.beq l.toNat 0 then some (.sl t o h.toNat sz none) else
    bif uO n l then some .sle else some (.sl t (Nat.add o (Nat.mul l.toNat sz)) (Nat.sub h.toNat l.toNat) sz none)) else none)
 else none
def LC (m:Int) (n:Nat):Option Nat→Bool
 | some c=>uO m c
 | none=>uO m n
def FS (E:Tr CV):Op→Option Nat
 | .load _ x=>match sU E x with | some (.ptr t _)=>some t | _=>none
 | .lookup _ x _ _=>match sU E x with | some (.mp t)=>some t | _=>none
 | _=>none
def SE (P:Program) (E:Tr CV) (h:Tr CB) (c:Operand) (x:Operand) (y:Operand):Option CV:=match sU E c with | some (.bool b)=>sU E (bif b then x else y) | _=>none
def qv3 (P:Program) (E:Tr CV) (h:Tr CB) (x:Operand):Option CV:=match sU E x with | some (.bool b)=>some (.bool (not b)) | _=>none
def qv4 (P:Program) (E:Tr CV) (h:Tr CB) (x:Operand):Option CV:=match sU E x with | some (.int k m)=>some (.int k (wr k (0 - m))) | _=>none
def SF (P:Program) (E:Tr CV) (h:Tr CB) (o:BinOp) (t:TypeId) (x:Operand) (y:Operand):Option CV:=match sU E x with
 | some (.int k m)=>match sU E y with
   | some (.int k' n)=>match sh o k m n with
     | some c=>some c
     | none=>bif AX k k' then bo o k m n else none
   | _=>none
 | some a=>match sU E y with
   | some b=>match WG P t a b with
     | some r=>(match o with | .eql=>some (.bool r) | .neq=>some (.bool (not r)) | _=>none)
     | none=>none
   | none=>none
 | none=>none
def SG (P:Program) (E:Tr CV) (h:Tr CB) (s:TypeId) (t:TypeId) (x:Operand):Option CV:=match P.underlying t with
 | some (.int k')=>match P.underlying s with
   | some _=>match sU E x with | some (.int _ m)=>some (.int k' (wr k' m)) | _=>none
   | none=>none
 | _=>none
def qv7 (P:Program) (E:Tr CV) (h:Tr CB) (x:Operand) (i:Nat):Option CV:=match sU E x with | some (.tup l)=>Ek l i | _=>none
def SH (P:Program) (E:Tr CV) (h:Tr CB) (x:Operand):Option CV:=match sU E x with
 | some (.ptr t o)=>some (.ptr t o)
 | some (.mp t)=>some (.mp t)
 | some (.fn f a b)=>some (.fn f a b)
 | some (.yl t)=>some (.yl t)
 | _=>none
def SI (P:Program) (E:Tr CV) (h:Tr CB) (s:TypeId) (x:Operand) (f:Nat):Option CV:=match sU E x with
 | some (.ptr t o)=>match SB P s f with | some k=>some (.ptr t (Nat.add o k)) | none=>none
 | _=>none
def QB (P:Program) (E:Tr CV) (h:Tr CB) (T:TypeId) (x:Operand) (i:Nat):Option CV:=match sU E x with
 | some (.agg l)=>match P.underlying T with
   | some (.struct ⟨fs⟩)=>match Br fs i with
     | some fd=>bif tZ P fd.type then Ek l fd.offset else (match NX P fd.type with | some k=>some (.agg (zS k (zR fd.offset l))) | none=>none)
     | none=>none
   | _=>none
 | _=>none
def JY (P:Program) (E:Tr CV) (h:Tr CB) (T:TypeId) (x:Operand):Option CV:=match sU E x with
 | some (.ptr t o)=>match h.get t with
   | some (.cells l _ _ _)=>bif tZ P T then Zy l o else
     (match NX P T with
     | some k=>bif Nat.beq (sG (sO l o k)) k then some (.agg (sO l o k)) else none
     | none=>none)
   | _=>none
 | _=>none
def QC (P:Program) (E:Tr CV) (h:Tr CB) (f:Nat) (xs:List Operand) (ys:List Operand):Option CV:=match AA E xs with
 | some a=>match AA E ys with | some b=>some (.fn f a b) | none=>none
 | none=>none
def JZ (P:Program) (E:Tr CV) (h:Tr CB) (T:TypeId) (x:Operand) (i:Operand):Option CV:=match sU E i with
 | some (.int _ m)=>match sU E x with
   | some (.sl t o n sz _)=>match Mj P T with
     | some (_,sz')=>bif Nat.beq sz sz' && (uO 0 m && not (uO n m)) then some (.ptr t (Nat.add o (Nat.mul m.toNat sz'))) else none
     | none=>none
   | some (.ptr t o)=>match PZ P T with
     | some (n,_,sz)=>bif uO 0 m && not (uO n m) then some (.ptr t (Nat.add o (Nat.mul m.toNat sz))) else none
     | none=>none
   | _=>none
 | _=>none
def QD (P:Program) (E:Tr CV) (h:Tr CB) (T:TypeId) (x:Operand) (i:Operand):Option CV:=match sU E i with
 | some (.int _ m)=>match sU E x with
   | some (.agg l)=>match PZ P T with
     | some (n,E',sz)=>bif Nat.beq sz 1 && (tZ P E' && (uO 0 m && not (uO n m))) then Ek l m.toNat else
      bif uS P E' sz && (Nat.ble 1 sz && (uO 0 m && not (uO n m))) then some (.agg (zS sz (zR (Nat.mul m.toNat sz) l))) else none
     | none=>none
   | _=>none
 | _=>none
def QE (P:Program) (E:Tr CV) (h:Tr CB) (T:TypeId) (x:Operand) (lo:Option Operand) (hi:Option Operand):Option CV:=match sU E x with
 | some (.sl t o n sz c)=>match Mj P T with
   | some (_,sz')=>bif Nat.beq sz sz' then (match NB E lo with
     | some l=>(match hiC E n hi with | some h=>NC t o n sz c l h | none=>none)
     | none=>none) else none
   | none=>none
 | some .nils=>match Mj P T with
   | some _=>(match NB E lo with
     | some l=>(match hiC E 0 hi with | some h=>bif El l 0 && El h 0 then some .nils else none | none=>none)
     | none=>none)
   | none=>none
 | _=>none
def QF (P:Program) (E:Tr CV) (h:Tr CB) (T:TypeId) (x:Operand) (lo:Option Operand) (y:Operand) (z:Operand):Option CV:=match sU E x with
 | some (.sl t o n sz c)=>match Mj P T with
   | some (_,sz')=>bif Nat.beq sz sz' then (match NB E lo with
     | some l=>(match hiC E n (some y) with
       | some h=>(match sU E z with
         | some (.int _ m)=>bif uO 0 l && (uO l h && (uO h m && LC m n c)) then
          (bif Nat.beq m.toNat l.toNat then some (.sl t o (Nat.sub h.toNat l.toNat) sz (some 0)) else some (.sl t (Nat.add o (Nat.mul l.toNat sz)) (Nat.sub h.toNat l.toNat) sz (some (Nat.sub m.toNat l.toNat)))) else none
         | _=>none)
       | none=>none)
     | none=>none) else none
   | none=>none
 | some .nils=>match Mj P T with
   | some _=>(match NB E lo with
     | some l=>(match hiC E 0 (some y) with
       | some h=>(match sU E z with
         | some (.int _ m)=>bif El l 0 && (El h 0 && El m 0) then some .nils else none
         | _=>none)
       | none=>none)
     | none=>none)
   | none=>none
 | _=>none
def QG (P:Program) (E:Tr CV) (h:Tr CB) (t:TypeId) (parts:List (Nat×Operand)):Option CV:=match P.underlying t with
 | some (.struct ⟨fs⟩)=>match WE P fs with
   | some pl=>match LA P t with
     | some z=>match Dc E pl (sG z) parts z with | some l=>some (.agg l) | none=>none
     | none=>none
   | none=>none
 | some (.array n E')=>match AY P E' with
   | some sz=>match LA P t with
     | some z=>match Dc E (tR n sz) (sG z) parts z with | some l=>some (.agg l) | none=>none
     | none=>none
   | none=>none
 | _=>none
def AF (P:Program) (E:Tr CV) (h:Tr CB) (x:Operand) (T:TypeId):Option CV:=match sU E x with
 | some (.sl _ _ n _ _)=>match Mj P T with | some _=>some (.int .i64 n) | none=>none
 | some .nils=>match Mj P T with | some _=>some (.int .i64 0) | none=>none
 | some .sle=>match Mj P T with | some _=>some (.int .i64 0) | none=>none
 | some (.str s)=>match P.underlying T with | some .string=>some (.int .i64 (sG s)) | _=>none
 | _=>none
def QH (P:Program) (E:Tr CV) (h:Tr CB) (x:Operand) (T:TypeId):Option CV:=match sU E x with
 | some (.sl _ _ _ _ (some c))=>match Mj P T with | some _=>some (.int .i64 c) | none=>none
 | some .nils=>match Mj P T with | some _=>some (.int .i64 0) | none=>none
 | _=>none
def QI (P:Program) (E:Tr CV) (h:Tr CB) (x:Operand) (y:Operand):Option CV:=match sU E x with
 | some (.int k m)=>match sU E y with | some (.int k' n)=>bif AX k k' then some (.int k (bif uO m n then m else n)) else none | _=>none
 | _=>none
def QJ (P:Program) (E:Tr CV) (h:Tr CB) (x:Operand) (y:Operand):Option CV:=match sU E x with
 | some (.int k m)=>match sU E y with | some (.int k' n)=>bif AX k k' then some (.int k (bif uO n m then m else n)) else none | _=>none
 | _=>none
def SJ (P:Program) (E:Tr CV) (h:Tr CB) (T:TypeId) (x i:Operand) (c:Bool):Option CV:=match sU E x with
 | some (.mp t)=>match sU E i with
   | some k=>match h.get t with
     | some (.mapI l _)=>(match AD k with | some n=>bif MZ P T then some (NZ c (Le El n l)) else none | none=>none)
     | some (.mapK l _)=>(match AE k with | some n=>bif NA P T then some (NZ c (Le NY n l)) else none | none=>none)
     | _=>none
   | none=>none
 | _=>none
def qv (P:Program) (E:Tr CV) (h:Tr CB):Op→Option CV
 | .move x=>sU E x
 | .assign x=>sU E x
 | .pick c x y=>SE P E h c x y
 | .unOp .not _ x=>qv3 P E h x
 | .unOp .neg _ x=>qv4 P E h x
 | .binOp o t x y _=>SF P E h o t x y
 | .convert s t x=>SG P E h s t x
 | .extract x i=>qv7 P E h x i
 | .nilCheck x=>SH P E h x
 | .fieldAddr s x f=>SI P E h s x f
 | .field T x i=>QB P E h T x i
 | .load T x=>JY P E h T x
 | .makeFunc (.func f) ⟨xs⟩ ⟨ys⟩=>QC P E h f xs ys
 | .indexAddr T x i=>JZ P E h T x i
 | .index T x i=>QD P E h T x i
 | .slice T x lo hi none=>QE P E h T x lo hi
 | .slice T x lo (some y) (some z)=>QF P E h T x lo y z
 | .build t ⟨parts⟩=>QG P E h t parts
 | .call ⟨.builtin .len,⟨[x]⟩,⟨[T]⟩⟩=>AF P E h x T
 | .call ⟨.builtin .cap,⟨[x]⟩,⟨[T]⟩⟩=>QH P E h x T
 | .call ⟨.builtin .min,⟨[x,y]⟩,_⟩=>QI P E h x y
 | .call ⟨.builtin .max,⟨[x,y]⟩,_⟩=>QJ P E h x y
 | .lookup T x i c=>SJ P E h T x i c
 | _=>none
def Yd (P:Program) (op:Op) (nx:Nat) (ρ:Pl) (E:Tr CV) (ob:Nat→Obj) (a:Act) (c:CV):Prop:=
 ∃ v,Kn nx ρ c v∧∀ (w:World),(∀ t,FS E op=some t→w.heap[(ρ t).1]?=some (ob t))→∀ (dst:Option Tmp) (ty:TypeId) (pos:String) (after:Array Edge) (g:Option (Nat×Bool)),(execOp a.eval ⟨dst,op,ty,pos,after,g⟩).run P w=.ok (.value v) w
section
variable {P:Program} {op:Op} {nx n:Nat} {ρ:Pl} {E:Tr CV} {h:Tr CB} {ob:Nat→Obj} {a:Act} {c:CV}
theorem Yd.pure {v:Value} (hk:Kn nx ρ c v) (hq:∀ ty,Qy P op ty (eA a) [] (fun _=>none) v):Yd P op nx ρ E ob a c:=
 ⟨v,hk,fun w _ dst ty pos after g=>hq ty a w dst pos after g (lookN a w)⟩
abbrev eK:=@Yd.pure
theorem Yd.read {v:Value} {t:Nat} (ht:FS E op=some t) (hk:Kn nx ρ c v) (hq:∀ ty,Qy P op ty (eA a) [(0,some (ρ t).1,ob t)] (fun _=>none) v):Yd P op nx ρ E ob a c:=
 ⟨v,hk,fun w hw dst ty pos after g=>hq ty a w dst pos after g (PT a (hw t ht))⟩
theorem vW {k:IntKind} {m:Int}:Kn nx ρ (.int k m) (.int k m):=⟨trivial,rfl⟩
theorem Hb {b:Bool}:Kn nx ρ (.bool b) (.bool b):=⟨trivial,rfl⟩
theorem KA {t o m sz:Nat} {c:Option Nat} {l hi:Int} {r:CV} {v:Value} (hv:Kn nx ρ (.sl t o m sz c) v) (hr:NC t o m sz c l hi=some r) :
 0≤l∧l≤hi∧∃ c',v=.slice (some ⟨(ρ t).1,o,none⟩) m c'∧hi.toNat≤c'∧Kn nx ρ r (.slice (if c'=l.toNat then some ⟨(ρ t).1,o,none⟩ else (some (⟨(ρ t).1,o,none⟩:Addr)).map (·.add (l.toNat*sz))) (hi.toNat - l.toNat) (c' - l.toNat)):=by
 unfold NC at hr
 cases hb:uO 0 l && uO l hi with
 | false=>rw [hb] at hr;cases hr
 | true =>
   rw [hb] at hr
   simp only [fT] at hr
   simp only [aB,sZ,aQ] at hb
   obtain ⟨h1,h2⟩:=hb
   refine ⟨h1,h2,?_⟩
   have hlh:l.toNat≤hi.toNat:=rG
   cases c with
   | some c =>
     obtain ⟨e1,e2,e3,e4⟩:=jG.1 hv.2
     simp only at hr
     cases hb2:uO hi c with
     | false=>rw [hb2] at hr;cases hr
     | true =>
       rw [hb2] at hr
       simp only [fT] at hr
       simp only [sZ,aQ] at hb2
       have hhc:hi.toNat≤c:=rG
       refine ⟨c,e1,hhc,?_⟩
       cases hb3:Nat.beq c l.toNat with
       | true =>
         rw [hb3] at hr
         cases hr
         have:=aD hb3
         rw [aR this]
         refine ⟨hv.1,jG.2 ⟨?_,by omega,?_,by simp [maxLen]⟩⟩
         · rw [show c - l.toNat=0 by omega];rfl
         · show hi.toNat - l.toNat≤0;omega
       | false =>
         rw [hb3] at hr
         cases hr
         have hne:c≠l.toNat:=fun e=>by rw [e] at hb3;simp at hb3
         rw [aK hne]
         refine ⟨hv.1,jG.2 ⟨?_,?_,?_,?_⟩⟩
         · show Value.slice (some (Addr.add ⟨(ρ t).1,o,none⟩ (l.toNat*sz))) _ _=_;rw [add_lit];rfl
         · show o+l.toNat*sz+(c - l.toNat)*sz≤_
           have:l.toNat*sz+(c - l.toNat)*sz=c*sz:=by rw [←eL];congr 1;omega
           omega
         · show hi.toNat - l.toNat≤c - l.toNat;omega
         · show c - l.toNat≤_;omega
   | none =>
     obtain ⟨c,e1,e2,e3,e4⟩:=mK.1 hv.2
     simp only at hr
     cases hb2:uO hi m with
     | false=>rw [hb2] at hr;cases hr
     | true =>
       rw [hb2] at hr
       simp only [fT] at hr
       simp only [sZ,aQ] at hb2
       refine ⟨c,e1,by omega,?_⟩
       cases hb3:Nat.beq l.toNat 0 with
       | true =>
         rw [hb3] at hr
         cases hr
         have h0:=aD hb3
         rw [h0]
         refine ⟨hv.1,mK.2 ⟨c,?_,e2,by omega,e4⟩⟩
         show Value.slice (if c=0 then _ else some (Addr.add ⟨(ρ t).1,o,none⟩ (0*sz))) _ _=_
         rw [nJ,add_lit]
         simp
       | false =>
         rw [hb3] at hr
         simp only [lG] at hr
         cases hb4:uO m l with
         | true =>
           rw [hb4] at hr
           cases hr
           simp only [sZ,aQ] at hb4
           exact ⟨trivial,_,_,by rw [show hi.toNat - l.toNat=0 by omega]⟩
         | false =>
           rw [hb4] at hr
           cases hr
           simp only [sZ,dH] at hb4
           rw [aK (by omega)]
           refine ⟨hv.1,mK.2 ⟨c - l.toNat,?_,?_,?_,?_⟩⟩
           · show Value.slice (some (Addr.add ⟨(ρ t).1,o,none⟩ (l.toNat*sz))) _ _=_;rw [add_lit];rfl
           · show o+l.toNat*sz+(c - l.toNat)*sz=_
             have:l.toNat*sz+(c - l.toNat)*sz=c*sz:=by rw [←eL];congr 1;omega
             omega
           · show hi.toNat - l.toNat≤_;omega
           omega
theorem Je (hs:Slots ρ E nx n a) {lo:Option Operand} {l:Int} (h:NB E lo=some l) (h0:0≤l):MU (eA a) 0 lo l.toNat:=by
 cases lo with
 | none=>cases h;rfl
 | some y =>
   unfold NB at h
   simp only at h
   split at h
   · rename_i k m hy
     cases h
     obtain ⟨v,e1,k1⟩:=rM hs hy
     rw [fY.1 k1.2] at e1
     exact ⟨k,by rw [cL h0];exact e1⟩
   cases h
theorem Jf (hs:Slots ρ E nx n a) {N:Nat} {lo:Option Operand} {l:Int} (h:hiC E N lo=some l) (h0:0≤l):MU (eA a) N lo l.toNat:=by
 cases lo with
 | none=>cases h;rfl
 | some y =>
   unfold hiC at h
   simp only at h
   split at h
   · rename_i k m hy
     cases h
     obtain ⟨v,e1,k1⟩:=rM hs hy
     rw [fY.1 k1.2] at e1
     exact ⟨k,by rw [cL h0];exact e1⟩
   cases h
end
end Go.Sl.Ev
end
