/- uN of the proof (part 7): what the rows' text needs of the texts that lead to it. -/
import Derived.Test.YtfdcckcadfhpeaaGreatDoorMRf
set_option linter.unusedVariables false
set_option linter.unusedSimpArgs false
set_option linter.unusedSectionVars false
set_option maxHeartbeats 4000000
set_option maxRecDepth 100000
namespace Go.Proofs.YtfdcckcadfhpeaaGreatDoor
open Go Go.Sl
theorem XF {k1 k2:Int} {l:List R2} {x y z:PV} (h:¬sU k1 k2 l=0):tP k1 k2 l x y z=(0,sU k1 k2 l):=by unfold tP;rw [aF h]
theorem SZ {k1 k2:Int} {l:List R2} {x y z:PV} (h:sU k1 k2 l=0) (h1:¬sH x=true):tP k1 k2 l x y z=(1,80):=by
 unfold tP;rw [aD (fun h0=>h0 h),aF h1]
theorem TA {k1 k2:Int} {l:List R2} {x y z:PV} (h:sU k1 k2 l=0) (h1:sH x=true) (h2:¬uE x k1 l):tP k1 k2 l x y z=(1,180):=by
 unfold tP;rw [aD (fun h0=>h0 h),aD (fun h0=>h0 h1),aF h2]
theorem TB {k1 k2:Int} {l:List R2} {x y z:PV} (h:sU k1 k2 l=0) (h1:sH x=true) (h2:uE x k1 l) (h3:¬sH y=true):tP k1 k2 l x y z=(2,80):=by
 unfold tP;rw [aD (fun h0=>h0 h),aD (fun h0=>h0 h1),aD (fun h0=>h0 h2),aF h3]
theorem TC {k1 k2:Int} {l:List R2} {x y z:PV} (h:sU k1 k2 l=0) (h1:sH x=true) (h2:uE x k1 l) (h3:sH y=true) (h4:¬uE y k2 l):tP k1 k2 l x y z=(2,180):=by
 unfold tP;rw [aD (fun h0=>h0 h),aD (fun h0=>h0 h1),aD (fun h0=>h0 h2),aD (fun h0=>h0 h3),aF h4]
theorem TD {k1 k2:Int} {l:List R2} {x y z:PV} (h:sU k1 k2 l=0) (h1:sH x=true) (h2:uE x k1 l) (h3:sH y=true) (h4:uE y k2 l) (h5:¬sH z=true):tP k1 k2 l x y z=(3,80):=by
 unfold tP;rw [aD (fun h0=>h0 h),aD (fun h0=>h0 h1),aD (fun h0=>h0 h2),aD (fun h0=>h0 h3),aD (fun h0=>h0 h4),aF h5]
theorem TE {k1 k2:Int} {l:List R2} {x y z:PV} (h:sU k1 k2 l=0) (h1:sH x=true) (h2:uE x k1 l) (h3:sH y=true) (h4:uE y k2 l) (h5:sH z=true) (h6:¬tQ z l):tP k1 k2 l x y z=(3,180):=by
 unfold tP;rw [aD (fun h0=>h0 h),aD (fun h0=>h0 h1),aD (fun h0=>h0 h2),aD (fun h0=>h0 h3),aD (fun h0=>h0 h4),aD (fun h0=>h0 h5),aF h6]
theorem Vq {k1 k2:Int} {l:List R2} {x y z:PV} (h:sU k1 k2 l=0) (h1:sH x=true) (h2:uE x k1 l) (h3:sH y=true) (h4:uE y k2 l) (h5:sH z=true) (h6:tQ z l):tP k1 k2 l x y z=(0,0):=by
 unfold tP;rw [aD (fun h0=>h0 h),aD (fun h0=>h0 h1),aD (fun h0=>h0 h2),aD (fun h0=>h0 h3),aD (fun h0=>h0 h4),aD (fun h0=>h0 h5),aD (fun h0=>h0 h6)]
section
attribute [local irreducible] uE tQ sU sH tL
end
theorem vO {G:Imm} {b:Nat} {c:Array Value} {ty:TypeId} {z:Nat×Nat} (h:G b=some (.cells c ty z)) {k:Nat} {v:Value} (hv:c[k]?=some v):G.cell b k=some v:=by
 unfold Imm.cell;rw [h];exact hv
structure PF where
 p:PH
 f:Nat
 b:Nat
instance:Inhabited PF:=⟨⟨default,0,0⟩⟩
instance:Cells PF:=⟨5,fun x=>[.int .i64 x.p.ins,.int .i64 x.p.regs,.slice x.p.ac x.p.cn x.p.cc,.slice x.p.ao x.p.on x.p.oc,.func (.func x.f) #[] #[.pointer (some ⟨x.b,0,none⟩)]],fun _=>rfl,fun _=>rfl⟩
section
attribute [local irreducible] uE tQ sU sH tL
theorem gn (G:Imm) (k:Nat) (b:Nat) (cs:Array Value) (ty:TypeId) (zz:Nat×Nat) (p:PV) (ac ao a:Option Addr) (cc co c:Nat) (l:List R2) (hU:G b=some (.cells cs ty zz)) (h0:cs[0]?=some (.int .i64 (k:Int))) (h2:cs[2]?=some (.slice a l.length c)) (hc:Arr G ac p.code) (ho:Arr G ao p.outs) (ha:Arr G a l) (hac:l.length≤c) (hl:l.length≤1048576) (hcl:p.code.length≤16384) (hol:p.outs.length≤1099511627776) (hRL:tL l) (hR:sH p=true) (hk1:1≤k) (hk8:k≤8) :
 Does Tryz.prog 107 [.agg #[.int .i64 p.ins,.int .i64 p.regs,.slice ac p.code.length cc,.slice ao p.outs.length co],.pointer (some ⟨b,0,none⟩)] G [] (fun v G' Ho=>v=.tuple #[.bool (decide (uE p (k:Int) l)),.int .i64 0]∧Ho=[]):=by
 refine D0 Tryz.func107 Tryz.ntmps107 fun w=>?_
 refine aJ 2 [] ?_
 refine dQ 0 fun b1=>?_
 refine aL 8 [0] ?_
 refine aO (cJ T.one3 rfl ((by rw [dC]:G.cell b (0+0)=G.cell b 0).trans (vO hU h0))) ?_
 refine aB 1 [] ?_
 refine aO (cJ T.one22 rfl ((by rw [dC]:G.cell b (0+2)=G.cell b 2).trans (vO hU h2))) ?_
 refine bX 1 rfl (ZX _ _ _ _ _ _ _ _ _ _ sF sF sF sE sE hRL hR sE sE) fun v1 G1 Ho1 hle1 hp=>?_
 obtain ⟨rfl,rfl⟩:=hp
 replace hc:=hc.up hle1
 replace ho:=ho.up hle1
 replace ha:=ha.up hle1
 refine aR 7 [] ?_
 refine gR ?_
 exact ⟨rfl,rfl⟩
theorem gp (G:Imm) (k:Nat) (b:Nat) (cs:Array Value) (ty:TypeId) (zz:Nat×Nat) (p:PV) (ac ao a:Option Addr) (cc co c:Nat) (l:List R2) (hU:G b=some (.cells cs ty zz)) (h0:cs[1]?=some (.int .i64 (k:Int))) (h2:cs[2]?=some (.slice a l.length c)) (hc:Arr G ac p.code) (ho:Arr G ao p.outs) (ha:Arr G a l) (hac:l.length≤c) (hl:l.length≤1048576) (hcl:p.code.length≤16384) (hol:p.outs.length≤1099511627776) (hRL:tL l) (hR:sH p=true) (hk1:1≤k) (hk8:k≤8) :
 Does Tryz.prog 109 [.agg #[.int .i64 p.ins,.int .i64 p.regs,.slice ac p.code.length cc,.slice ao p.outs.length co],.pointer (some ⟨b,0,none⟩)] G [] (fun v G' Ho=>v=.tuple #[.bool (decide (uE p (k:Int) l)),.int .i64 0]∧Ho=[]):=by
 refine D0 Tryz.func109 Tryz.ntmps109 fun w=>?_
 refine aJ 2 [] ?_
 refine dQ 0 fun b1=>?_
 refine aL 8 [0] ?_
 refine aO (cJ T.one3 rfl ((by rw [dC]:G.cell b (0+1)=G.cell b 1).trans (vO hU h0))) ?_
 refine aB 1 [] ?_
 refine aO (cJ T.one22 rfl ((by rw [dC]:G.cell b (0+2)=G.cell b 2).trans (vO hU h2))) ?_
 refine bX 1 rfl (ZX _ _ _ _ _ _ _ _ _ _ sF sF sF sE sE hRL hR sE sE) fun v1 G1 Ho1 hle1 hp=>?_
 obtain ⟨rfl,rfl⟩:=hp
 replace hc:=hc.up hle1
 replace ho:=ho.up hle1
 replace ha:=ha.up hle1
 refine aR 7 [] ?_
 refine gR ?_
 exact ⟨rfl,rfl⟩
theorem gq (G:Imm) (b:Nat) (cs:Array Value) (ty:TypeId) (zz:Nat×Nat) (p:PV) (ac ao a:Option Addr) (cc co c:Nat) (l:List R2) (hU:G b=some (.cells cs ty zz)) (h2:cs[2]?=some (.slice a l.length c)) (hc:Arr G ac p.code) (ho:Arr G ao p.outs) (ha:Arr G a l) (hac:l.length≤c) (hl:l.length≤1048576) (hcl:p.code.length≤16384) (hol:p.outs.length≤1099511627776) (hRL:tL l) (hR:sH p=true) :
 Does Tryz.prog 110 [.agg #[.int .i64 p.ins,.int .i64 p.regs,.slice ac p.code.length cc,.slice ao p.outs.length co],.pointer (some ⟨b,0,none⟩)] G [] (fun v G' Ho=>v=.tuple #[.bool (decide (tQ p l)),.int .i64 0]∧Ho=[]):=by
 refine D0 Tryz.func110 Tryz.ntmps110 fun w=>?_
 refine aJ 2 [] ?_
 refine dQ 0 fun b1=>?_
 refine aL 8 [0] ?_
 refine aO (cJ T.one22 rfl ((by rw [dC]:G.cell b (0+2)=G.cell b 2).trans (vO hU h2))) ?_
 refine bX 1 rfl (ZU _ _ _ _ _ _ _ _ _ sF sF sE sE sF hac hl hRL hR) fun v1 G1 Ho1 hle1 hp=>?_
 obtain ⟨rfl,rfl⟩:=hp
 replace hc:=hc.up hle1
 replace ho:=ho.up hle1
 replace ha:=ha.up hle1
 refine aR 7 [] ?_
 refine gR ?_
 exact ⟨rfl,rfl⟩
theorem c55 (G:Imm) (k1 k2:Int) (pl:List R2) (pa:Option Addr) (pc:Nat) (xp yp zp:PV) (xac xao yac yao zac zao:Option Addr) (xcc xoc ycc yoc zcc zoc:Nat) :
 Does Tryz.prog 55 [.agg #[.int .i64 k1,.int .i64 k2,.slice pa pl.length pc,.int .i64 xp.ins,.int .i64 xp.regs,.slice xac xp.code.length xcc,.slice xao xp.outs.length xoc,.int .i64 yp.ins,.int .i64 yp.regs,.slice yac yp.code.length ycc,.slice yao yp.outs.length yoc,.int .i64 zp.ins,.int .i64 zp.regs,.slice zac zp.code.length zcc,.slice zao zp.outs.length zoc]] G [] (fun v G' Ho=>∃ (s:Option Addr) (b:Nat),v=.slice s ([⟨⟨xp.ins,xp.regs,xac,xp.code.length,xcc,xao,xp.outs.length,xoc⟩,107,b⟩,⟨⟨yp.ins,yp.regs,yac,yp.code.length,ycc,yao,yp.outs.length,yoc⟩,109,b⟩,⟨⟨zp.ins,zp.regs,zac,zp.code.length,zcc,zao,zp.outs.length,zoc⟩,110,b⟩]:List PF).length 3∧Arr G' s ([⟨⟨xp.ins,xp.regs,xac,xp.code.length,xcc,xao,xp.outs.length,xoc⟩,107,b⟩,⟨⟨yp.ins,yp.regs,yac,yp.code.length,ycc,yao,yp.outs.length,yoc⟩,109,b⟩,⟨⟨zp.ins,zp.regs,zac,zp.code.length,zcc,zao,zp.outs.length,zoc⟩,110,b⟩]:List PF)∧G' b=some (.cells #[.int .i64 k1,.int .i64 k2,.slice pa pl.length pc,.int .i64 xp.ins,.int .i64 xp.regs,.slice xac xp.code.length xcc,.slice xao xp.outs.length xoc,.int .i64 yp.ins,.int .i64 yp.regs,.slice yac yp.code.length ycc,.slice yao yp.outs.length yoc,.int .i64 zp.ins,.int .i64 zp.regs,.slice zac zp.code.length zcc,.slice zao zp.outs.length zoc] 28 (0,0))∧Ho=[]):=by
 refine D0 Tryz.func55 Tryz.ntmps55 fun w=>?_
 refine aJ 2 [] ?_
 refine dQ 0 fun b1=>?_
 refine aL 6 [] ?_
 refine aO (fU 0 T.agg26 rfl rfl rfl rfl) ?_
 refine aO (gT rfl rfl) ?_
 refine aO (bO (cs:=[_,_,_,_,_]) T.st100 rfl rfl rfl) ?_
 refine aB 1 [] ?_
 refine aO (fU 0 T.agg26 rfl rfl rfl rfl) ?_
 refine aO (gT rfl rfl) ?_
 refine aO (bO (cs:=[_,_,_,_,_]) T.st100 rfl rfl rfl) ?_
 refine aB 1 [] ?_
 refine aO (fU 0 T.agg26 rfl rfl rfl rfl) ?_
 refine aO (gT rfl rfl) ?_
 refine aO (bO (cs:=[_,_,_,_,_]) T.st100 rfl rfl rfl) ?_
 refine dY (α:=PF) 1 [⟨⟨xp.ins,xp.regs,xac,xp.code.length,xcc,xao,xp.outs.length,xoc⟩,107,b1⟩,⟨⟨yp.ins,yp.regs,yac,yp.code.length,ycc,yao,yp.outs.length,yoc⟩,109,b1⟩,⟨⟨zp.ins,zp.regs,zac,zp.code.length,zcc,zao,zp.outs.length,zoc⟩,110,b1⟩] rfl T.sl96 T.el100 rfl rfl rfl rfl rfl fun b2=>?_
 refine aR 4 [] ?_
 refine rD 0 rfl fun G1 hle1 hb1=>?_
 have hoF:OwnA (some ⟨b2,0,none⟩) 3 ([⟨⟨xp.ins,xp.regs,xac,xp.code.length,xcc,xao,xp.outs.length,xoc⟩,107,b1⟩,⟨⟨yp.ins,yp.regs,yac,yp.code.length,ycc,yao,yp.outs.length,yoc⟩,109,b1⟩,⟨⟨zp.ins,zp.regs,zac,zp.code.length,zcc,zao,zp.outs.length,zoc⟩,110,b1⟩]:List PF) []:=fM Dd
 refine cQ (α:=PF) 1 rfl hoF fun G2 hle2 hA2=>?_
 refine cP ?_
 exact ⟨_,b1,rfl,hA2,hle2 _ _ hb1,rfl⟩
end
def Wv (to a c:Int):Sl.Instr:=if c=1 then ⟨1,to,a,0,0⟩ else if c=-1 then ⟨2,to,a,0,0⟩ else if vR c=0 then ⟨5,to,a,0,c⟩ else ⟨7,to,a,0,vR c⟩
def TF (i:Sl.Instr):List Sl.Instr:=if i.op≠1∨i.to≠i.a then [i] else []
theorem XG (to a c:Int):TF (Wv to a c)=Jl to a c:=by
 unfold TF Wv Jl
 by_cases h1:c=1
 · simp only [aF h1]
   by_cases h2:to=a
   · rw [aF h2,aD]
     rintro (h | h)
     · exact h rfl
     exact h h2
   rw [aD h2,aF (.inr h2)]
 simp only [aD h1]
 by_cases h2:c=-1
 · simp only [aF h2]
   exact aF (.inl (show ¬((2:Int)=1) by decide))
 simp only [aD h2]
 by_cases h3:vR c=0
 · simp only [aF h3]
   exact aF (.inl (show ¬((5:Int)=1) by decide))
 simp only [aD h3]
 exact aF (.inl (show ¬((7:Int)=1) by decide))
theorem c90 (G:Imm) (hT:TabOk G) (to a c:Int) (hc:c≠0∧-512≤c∧c≤512):Does Tryz.prog 90 [.int .i64 to,.int .i64 a,.int .i64 c] G [] (fun v G' Ho=>v=.agg #[.int .i64 (Wv to a c).op,.int .i64 (Wv to a c).to,.int .i64 (Wv to a c).a,.int .i64 (Wv to a c).b,.int .i64 (Wv to a c).c]∧G'=G∧Ho=[]):=by
 refine D0 Tryz.func90 Tryz.ntmps90 fun w=>?_
 refine aJ 2 [] ?_
 refine aN 0 rfl T.zero91 fun b1=>?_
 refine aZ 11 [] ?_
 refine cT (fun hc1=>?_) fun hc1=>?_
 refine aJ 4 [] ?_
 refine aO (bO (cs:=[_,_,_,_,_]) T.st91 rfl rfl rfl) ?_
 refine aR 6 [0] ?_
 refine cK (.inr rfl) (Ho:=Hp.only _ []) rfl (.agg 0 rfl rfl T.agg91) (aT _ _) ?_
 rotate_left
 refine bJ 7 [] ?_
 refine cT (fun hc2=>?_) fun hc2=>?_
 refine aJ 4 [] ?_
 refine aO (bO (cs:=[_,_,_,_,_]) T.st91 rfl rfl rfl) ?_
 refine aR 6 [0] ?_
 refine cK (.inr rfl) (Ho:=Hp.only _ []) rfl (.agg 0 rfl rfl T.agg91) (aT _ _) ?_
 rotate_left
 refine aJ 5 [] ?_
 apply bW 6 22 28 rfl
 intro hg1
 refine aB 7 [] ?_
 refine aO (lD rfl rfl) ?_
 refine aB 3 [] ?_
 exact dA 6 0
 intro hg1
 refine aB 6 [] ?_
 exact dA 6 0
 refine aZ 3 [] ?_
 refine cT (fun hc3=>?_) fun hc3=>?_
 refine aJ 5 [] ?_
 refine aO (dI rfl T.u199 rfl sE) ?_
 rotate_left
 refine aJ 8 [] ?_
 refine aO (bO (cs:=[_,_,_,_,_]) T.st91 rfl rfl rfl) ?_
 refine aR 4 [0] ?_
 refine cK (.inr rfl) (Ho:=Hp.only _ []) rfl (.agg 0 rfl rfl T.agg91) (aT _ _) ?_
 rotate_left
 · have e:Wv to a c=⟨1,to,a,0,0⟩:=aF hc1
   rw [e];exact ⟨rfl,rfl,rfl⟩
 · have e:Wv to a c=⟨2,to,a,0,0⟩:=(aD hc1).trans (aF hc2)
   rw [e];exact ⟨rfl,rfl,rfl⟩
 · have hp:vR c≠0:=(Es ⟨by omega,hc.2.2⟩).1 hc3.2
   refine cI rfl (YQ _ hT _ hp) ?_
   refine aO (bO (cs:=[_,_,_,_,_]) T.st91 rfl rfl rfl) ?_
   refine aR 6 [0] ?_
   refine cK (.inr rfl) (Ho:=Hp.only _ []) rfl (.agg 0 rfl rfl T.agg91) (aT _ _) ?_
   have e:Wv to a c=⟨7,to,a,0,vR c⟩:=(aD hc1).trans ((aD hc2).trans (aD hp))
   rw [e];exact ⟨rfl,rfl,rfl⟩
 have hp:vR c=0:=by
  rcases pZ c 2 with h2 | h2
  · exact Jx h2
  exact eE fun hn=>hc3 ⟨by omega,(Es ⟨h2,hc.2.2⟩).2 hn⟩
 have e:Wv to a c=⟨5,to,a,0,c⟩:=(aD hc1).trans ((aD hc2).trans (aF hp))
 rw [e];exact ⟨rfl,rfl,rfl⟩
abbrev Rg (b:Nat) (ins regs:Int) (ac:Option Addr) (cc:Nat) (code:List Sl.Instr) (j:List Value) (oa:Option Addr) (on oc:Nat):Hp:=[(0,some b,.cells #[.int .i64 ins,.int .i64 regs,.slice ac code.length cc,.slice oa on oc] 26),(1,ac.map (·.block),Row 91 code j)]
theorem c88 (G:Imm) (b:Nat) (ins regs:Int) (ac:Option Addr) (cc:Nat) (code:List Sl.Instr) (j:List Value) (oa:Option Addr) (on oc:Nat) (op to x y c:Int) (ho:OwnA ac cc code j) (hl:code.length≤1048576) :
 Does Tryz.prog 88 [.agg #[.int .i64 op,.int .i64 to,.int .i64 x,.int .i64 y,.int .i64 c],.pointer (some ⟨b,0,none⟩)] G (Rg b ins regs ac cc code j oa on oc)
  (fun v G' Ho=>v=.tuple #[]∧G'=G∧∃ (a':Option Addr) (c':Nat) (j':List Value),OwnA a' c' (code++TF ⟨op,to,x,y,c⟩) j'∧Ho=Rg b ins regs a' c' (code++TF ⟨op,to,x,y,c⟩) j' oa on oc):=by
 unfold Rg
 refine D0 Tryz.func88 Tryz.ntmps88 fun w=>?_
 refine aJ 2 [] ?_
 refine dQ 2 fun b1=>?_
 refine aL 8 [2] ?_
 apply dP 6 6 12 rfl
 intro hg1
 refine aB 11 [2,2] ?_
 exact dA 6 0
 intro hg1
 refine aB 6 [] ?_
 exact dA 6 0
 refine aZ 2 [] ?_
 refine cT (fun hc1=>?_) fun hc1=>?_
 refine aJ 4 [0,2] ?_
 refine dY (α:=Sl.Instr) 3 [⟨op,to,x,y,c⟩] rfl T.sl23 T.el91 rfl rfl rfl rfl rfl fun b2=>?_
 refine jS (α:=Sl.Instr) 1 T.sl23 T.el91 (fE 3 rfl) fun a1 c1 junk1 ho1=>?_
 refine aR 3 [0] ?_
 rotate_left
 refine kC ?_
 rotate_left
 · have e:TF ⟨op,to,x,y,c⟩=[⟨op,to,x,y,c⟩]:=aF hc1
   rw [e]
   refine jZ yZ (Ho:=[(0,some b,.cells #[.int .i64 ins,.int .i64 regs,.slice a1 (code++[(⟨op,to,x,y,c⟩:Sl.Instr)]).length c1,.slice oa on oc] 26),(1,a1.map (·.block),Row 91 (code++[⟨op,to,x,y,c⟩]) junk1)]) rfl ⟨rfl,rfl,trivial⟩ ?_
   exact ⟨rfl,rfl,a1,c1,junk1,ho1,rfl⟩
 have e:TF ⟨op,to,x,y,c⟩=[]:=aD hc1
 rw [e,bR]
 refine jZ yZ (Ho:=[(0,some b,.cells #[.int .i64 ins,.int .i64 regs,.slice ac code.length cc,.slice oa on oc] 26),(1,ac.map (·.block),Row 91 code j)]) rfl ⟨rfl,rfl,trivial⟩ ?_
 exact ⟨rfl,rfl,ac,cc,j,ho,rfl⟩
theorem ZY (G:Imm) (b:Nat) (ins regs:Int) (ac:Option Addr) (cc:Nat) (code:List Sl.Instr) (j:List Value) (oa:Option Addr) (on oc:Nat) (to a c:Int) (ho:OwnA ac cc code j) (hl:code.length≤1048576) :
 Does Tryz.prog 88 [.agg #[.int .i64 (Wv to a c).op,.int .i64 (Wv to a c).to,.int .i64 (Wv to a c).a,.int .i64 (Wv to a c).b,.int .i64 (Wv to a c).c],.pointer (some ⟨b,0,none⟩)] G (Rg b ins regs ac cc code j oa on oc)
  (fun v G' Ho=>v=.tuple #[]∧G'=G∧∃ (a':Option Addr) (c':Nat) (j':List Value),OwnA a' c' (code++Jl to a c) j'∧Ho=Rg b ins regs a' c' (code++Jl to a c) j' oa on oc):=by
 rw [←XG to a c]
 exact c88 G b ins regs ac cc code j oa on oc _ _ _ _ _ ho hl
theorem TG (G:Imm) (b:Nat) (ins regs:Int) (ac:Option Addr) (cc:Nat) (code:List Sl.Instr) (j:List Value) (oa:Option Addr) (on oc:Nat) (op to x y c:Int) (hop:op≠1) (ho:OwnA ac cc code j) (hl:code.length≤1048576) :
 Does Tryz.prog 88 [.agg #[.int .i64 op,.int .i64 to,.int .i64 x,.int .i64 y,.int .i64 c],.pointer (some ⟨b,0,none⟩)] G (Rg b ins regs ac cc code j oa on oc)
  (fun v G' Ho=>v=.tuple #[]∧G'=G∧∃ (a':Option Addr) (c':Nat) (j':List Value),OwnA a' c' (code++[⟨op,to,x,y,c⟩]) j'∧Ho=Rg b ins regs a' c' (code++[⟨op,to,x,y,c⟩]) j' oa on oc):=by
 rw [show ([⟨op,to,x,y,c⟩]:List Sl.Instr)=TF ⟨op,to,x,y,c⟩ from (aF (.inl hop)).symm]
 exact c88 G b ins regs ac cc code j oa on oc _ _ _ _ _ ho hl
theorem Vr (to a c:Int):(Jl to a c).length≤1:=by
 unfold Jl
 repeat' split
 all_goals simp
theorem FB (to c:Int):∀ (n:Nat) (a:Int),(Iu to c a n).length≤n
 | 0,_=>aH _
 | n+1,a=>by
   show (Jl to a c++Iu to c to n).length≤n+1
   rw [aC]
   have h1:=FB to c n to
   have h2:=Vr to a c
   omega
theorem NR (to c a:Int):Iu to c a 0=[]:=rfl
theorem NS (to c a:Int) (n:Nat):Iu to c a (n+1)=Jl to a c++Iu to c to n:=rfl
section
attribute [local irreducible] Iu Jl Wv TF
theorem gr (G:Imm) (hT:TabOk G) (b b7:Nat) (ins regs:Int) (ac:Option Addr) (cc:Nat) (code:List Sl.Instr) (j:List Value) (oa:Option Addr) (on oc:Nat) (to a c:Int) (n:Nat) (hc:c≠0∧-512≤c∧c≤512)
 (hb7:G b7=some (.cells #[.func (.func 88) #[] #[.pointer (some ⟨b,0,none⟩)]] 150 (0,0))) (ho:OwnA ac cc code j) (hl:code.length+n≤1048576) :
 Does Tryz.prog 89 [.int .i64 to,.int .i64 a,.int .i64 c,.int .i64 (n:Int),.pointer (some ⟨b7,0,none⟩)] G (Rg b ins regs ac cc code j oa on oc)
  (fun v G' Ho=>v=.tuple #[]∧G'=G∧∃ (a':Option Addr) (c':Nat) (j':List Value),OwnA a' c' (code++Iu to c a n) j'∧Ho=Rg b ins regs a' c' (code++Iu to c a n) j' oa on oc):=by
 unfold Rg
 refine D0 Tryz.func89 Tryz.ntmps89 fun w=>?_
 refine bJ 7 [] ?_
 refine gL (ι:=Nat×Int×List Sl.Instr×(Option Addr×Nat×List Value)) (fun (i,x,cd,(o,d,jj))=>([(10,.int .i64 (i:Int)),(1,.int .i64 x),(9,.int .i64 (n:Int)),(0,.int .i64 to),(2,.int .i64 c),(4,.pointer (some ⟨b7,0,none⟩))],[(0,some b,.cells #[.int .i64 ins,.int .i64 regs,.slice o cd.length d,.slice oa on oc] 26),(1,o.map (·.block),Row 91 cd jj)])) (fun (i,x,cd,(o,d,jj))=>i≤n∧cd++Iu to c x (n - i)=code++Iu to c a n∧OwnA o d cd jj∧cd.length≤code.length+i) (fun (i,x,cd,(o,d,jj))=>n - i) ((0,a,code,(ac,cc,j))) (⟨aM _,rfl,ho,aH _⟩) ⟨rfl,rfl,rfl,rfl,rfl,rfl,trivial⟩ ⟨rfl,rfl,trivial⟩ fun ⟨i,x,cd,(o,d,jj)⟩=>fun hk=>?_
 obtain ⟨hi,hcd,hown,hlen⟩:=hk
 rcases aK i n with hin | hin
 · obtain ⟨m,hm⟩:∃ m,n - i=m+1:=⟨n - i - 1,by omega⟩
   rw [hm,NS] at hcd
   refine bJ 12 [1] ?_
   refine gQ [] [] T.mixed rfl ?_
   refine dN 0 [] rfl (cJ T.one150 rfl (vO hb7 rfl)) ?_
   refine dE [[1],[2],[3]] ?_
   refine bV 4 ?_
   refine cI rfl (c90 _ hT to x c hc) ?_
   refine cG 5 ?_
   refine eC (fst:=[]) (cap:=[.pointer (some ⟨b,0,none⟩)]) 0 rfl T.fn88 rfl rfl (ZY G b ins regs o d cd jj oa on oc to x c hown sE) (sJ ⟨rfl,rfl,trivial⟩) fun v9 G9 Ho9 hle9 hp=>?_
   obtain ⟨rfl,rfl,o9,d9,j9,how9,rfl⟩:=hp
   refine eZ ?_
   refine dX 11 [] ?_
   have hl1:=Vr to x c
   refine cL ((i+1,to,cd++Jl to x c,(o9,d9,j9))) ?_ ?_
   · refine ⟨by omega,?_,how9,by rw [aC];omega⟩
     rw [bA,show n - (i+1)=m by omega];exact hcd
   show n - (i+1)<n - i
   omega
 have hz:n - i=0:=sE
 rw [hz,NR,bR] at hcd
 subst hcd
 refine bE 11 [0] ?_
 refine jZ yZ (Ho:=[(0,some b,.cells #[.int .i64 ins,.int .i64 regs,.slice o (code++Iu to c a n).length d,.slice oa on oc] 26),(1,o.map (·.block),Row 91 (code++Iu to c a n) jj)]) rfl ⟨rfl,rfl,trivial⟩ ?_
 exact ⟨rfl,rfl,o,d,jj,hown,rfl⟩
end
theorem Mv {k:Nat} {l:List R2} (hR:tL l) (hk:1≤k∧k≤8):Pb k l:=⟨hk.1,hk.2,hR.1,hR.2.1,fun i hi=>(hR.2.2.1 i hi).1⟩
theorem Ta {l:List R2} (hR:tL l) {i:Nat} (hi:i<l.length):near (l[i]?.getD default).a (l[i]?.getD default).b∧¬((l[i]?.getD default).a=0∧(l[i]?.getD default).b=0):=hR.2.2.1 i hi
theorem TH {k:Nat} (h:k=1) (i:Nat):IA k i=0:=aF h
theorem Vs {k:Nat} (h:¬k=1) (i:Nat):IA k i=(k:Int)+i:=aD h
theorem NT {k n i:Nat} {q:R2} (h:k=1):Ba k n i q=[]:=aF h
theorem IG {k n i:Nat} {q:R2} (h:¬k=1) (h0:¬(q.a=0∧q.b=0)) (ha:q.a=0):Ba k n i q=Iu ((k:Int)+i) q.b 0 (k - 1):=by unfold Ba;rw [aD h,aD h0,aF ha]
theorem CX {k n i:Nat} {q:R2} (h:¬k=1) (ha:¬q.a=0) (hb:q.b=0):Ba k n i q=Iu ((k:Int)+i) q.a ((k:Int) - 1) (k - 1):=by unfold Ba;rw [aD h,aD (fun h=>ha h.1),aD ha,aF hb]
theorem IH {k n i:Nat} {q:R2} (h:¬k=1) (ha:¬q.a=0) (hb:¬q.b=0):Ba k n i q=JJ k ((k:Int)+i) ((k:Int)+n) q.a q.b ((k:Int) - 1) (k - 1):=by unfold Ba;rw [aD h,aD (fun h=>ha h.1),aD ha,aD hb]
theorem NU (k:Nat) (to tm a b fr:Int):JJ k to tm a b fr 0=[]:=rfl
theorem NV (k:Nat) (to tm a b fr:Int) (m:Nat):JJ k to tm a b fr (m+1)=Jl to fr a++(EU to tm b m (k - 1 - m)++JJ k to tm a b to m):=rfl
theorem FC {to tm b j:Int} {n:Nat} (h:b=1∨(b=-1∧n % 2=0)):EU to tm b j n=[⟨3,to,to,j,0⟩]:=aF h
theorem TI {to tm b j:Int} {n:Nat} (h:¬(b=1∨(b=-1∧n % 2=0))) (h1:b=-1):EU to tm b j n=[⟨4,to,to,j,0⟩]:=(aD h).trans (aF h1)
theorem TJ {to tm b j:Int} {n:Nat} (h:¬(b=1∨(b=-1∧n % 2=0))) (h1:¬b=-1):EU to tm b j n=Iu tm b j n++[⟨3,to,to,tm,0⟩]:=(aD h).trans (aD h1)
theorem TK (k n i:Nat):Zq k n i []=[]:=rfl
section
attribute [local irreducible] Iu Jl Wv TF tL JJ EU Ba Zq IA
theorem c43 (G:Imm) (hT:TabOk G) (k:Nat) (a:Option Addr) (c:Nat) (l:List R2) (ha:Arr G a l) (hl:l.length≤1048576) (hR:tL l) (hk1:1≤k) (hk8:k≤8) :
 Does Tryz.prog 43 [.int .i64 (k:Int),.slice a l.length c] G [] (fun v G' Ho=>∃ ca oa cc oc,v=.tuple #[.agg #[.int .i64 (wK k l).ins,.int .i64 (wK k l).regs,.slice ca (wK k l).code.length cc,.slice oa (wK k l).outs.length oc],.int .i64 0]∧Arr G' ca (wK k l).code∧Arr G' oa (wK k l).outs∧Ho=[]):=by
 have hE:=Mv hR ⟨hk1,hk8⟩
 have hl15:=hE.2.2.2.1
 have hln:=hE.2.2.1
 refine D0 Tryz.func43 Tryz.ntmps43 fun w=>?_
 refine aJ 2 [] ?_
 refine aN 0 rfl T.zero26 fun b1=>?_
 refine aZ 3 [] ?_
 refine mH ?_
 refine aJ 6 [] ?_
 refine oM 18 ?_
 refine aB 6 [] ?_
 refine oM 22 ?_
 refine aB 3 [] ?_
 refine cI rfl (c87 _ _ _ _ sF sE hR) ?_
 refine aB 1 [] ?_
 refine aO (fF rfl) ?_
 refine aL 14 [0] ?_
 refine aO (bO (cs:=[_,_,_,_]) T.st26 rfl rfl rfl) ?_
 refine aN 1 rfl T.zero26 fun b2=>?_
 refine aL 5 [1] ?_
 refine aO (gT rfl rfl) ?_
 refine aN 2 rfl T.zero150 fun b3=>?_
 refine aL 14 [2] ?_
 refine aO (gT rfl rfl) ?_
 refine aZ 7 [] ?_
 refine Wc.freeze 2 rfl fun G1 hle1 hb3=>?_
 refine dZ 2 (Row 91 ([]:List Sl.Instr) []) (dZ 3 (Row 3 ([]:List Int) []) ?_)
 replace ha:=ha.up hle1
 have hT1:=hT.up hle1
 replace hb3:G1 b3=some (.cells #[.func (.func 88) #[] #[.pointer (some ⟨b2,0,none⟩)]] 150 (0,0)):=hb3
 have hcell:G1.cell b3 0=some (.func (.func 88) #[] #[.pointer (some ⟨b2,0,none⟩)]):=vO hb3 rfl
 refine bJ 8 [] ?_
 refine gL (ι:=Nat×(List Sl.Instr×Option Addr×Nat×List Value)×(List Int×Option Addr×Nat×List Value)) (fun (i,(cd,o,d,jj),(os,oo,od,kk))=>([(43,.int .i64 (i:Int)),(6,.pointer (some ⟨b2,0,none⟩)),(4,.pointer (some ⟨b1,0,none⟩)),(42,.int .i64 (l.length:Int)),(41,.slice a (List.length l) c),(9,.func (Go.Fn.func 89) #[] #[.pointer (some (Addr.mk b3 0 none))]),(8,.int .i64 ((↑k:Int)+(l.length:Int))),(7,.pointer (some (Addr.mk b3 0 none))),(5,.int .i64 0),(0,.int .i64 (↑k:Int))],[(0,some b1,.cells #[.int .i64 0,.int .i64 0,.slice none 0 0,.slice none 0 0] 26),(1,some b2,.cells #[.int .i64 (k:Int),.int .i64 ((k:Int)+l.length+1),.slice o cd.length d,.slice oo os.length od] 26),(2,o.map (·.block),Row 91 cd jj),(3,oo.map (·.block),Row 3 os kk)])) (fun (i,(cd,o,d,jj),(os,oo,od,kk))=>i≤l.length∧cd=Zq k l.length 0 (l.take i)∧os=(List.range i).map (IA k)∧OwnA o d cd jj∧OwnA oo od os kk∧cd.length≤63*i∧os.length=i) (fun (i,(cd,o,d,jj),(os,oo,od,kk))=>l.length - i) ((0,([],none,0,[]),([],none,0,[]))) (⟨aM _,(TK _ _ _).symm,rfl,eD,eD,aM _,rfl⟩) ⟨rfl,rfl,rfl,rfl,rfl,rfl,rfl,rfl,rfl,rfl,trivial⟩ ⟨rfl,rfl,rfl,rfl,trivial⟩ fun ⟨i,(cd,o,d,jj),(os,oo,od,kk)⟩=>fun hk=>?_
 obtain ⟨hi,hcd,hos,hown,hoo,hcl,hol⟩:=hk
 rcases aK i l.length with hil | hil
 · have hT2:Zq k l.length 0 (l.take (i+1))=cd++Ba k l.length i (l[(i:Int).toNat]?.getD default):=by
    rw [hcd,aE,cB,aA hil,dK]
    show Zq k l.length 0 (l.take i++[l[i]])=_
    rw [Zr,dC,bG,dG sE]
   have hO2:(List.range (i+1)).map (IA k)=os++[IA k i]:=by
    rw [hos,nY,jP];rfl
   have hq:near (l[(i:Int).toNat]?.getD default).a (l[(i:Int).toNat]?.getD default).b∧¬((l[(i:Int).toNat]?.getD default).a=0∧(l[(i:Int).toNat]?.getD default).b=0):=by rw [aE];exact Ta hR hil
   have hq':-16≤(l[(i:Int).toNat]?.getD default).a∧(l[(i:Int).toNat]?.getD default).a≤16∧-16≤(l[(i:Int).toNat]?.getD default).b∧(l[(i:Int).toNat]?.getD default).b≤16:=by have:=hq.1;unfold near at this;omega
   have hlen2:∀ x:Int,(os++[x]).length=i+1:=fun x=>by rw [aC,hol];rfl
   have hcl2:(Zq k l.length 0 (l.take (i+1))).length≤63*(i+1):=by
    have h9:=(Pa (n:=l.length) hk1 hk8 (l.take (i+1)) 0 (by rw [bG];omega) (fun q hq=>Sw hE.2.2.2.2 q (nQ hq))).len
    rw [bG,dG sE] at h9;exact h9
   have hn1:((k - 1:Nat):Int)=(k:Int) - 1:=sE
   refine aJ 14 [1] ?_
   refine fP (α:=R2) T.sl22 ?_
   refine lB T.agg52 ?_
   refine aN 4 rfl T.zero52 fun b4=>?_
   refine aL 17 [4,1] ?_
   refine dY (α:=Int) 5 [((↑k:Int)+(↑i:Int))] rfl T.sl24 T.el3 rfl rfl rfl rfl rfl fun b5=>?_
   refine jS (α:=Int) 3 T.sl24 T.el3 (fE 5 rfl) fun a1 c1 junk1 ho1=>?_
   refine aZ 13 [1] ?_
   refine cT (fun hc1=>?_) fun hc1=>?_
   refine aJ 5 [1] ?_
   rotate_left
   refine aJ 6 [4] ?_
   apply bW 4 68 72 rfl
   intro hg1
   refine aB 7 [4] ?_
   exact dA 4 0
   intro hg1
   refine aB 4 [] ?_
   exact dA 4 0
   refine aZ 12 [0,4] ?_
   refine cT (fun hc2=>?_) fun hc2=>?_
   refine aJ 8 [4] ?_
   rotate_left
   refine bJ 8 [4] ?_
   refine cT (fun hc3=>?_) fun hc3=>?_
   refine aJ 10 [4] ?_
   rotate_left
   refine bJ 18 [] ?_
   rotate_left
   · refine aO (dO (α:=Int) T.sl24 rfl rfl ho1 (show 0≤(i:Int)∧(i:Int)<(((os++[((k:Int)+i)]).length:Nat):Int) by rw [hlen2];omega)) ?_
     refine cU (α:=Int) (m:=(i:Int)) (z:=(0:Int)) 3 T.size3 rfl rfl rfl ho1 (by rw [hlen2];omega) rfl fun ho2=>?_
     have hset:(os++[((k:Int)+i)]).set (i:Int).toNat 0=os++[(0:Int)]:=by
      rw [aE,←hol,qI _ _ (aH _),hJ];rfl
     rw [hset] at ho2
     refine aR 11 [] ?_
     have hk:k=1:=sE
     have e8:IA k i=0:=TH hk i
     have e9:Ba k l.length i (l[(i:Int).toNat]?.getD default)=[]:=NT hk
     rw [e9,bR] at hT2
     rw [e8] at hO2
     refine fY 3 (Row 3 (os++[(0:Int)]) junk1) rfl (by rw [hset]) (fY 1 (.cells #[.int .i64 (k:Int),.int .i64 ((k:Int)+l.length+1),.slice o cd.length d,.slice a1 (os++[(0:Int)]).length c1] 26) rfl (congrArg (fun n:Nat=>Obj.cells #[.int .i64 (k:Int),.int .i64 ((k:Int)+l.length+1),.slice o cd.length d,.slice a1 n c1] 26 (0,0)) (show (os++[((k:Int)+i)]).length=(os++[(0:Int)]).length by rw [hlen2,hlen2])) ?_)
     refine cL ((i+1,(cd,o,d,jj),(os++[0],a1,c1,junk1))) ?_ ?_
     · exact ⟨by omega,hT2.symm,hO2.symm,hown,ho2,by rw [←hT2];exact hcl2,hlen2 _⟩
     show l.length - (i+1)<l.length - i
     omega
   · have hk:¬k=1:=sE
     rw [Vs hk i] at hO2
     have hb0:(l[(i:Int).toNat]?.getD default).b≠0:=fun h=>hq.2 ⟨by assumption,h⟩
     refine gK 86 rfl (show _=Value.int .i64 ((k - 1:Nat):Int) by rw [hn1]) ?_
     refine eC (fst:=[]) (cap:=[.pointer (some ⟨b3,0,none⟩)]) 1 rfl T.fn89 rfl rfl (gr G1 hT1 b2 b3 _ _ o d cd jj a1 (os++[((k:Int)+i)]).length c1 ((k:Int)+i) 0 (l[(i:Int).toNat]?.getD default).b (k - 1) sE hb3 hown sE) (sJ ⟨rfl,rfl,trivial⟩) fun v9 G9 Ho9 hle9 hp=>?_
     obtain ⟨rfl,rfl,o9,d9,j9,how9,rfl⟩:=hp
     refine aR 11 [] ?_
     have e9:Ba k l.length i (l[(i:Int).toNat]?.getD default)=Iu ((k:Int)+i) (l[(i:Int).toNat]?.getD default).b 0 (k - 1):=IG hk hq.2 sF
     rw [e9] at hT2
     refine cL ((i+1,(cd++Iu ((k:Int)+i) (l[(i:Int).toNat]?.getD default).b 0 (k - 1),o9,d9,j9),(os++[((k:Int)+i)],a1,c1,junk1))) ?_ ?_
     · exact ⟨by omega,hT2.symm,hO2.symm,how9,ho1,by rw [←hT2];exact hcl2,hlen2 _⟩
     show l.length - (i+1)<l.length - i
     omega
   · have hk:¬k=1:=sE
     rw [Vs hk i] at hO2
     refine gK 99 rfl (show _=Value.int .i64 ((k - 1:Nat):Int) by rw [hn1]) ?_
     refine eC (fst:=[]) (cap:=[.pointer (some ⟨b3,0,none⟩)]) 1 rfl T.fn89 rfl rfl (gr G1 hT1 b2 b3 _ _ o d cd jj a1 (os++[((k:Int)+i)]).length c1 ((k:Int)+i) ((k:Int) - 1) (l[(i:Int).toNat]?.getD default).a (k - 1) sE hb3 hown sE) (sJ ⟨rfl,rfl,trivial⟩) fun v9 G9 Ho9 hle9 hp=>?_
     obtain ⟨rfl,rfl,o9,d9,j9,how9,rfl⟩:=hp
     refine aR 11 [] ?_
     have e9:Ba k l.length i (l[(i:Int).toNat]?.getD default)=Iu ((k:Int)+i) (l[(i:Int).toNat]?.getD default).a ((k:Int) - 1) (k - 1):=CX hk sF sF
     rw [e9] at hT2
     refine cL ((i+1,(cd++Iu ((k:Int)+i) (l[(i:Int).toNat]?.getD default).a ((k:Int) - 1) (k - 1),o9,d9,j9),(os++[((k:Int)+i)],a1,c1,junk1))) ?_ ?_
     · exact ⟨by omega,hT2.symm,hO2.symm,how9,ho1,by rw [←hT2];exact hcl2,hlen2 _⟩
     show l.length - (i+1)<l.length - i
     omega
   have hk:¬k=1:=sE
   rw [Vs hk i] at hO2
   have e9:Ba k l.length i (l[(i:Int).toNat]?.getD default)=JJ k ((k:Int)+i) ((k:Int)+l.length) (l[(i:Int).toNat]?.getD default).a (l[(i:Int).toNat]?.getD default).b ((k:Int) - 1) (k - 1):=IH hk sF sF
   rw [e9] at hT2
   refine iI 14 rfl (show _=Value.int .i64 (((k - 1:Nat):Int) - 1) by rw [hn1];congr 1;omega) ?_
   refine gL (ι:=Nat×Int×(List Sl.Instr×Option Addr×Nat×List Value)) (fun (m,fr,(ce,o',d',jj'))=>([(14,.int .i64 ((m:Int) - 1)),(13,.int .i64 fr),(43,.int .i64 (i:Int)),(42,.int .i64 (l.length:Int)),(41,.slice a l.length c),(6,.pointer (some ⟨b2,0,none⟩)),(4,.pointer (some ⟨b1,0,none⟩)),(9,.func (.func 89) #[] #[.pointer (some ⟨b3,0,none⟩)]),(8,.int .i64 ((k:Int)+l.length)),(7,.pointer (some ⟨b3,0,none⟩)),(5,.int .i64 0),(0,.int .i64 (k:Int)),(12,.int .i64 ((k:Int)+i)),(11,.pointer (some ⟨b4,0,none⟩))],[(0,some b1,.cells #[.int .i64 0,.int .i64 0,.slice none 0 0,.slice none 0 0] 26),(1,some b2,.cells #[.int .i64 (k:Int),.int .i64 ((k:Int)+l.length+1),.slice o' ce.length d',.slice a1 (os++[((k:Int)+i)]).length c1] 26),(2,o'.map (·.block),Row 91 ce jj'),(3,a1.map (·.block),Row 3 (os++[((k:Int)+i)]) junk1),(4,some b4,.cells #[.int .i64 (l[(i:Int).toNat]?.getD default).a,.int .i64 (l[(i:Int).toNat]?.getD default).b] 52),(5,some b5,Row (α:=Int) 3 ([(↑k:Int)+(↑i:Int)]) ([]))])) (fun (m,fr,(ce,o',d',jj'))=>m≤k - 1∧ce++JJ k ((k:Int)+i) ((k:Int)+l.length) (l[(i:Int).toNat]?.getD default).a (l[(i:Int).toNat]?.getD default).b fr m=cd++JJ k ((k:Int)+i) ((k:Int)+l.length) (l[(i:Int).toNat]?.getD default).a (l[(i:Int).toNat]?.getD default).b ((k:Int) - 1) (k - 1)∧OwnA o' d' ce jj'∧ce.length≤cd.length+9*(k - 1 - m)) (fun (m,fr,(ce,o',d',jj'))=>m) ((k - 1,(k:Int) - 1,(cd,o,d,jj))) (⟨aH _,rfl,hown,Nat.le_add_right _ _⟩) ⟨rfl,rfl,rfl,rfl,rfl,rfl,rfl,rfl,rfl,rfl,rfl,rfl,rfl,rfl,trivial⟩ ⟨rfl,rfl,rfl,rfl,rfl,rfl,trivial⟩ fun ⟨m,fr,(ce,o',d',jj')⟩=>fun hk=>?_
   obtain ⟨hm,hce,hown',hcel⟩:=hk
   rcases fZ m with hm0 | hm0
   · subst hm0
     rw [NU,bR] at hce
     refine bE 18 [0] ?_
     rw [←hce] at hT2
     refine cL ((i+1,(ce,o',d',jj'),(os++[((k:Int)+i)],a1,c1,junk1))) ?_ ?_
     · exact ⟨by omega,hT2.symm,hO2.symm,hown',ho1,by rw [←hT2];exact hcl2,hlen2 _⟩
     show l.length - (i+1)<l.length - i
     omega
   obtain ⟨m,rfl⟩:∃ m',m=m'+1:=⟨m - 1,by omega⟩
   rw [NV] at hce
   have hl1:=Vr ((k:Int)+i) fr (l[(i:Int).toNat]?.getD default).a
   have hl2:=FB ((k:Int)+l.length) (l[(i:Int).toNat]?.getD default).b (k - 1 - m) (m:Int)
   have hnm:((k - 1 - m:Nat):Int)=(k:Int) - 1 - m:=sE
   refine iI 14 rfl (show _=Value.int .i64 (m:Int) by congr 1;omega) ?_
   refine bJ 13 [1] ?_
   refine gQ [4] [] T.mixed rfl ?_
   refine dN 0 [] rfl (cJ T.one150 rfl hcell) ?_
   refine dE [[1],[2],[3],[4,4]] ?_
   refine bV 5 ?_
   refine cI rfl (c90 _ hT1 ((k:Int)+i) fr (l[(i:Int).toNat]?.getD default).a sE) ?_
   refine cG 6 ?_
   refine eC (fst:=[]) (cap:=[.pointer (some ⟨b2,0,none⟩)]) 1 rfl T.fn88 rfl rfl (ZY G1 b2 _ _ o' d' ce jj' a1 (os++[((k:Int)+i)]).length c1 ((k:Int)+i) fr (l[(i:Int).toNat]?.getD default).a hown' sE) (sJ ⟨rfl,rfl,trivial⟩) fun v6 G6 Ho6 hle6 hp=>?_
   obtain ⟨rfl,rfl,o6,d6,j6,how6,rfl⟩:=hp
   refine eZ ?_
   have hhb:∀ n:Nat,((n:Int)=(k:Int) - 1 - m)→(n % 2=0↔((k:Int) - 1 - m) % 2=0):=fun n h=>sE
   refine mD 26 [4] ?_
   refine cT (fun hc4=>?_) fun hc4=>?_
   refine aJ 4 [1] ?_
   refine aO (cJ T.one150 rfl sF) ?_
   refine aB 3 [] ?_
   refine aO (bO (cs:=[_,_,_,_,_]) T.st91 rfl rfl rfl) ?_
   rotate_left
   refine aJ 5 [4] ?_
   apply bW 4 141 145 rfl
   intro hg1
   refine aB 3 [] ?_
   refine aO (mU rfl rfl sE) ?_
   refine aB 3 [] ?_
   exact dA 4 0
   intro hg1
   refine aB 4 [] ?_
   exact dA 4 0
   refine aZ 3 [] ?_
   refine cT (fun hc5=>?_) fun hc5=>?_
   refine aJ 1 [] ?_
   refine aO (cJ T.one150 rfl sF) ?_
   refine aB 3 [] ?_
   refine aO (bO (cs:=[_,_,_,_,_]) T.st91 rfl rfl rfl) ?_
   rotate_left
   refine bJ 8 [4] ?_
   refine cT (fun hc6=>?_) fun hc6=>?_
   refine aJ 1 [] ?_
   refine aO (cJ T.one150 rfl sF) ?_
   refine aB 3 [] ?_
   refine aO (bO (cs:=[_,_,_,_,_]) T.st91 rfl rfl rfl) ?_
   rotate_left
   refine aJ 8 [4] ?_
   rotate_left
   · skip
     refine eC (fst:=[]) (cap:=[.pointer (some ⟨b2,0,none⟩)]) 1 rfl T.fn88 rfl rfl (TG _ b2 _ _ o6 d6 (ce++Jl ((k:Int)+i) fr (l[(i:Int).toNat]?.getD default).a) j6 a1 (os++[((k:Int)+i)]).length c1 3 ((k:Int)+i) ((k:Int)+i) (m:Int) 0 sN how6 DK) (sJ ⟨rfl,rfl,trivial⟩) fun v7 G7 Ho7 hle7 hp=>?_
     obtain ⟨rfl,rfl,o7,d7,j7,how7,rfl⟩:=hp
     refine aR 9 [] ?_
     refine cN 14 rfl (show _=Value.int .i64 ((m:Int) - 1) from rfl) ?_
     rw [show EU ((k:Int)+i) ((k:Int)+l.length) (l[(i:Int).toNat]?.getD default).b (m:Int) (k - 1 - m)=[⟨3,((k:Int)+i),((k:Int)+i),(m:Int),0⟩] from FC (.inl sF)] at hce
     refine cL ((m,((k:Int)+i),(ce++Jl ((k:Int)+i) fr (l[(i:Int).toNat]?.getD default).a++[⟨3,((k:Int)+i),((k:Int)+i),(m:Int),0⟩],o7,d7,j7))) ?_ ?_
     · refine ⟨by omega,?_,how7,by simp only [aC,aW,cH];omega⟩
       rw [←hce];simp only [bA]
     show m<m+1
     omega
   · skip
     refine eC (fst:=[]) (cap:=[.pointer (some ⟨b2,0,none⟩)]) 1 rfl T.fn88 rfl rfl (TG _ b2 _ _ o6 d6 (ce++Jl ((k:Int)+i) fr (l[(i:Int).toNat]?.getD default).a) j6 a1 (os++[((k:Int)+i)]).length c1 3 ((k:Int)+i) ((k:Int)+i) (m:Int) 0 sN how6 DK) (sJ ⟨rfl,rfl,trivial⟩) fun v7 G7 Ho7 hle7 hp=>?_
     obtain ⟨rfl,rfl,o7,d7,j7,how7,rfl⟩:=hp
     refine aR 9 [] ?_
     refine cN 14 rfl (show _=Value.int .i64 ((m:Int) - 1) from rfl) ?_
     rw [show EU ((k:Int)+i) ((k:Int)+l.length) (l[(i:Int).toNat]?.getD default).b (m:Int) (k - 1 - m)=[⟨3,((k:Int)+i),((k:Int)+i),(m:Int),0⟩] from FC (.inr sE)] at hce
     refine cL ((m,((k:Int)+i),(ce++Jl ((k:Int)+i) fr (l[(i:Int).toNat]?.getD default).a++[⟨3,((k:Int)+i),((k:Int)+i),(m:Int),0⟩],o7,d7,j7))) ?_ ?_
     · refine ⟨by omega,?_,how7,by simp only [aC,aW,cH];omega⟩
       rw [←hce];simp only [bA]
     show m<m+1
     omega
   · skip
     refine eC (fst:=[]) (cap:=[.pointer (some ⟨b2,0,none⟩)]) 1 rfl T.fn88 rfl rfl (TG _ b2 _ _ o6 d6 (ce++Jl ((k:Int)+i) fr (l[(i:Int).toNat]?.getD default).a) j6 a1 (os++[((k:Int)+i)]).length c1 4 ((k:Int)+i) ((k:Int)+i) (m:Int) 0 sN how6 DK) (sJ ⟨rfl,rfl,trivial⟩) fun v7 G7 Ho7 hle7 hp=>?_
     obtain ⟨rfl,rfl,o7,d7,j7,how7,rfl⟩:=hp
     refine aR 9 [] ?_
     refine cN 14 rfl (show _=Value.int .i64 ((m:Int) - 1) from rfl) ?_
     rw [show EU ((k:Int)+i) ((k:Int)+l.length) (l[(i:Int).toNat]?.getD default).b (m:Int) (k - 1 - m)=[⟨4,((k:Int)+i),((k:Int)+i),(m:Int),0⟩] from TI (fun h=>by first | omega | (rcases h with h | h <;> omega)) sF] at hce
     refine cL ((m,((k:Int)+i),(ce++Jl ((k:Int)+i) fr (l[(i:Int).toNat]?.getD default).a++[⟨4,((k:Int)+i),((k:Int)+i),(m:Int),0⟩],o7,d7,j7))) ?_ ?_
     · refine ⟨by omega,?_,how7,by simp only [aC,aW,cH];omega⟩
       rw [←hce];simp only [bA]
     show m<m+1
     omega
   refine gK 126 rfl (show _=Value.int .i64 ((k - 1 - m:Nat):Int) by rw [hnm]) ?_
   have hb9:(l[(i:Int).toNat]?.getD default).b≠0:=by assumption
   refine eC (fst:=[]) (cap:=[.pointer (some ⟨b3,0,none⟩)]) 1 rfl T.fn89 rfl rfl (gr _ sF b2 b3 _ _ o6 d6 (ce++Jl ((k:Int)+i) fr (l[(i:Int).toNat]?.getD default).a) j6 a1 (os++[((k:Int)+i)]).length c1 ((k:Int)+l.length) (m:Int) (l[(i:Int).toNat]?.getD default).b (k - 1 - m) sE hb3 how6 (by simp only [aC];omega)) (sJ ⟨rfl,rfl,trivial⟩) fun v7 G7 Ho7 hle7 hp=>?_
   obtain ⟨rfl,rfl,o7,d7,j7,how7,rfl⟩:=hp
   refine aL 3 [] ?_
   refine aO (cJ T.one150 rfl sF) ?_
   refine aB 3 [] ?_
   refine aO (bO (cs:=[_,_,_,_,_]) T.st91 rfl rfl rfl) ?_
   refine eC (fst:=[]) (cap:=[.pointer (some ⟨b2,0,none⟩)]) 1 rfl T.fn88 rfl rfl (TG _ b2 _ _ o7 d7 (ce++Jl ((k:Int)+i) fr (l[(i:Int).toNat]?.getD default).a++Iu ((k:Int)+l.length) (l[(i:Int).toNat]?.getD default).b (m:Int) (k - 1 - m)) j7 a1 (os++[((k:Int)+i)]).length c1 3 ((k:Int)+i) ((k:Int)+i) ((k:Int)+l.length) 0 sN how7 DK) (sJ ⟨rfl,rfl,trivial⟩) fun v8 G8 Ho8 hle8 hp=>?_
   obtain ⟨rfl,rfl,o8,d8,j8,how8,rfl⟩:=hp
   refine aR 9 [] ?_
   refine cN 14 rfl (show _=Value.int .i64 ((m:Int) - 1) from rfl) ?_
   rw [show EU ((k:Int)+i) ((k:Int)+l.length) (l[(i:Int).toNat]?.getD default).b (m:Int) (k - 1 - m)=Iu ((k:Int)+l.length) (l[(i:Int).toNat]?.getD default).b (m:Int) (k - 1 - m)++[⟨3,((k:Int)+i),((k:Int)+i),((k:Int)+l.length),0⟩] from TJ (fun h=>by first | omega | (rcases h with h | h <;> omega)) sF] at hce
   refine cL ((m,((k:Int)+i),(ce++Jl ((k:Int)+i) fr (l[(i:Int).toNat]?.getD default).a++Iu ((k:Int)+l.length) (l[(i:Int).toNat]?.getD default).b (m:Int) (k - 1 - m)++[⟨3,((k:Int)+i),((k:Int)+i),((k:Int)+l.length),0⟩],o8,d8,j8))) ?_ ?_
   · refine ⟨by omega,?_,how8,by simp only [aC,aW,cH];omega⟩
     rw [←hce];simp only [bA]
   show m<m+1
   omega
 have hin:i=l.length:=sE
 have hcd':cd=(wK k l).code:=by rw [hcd,hin,bC];rfl
 have hos':os=(wK k l).outs:=by rw [hos,hin];rfl
 refine bE 20 [0,1,0] ?_
 refine iR ?_
 refine cQ 2 rfl hown (fun G8 hle8 hA8=>cQ 3 rfl hoo (fun G9 hle9 hA9=>?_))
 refine fS (.inr rfl) (Ho:=[]) rfl (.agg 0 rfl rfl T.agg26) (.tmp rfl) trivial ?_
 clear hcd hos
 subst hcd' hos'
 exact ⟨o,oo,d,od,rfl,hA8.up hle9,hA9,rfl⟩
end
theorem XH (G:Imm) (p:PV) (ac ao ai:Option Addr) (cc co ci:Nat) (li:List IV) (zs os:List Int) (m:Nat) (hc:Arr G ac p.code) (ho:Arr G ao p.outs) (hi:Arr G ai li) (hb:Bigs G li zs) (hm:Below m zs) (hmm:m≤1048576) (hR:sH p=true) (hn:(li.length:Int)=p.ins) (hs:xH p zs=some os) :
 Does Tryz.prog 74 [.agg #[.int .i64 p.ins,.int .i64 p.regs,.slice ac p.code.length cc,.slice ao p.outs.length co],.slice ai li.length ci] G [] (fun v G' Ho=>∃ (b:Option Addr) (r:List IV) (c':Nat),v=.tuple #[.slice b r.length c',.int .i64 0,.int .i64 0]∧Arr G' b r∧Bigs G' r os∧r.length=p.outs.length∧Ho=[]):=
 (c74 G p ac ao ai cc co ci li zs m hc ho hi hb hm hmm hR hn).mono fun v G' Ho _ ⟨e0,h⟩=>by
  rcases h with ⟨os',b,r,c',e1,e2,e3,e4,e5⟩ | ⟨e1,_⟩
  · rw [hs] at e1
    obtain rfl:=jD e1
    exact ⟨b,r,c',e2,e3,e4,e5,e0⟩
  rw [hs] at e1;cases e1
theorem NW {xs:List Int} (h:∀ x∈xs,-9223372036854775808≤x∧x≤9223372036854775807):Below 2 xs:=fun z hz=>by
 have:=h z hz
 have e:pb 2=18446744073709551616:=by unfold pb;decide
 rw [e];omega
theorem Zz {l:List R2} {xs:List Int} (hR:tL l) (h:∀ x∈xs,-9223372036854775808≤x∧x≤9223372036854775807) (hl:xs.length≤15):Below 4 (l.map fun q=>ev xs q.a q.b):=fun z hz=>by
 obtain ⟨q,hq,rfl⟩:=dJ.1 hz
 obtain ⟨k,hk,rfl⟩:=fL.1 hq
 have h1:=(Ta hR hk).1
 rw [aA hk] at h1
 simp only [dK] at h1
 unfold near at h1
 exact ZQ sE sE (Cx h) hl
theorem TL (l:List R2) (f g:R2→Int) {i:Nat} (h:i<l.length):(l.map fun q=>f q*g q).take (i+1)=(l.map fun q=>f q*g q).take i++[(l.map f)[i]?.getD 0*(l.map g)[i]?.getD 0]:=by
 rw [cB,bN,bN,bN,aA h];rfl
theorem CY {l:List R2} {f g:R2→Int} (h1:Below 4 (l.map f)) (h2:Below 4 (l.map g)):Below 8 (l.map fun q=>f q*g q):=fun z hz=>by
 obtain ⟨q,hq,rfl⟩:=dJ.1 hz
 have h3:=Ke (h1 _ (dJ.2 ⟨q,hq,rfl⟩)) (h2 _ (dJ.2 ⟨q,hq,rfl⟩))
 rw [show 4+4=8 from rfl] at h3
 exact h3
theorem Pg {xs ys:List Int} {n:Nat} (hxf:∀ x∈xs,-9223372036854775808≤x∧x≤9223372036854775807) (hyf:∀ x∈ys,-9223372036854775808≤x∧x≤9223372036854775807) (hl:xs.length≤15):Below 8 (vN xs ys n xs.length):=fun z hz=>by
 obtain ⟨k,hk,rfl⟩:=fL.1 hz
 have h1:=Gp (n:=n) (Cx hxf) (Cx hyf) xs.length (aH _) k
 rw [aA hk] at h1
 have h2:xs.length*(9223372036854775808*9223372036854775808)≤15*(9223372036854775808*9223372036854775808):=gV _ sE
 have h3:(15*(9223372036854775808*9223372036854775808):Nat)<4294967296 ^ 8:=sN
 have h4:((vN xs ys n xs.length)[k]).natAbs≤xs.length*(9223372036854775808*9223372036854775808):=h1
 unfold pb
 omega
section
attribute [local irreducible] sI pb tY tF p2 cst wA xH sH tP vN ev sU tL uE tQ
theorem c37 (G:Imm) (k1 k2:Int) (pa:Option Addr) (pc:Nat) (l:List R2) (x y z:PV) (xac xao yac yao zac zao:Option Addr) (xcc xoc ycc yoc zcc zoc:Nat) (xs ys:List Int) (a b:Option Addr) (ca cb:Nat) (la lb:List IV) (hxc:Arr G xac x.code) (hxo:Arr G xao x.outs) (hyc:Arr G yac y.code) (hyo:Arr G yao y.outs) (hzc:Arr G zac z.code) (hzo:Arr G zao z.outs) (ha:Arr G a la) (hA:Bigs G la xs) (hb:Arr G b lb) (hB:Bigs G lb ys) (hU:(tP (xs.length:Int) (ys.length:Int) l x y z).2=0) (hxf:∀ x∈xs,-9223372036854775808≤x∧x≤9223372036854775807) (hyf:∀ x∈ys,-9223372036854775808≤x∧x≤9223372036854775807) :
 Does Tryz.prog 37 [.agg #[.int .i64 k1,.int .i64 k2,.slice pa l.length pc,.int .i64 x.ins,.int .i64 x.regs,.slice xac x.code.length xcc,.slice xao x.outs.length xoc,.int .i64 y.ins,.int .i64 y.regs,.slice yac y.code.length ycc,.slice yao y.outs.length yoc,.int .i64 z.ins,.int .i64 z.regs,.slice zac z.code.length zcc,.slice zao z.outs.length zoc],.slice a la.length ca,.slice b lb.length cb] G [] (fun v G' Ho=>v=.bool (decide (1=1))∧Ho=[]):=by
 obtain ⟨hW,hRx,hEx,hRy,hEy,hRz,hIz⟩:=Cw hU
 obtain ⟨hsx,hsy,hsz⟩:=HZ hU
 obtain ⟨hP1,hP2,hn,hRL⟩:=vE hW
 have hl15:l.length≤15:=by have:=hP1.2;have:=hP2.2;omega
 have hxn1:1≤xs.length∧xs.length≤8:=by have:=hP1.1;have:=hP1.2;omega
 have hyn1:1≤ys.length∧ys.length≤8:=by have:=hP2.1;have:=hP2.2;omega
 have hix:x.ins=(xs.length:Int):=by unfold uE at hEx;exact hEx.1
 have hox:x.outs.length=l.length:=by unfold uE at hEx;exact hEx.2.1
 have hiy:y.ins=(ys.length:Int):=by unfold uE at hEy;exact hEy.1
 have hoy:y.outs.length=l.length:=by unfold uE at hEy;exact hEy.2.1
 have hiz:z.ins=(l.length:Int):=by unfold tQ at hIz;exact hIz.2.1
 have hoz:z.outs.length=l.length:=by unfold tQ at hIz;exact hIz.2.2.1
 have hbx:Below 4 (l.map fun q=>ev xs q.a q.b):=Zz hRL hxf sE
 have hby:Below 4 (l.map fun q=>ev ys q.a q.b):=Zz hRL hyf sE
 have e1:=hA.1
 have e2:=hB.1
 refine fK Tryz.func37 rfl Tryz.ntmps37 rfl fun w=>?_
 refine dZ 40 (Row 125 ([]:List IV) []) ?_
 refine aJ 2 [] ?_
 refine qM 41 rfl rfl rfl fun b1=>?_
 refine aL 6 [] ?_
 refine eG rfl (fU 41 T.agg26 rfl rfl rfl rfl) ?_
 refine aB 1 [] ?_
 refine bX 50 rfl (XH _ x xac xao a xcc xoc ca la xs _ 2 hxc hxo ha hA (NW hxf) sN hRx sE hsx) fun v1 G1 Ho1 hle1 hp=>?_
 obtain ⟨s1,r1,d1,rfl,hr1,hB1,hl1,rfl⟩:=hp
 replace hyc:=hyc.up hle1
 replace hyo:=hyo.up hle1
 replace hzc:=hzc.up hle1
 replace hzo:=hzo.up hle1
 replace ha:=ha.up hle1
 replace hA:=hA.up hle1
 replace hb:=hb.up hle1
 replace hB:=hB.up hle1
 refine aL 12 [] ?_
 refine eG rfl (fU 41 T.agg26 rfl rfl rfl rfl) ?_
 refine aB 1 [] ?_
 refine bX 50 rfl (XH _ y yac yao b ycc yoc cb lb ys _ 2 hyc hyo hb hB (NW hyf) sN hRy sE hsy) fun v2 G2 Ho2 hle2 hp=>?_
 obtain ⟨s2,r2,d2,rfl,hr2,hB2,hl2,rfl⟩:=hp
 replace hzc:=hzc.up hle2
 replace hzo:=hzo.up hle2
 replace ha:=ha.up hle2
 replace hA:=hA.up hle2
 replace hb:=hb.up hle2
 replace hB:=hB.up hle2
 replace hr1:=hr1.up hle2
 replace hB1:=hB1.up hle2
 refine aL 15 [] ?_
 refine mA 36 rfl tJ ?_
 refine aB 6 [] ?_
 refine mA 40 rfl tJ ?_
 refine aB 14 [41] ?_
 refine mA 48 rfl tJ ?_
 refine aZ 32 [41,0] ?_
 refine iZ (ι:=Nat×Imm×List IV×(Option Addr×Nat×List Value)) (fun (i,Gx,r,(o,dd,jk))=>([(58,.int .i64 (i:Int)),(13,.slice o r.length dd),(57,Go.Value.int Go.IntKind.i64 (↑(List.length r1):Int)),(10,Go.Value.slice s2 (List.length r2) d2),(7,Go.Value.slice s1 (List.length r1) d1),(6,Go.Value.bool Bool.false),(3,Go.Value.pointer (Option.some (Go.Addr.mk b1 0 Option.none))),(1,Go.Value.slice a (List.length la) ca),(2,Go.Value.slice b (List.length lb) cb)],[(41,some b1,.cells #[.int .i64 k1,.int .i64 k2,.slice pa l.length pc,.int .i64 x.ins,.int .i64 x.regs,.slice xac x.code.length xcc,.slice xao x.outs.length xoc,.int .i64 y.ins,.int .i64 y.regs,.slice yac y.code.length ycc,.slice yao y.outs.length yoc,.int .i64 z.ins,.int .i64 z.regs,.slice zac z.code.length zcc,.slice zao z.outs.length zoc] 28),(40,o.map (·.block),Row 125 r jk)])) (fun (i,Gx,r,(o,dd,jk))=>Gx) (fun (i,Gx,r,(o,dd,jk))=>i≤l.length∧G2.le Gx∧r.length=i∧Bigs Gx r ((l.map fun q=>ev xs q.a q.b*ev ys q.a q.b).take i)∧OwnA o dd r jk) (fun (i,Gx,r,(o,dd,jk))=>l.length - i) ((0,G2,[],(none,0,[]))) (⟨aM _,bK _,rfl,by rw [cM];exact Bigs.nil _,eD⟩) rfl ⟨rfl,rfl,rfl,rfl,rfl,rfl,rfl,rfl,rfl,trivial⟩ ⟨rfl,rfl,trivial⟩ fun ⟨i,Gx,r,(o,dd,jk)⟩=>fun hk=>?_
 obtain ⟨hi,hgx,hri,hbs,hob⟩:=hk
 replace hzc:=hzc.up hgx
 replace hzo:=hzo.up hgx
 replace ha:=ha.up hgx
 replace hA:=hA.up hgx
 replace hb:=hb.up hgx
 replace hB:=hB.up hgx
 replace hr1:=hr1.up hgx
 replace hB1:=hB1.up hgx
 replace hr2:=hr2.up hgx
 replace hB2:=hB2.up hgx
 rcases aK i l.length with hil | hil
 · have hx9:=hB1.at (k:=(i:Int)) sE
   have hy9:=hB2.at (k:=(i:Int)) sE
   have hxn:=aV (gJ hx9 (hbx.at _)) (show 4≤536870912 by decide)
   have hyn:=aV (gJ hy9 (hby.at _)) (show 4≤536870912 by decide)
   refine bJ 17 [1] ?_
   refine gQ [40,41] [(40,11)] T.mixed rfl ?_
   refine gO 0 [] [] ?_
   refine gO 1 [] [] ?_
   refine gO 2 [] [] ?_
   refine dN 3 [] rfl (jA (α:=IV) T.sl68 rfl rfl sF sE) ?_
   refine dN 4 [] rfl (gZ T.agg125 rfl (jY sF sE) rfl) ?_
   refine gO 5 [] [] ?_
   refine gO 6 [] [] ?_
   refine dN 7 [] rfl (jA (α:=IV) T.sl68 rfl rfl sF sE) ?_
   refine dN 8 [] rfl (gZ T.agg125 rfl (jY sF sE) rfl) ?_
   refine bV 9 ?_
   refine bX 42 rfl (WL _ _ _ _ _ sF sF hxn hyn) fun v3 G3 Ho3 hle3 hp=>?_
   obtain ⟨rm3,rfl,hrm3,rfl⟩:=hp
   replace hbs:=hbs.up hle3
   replace hzc:=hzc.up hle3
   replace hzo:=hzo.up hle3
   replace ha:=ha.up hle3
   replace hA:=hA.up hle3
   replace hb:=hb.up hle3
   replace hB:=hB.up hle3
   replace hr1:=hr1.up hle3
   replace hB1:=hB1.up hle3
   replace hr2:=hr2.up hle3
   replace hB2:=hB2.up hle3
   replace hx9:=hx9.up hle3
   replace hy9:=hy9.up hle3
   refine bD ?_
   refine bV 10 ?_
   refine dY (α:=IV) 42 [(rm3)] rfl T.sl68 T.el125 rfl rfl rfl rfl rfl fun b2=>?_
   refine bD ?_
   refine bV 11 ?_
   refine gM (α:=IV) 40 rfl T.sl68 T.el125 rfl rfl rfl Ff (fE 42 rfl) xF xF fun a1 c1 junk1 ho1=>?_
   refine bD ?_
   refine gO 12 [] [] ?_
   refine cZ ?_
   refine dX 6 [] ?_
   refine fR ((i+1,G3,r++[rm3],(a1,c1,junk1))) ?_ ?_ rfl ⟨rfl,rfl,rfl,rfl,rfl,rfl,rfl,rfl,rfl,trivial⟩ ⟨rfl,rfl,trivial⟩
   · refine ⟨by omega,aQ hgx hle3,by rw [aC,hri];rfl,?_,ho1⟩
     rw [TL l (fun q=>ev xs q.a q.b) (fun q=>ev ys q.a q.b) hil]
     rw [aE] at hrm3
     exact Bigs.snoc hbs hrm3
   show l.length - (i+1)<l.length - i
   omega
 have hii:i=r1.length:=sE
 subst hii
 rw [dL Lk] at hbs
 refine aJ 15 [0] ?_
 refine eG rfl (fU 41 T.agg26 rfl rfl rfl rfl) ?_
 refine aB 1 [] ?_
 refine gB 40 rfl hob fun G9 hle9 hAp=>?_
 replace hzc:=hzc.up hle9
 replace hzo:=hzo.up hle9
 replace ha:=ha.up hle9
 replace hA:=hA.up hle9
 replace hb:=hb.up hle9
 replace hB:=hB.up hle9
 replace hbs:=hbs.up hle9
 refine bX 50 rfl (XH _ z zac zao o zcc zoc dd r _ _ 8 hzc hzo hAp hbs (CY hbx hby) sN hRz sE hsz) fun v3 G10 Ho3 hle10 hp=>?_
 obtain ⟨s3,r3,d3,rfl,hr3,hB3,hl3,rfl⟩:=hp
 replace ha:=ha.up hle10
 replace hA:=hA.up hle10
 replace hb:=hb.up hle10
 replace hB:=hB.up hle10
 refine aL 14 [] ?_
 refine mE 84 rfl tJ ?_
 refine aB 7 [] ?_
 refine bX 50 rfl (c77 _ a b ca cb la lb xs ys l.length ha hb hA hB sE sE sE hl15 hxf hyf) fun v4 G11 Ho4 hle11 hp=>?_
 obtain ⟨s4,d4,r4,rfl,hr4,hB4,rfl⟩:=hp
 replace hr3:=hr3.up hle11
 replace hB3:=hB3.up hle11
 have hl4:=hB4.1
 rw [Cv] at hl4
 refine aB 1 [] ?_
 refine bX 50 rfl (c76 _ s3 s4 d3 d4 r3 r4 _ _ hr3 hr4 hB3 hB4 sE sE 8 sN (Pg hxf hyf sE) (Pg hxf hyf sE)) fun v5 G12 Ho5 hle12 hp=>?_
 obtain ⟨rfl,rfl,rfl⟩:=hp
 refine aR 5 [] ?_
 refine cK (.inr rfl) (Ho:=[]) rfl (.tmp rfl) trivial ?_
 exact ⟨by simp,rfl⟩
end
end Go.Proofs.YtfdcckcadfhpeaaGreatDoor
namespace Go.Sl
open Go
section
variable {P:Program} {B:Bs} {e:Env} {D:List Deferred} {H H':Hp} {G:Imm}
theorem HoldH.ren {w:World} (hh:HoldH H G w) (σ:Nat→Nat) (hσ:∀ t x,H'.get t=some x→H.get (σ t)=some x) (hi:∀ t t' x y,H'.get t=some x→H'.get t'=some y→σ t=σ t'→t=t'):HoldH H' G w:=
 ⟨fun t b o x=>hh.own _ b o (hσ _ _ x),fun t t' b o o' x y=>hi t t' _ _ x y (hh.one _ _ b _ _ (hσ _ _ x) (hσ _ _ y)),hh.imm,fun t b o x=>hh.off _ b o (hσ _ _ x)⟩
theorem Hold.ren {a:Act} {w:World} (hh:Hold B ⟨e,D,H,G⟩ a w) (σ:Nat→Nat) (hσ:∀ t x,H'.get t=some x→H.get (σ t)=some x) (hi:∀ t t' x y,H'.get t=some x→H'.get t'=some y→σ t=σ t'→t=t'):Hold B ⟨e,D,H',G⟩ a w:=
 ⟨hh.size,hh.defers,hh.env,hh.mem.ren σ hσ hi,hh.upd,fun t b o x=>hh.mine _ b o (hσ _ _ x),hh.le,hh.new⟩
end
abbrev Hp.two (x y:Option Nat×Obj) (T:Hp):Hp:=(0,x) :: (1,y) :: T.shift 2
theorem Gs (x y:Option Nat×Obj) (T:Hp) (t:Nat):(Hp.two x y T).get t=if t=0 then some x else if t=1 then some y else T.get (t - 2):=by
 unfold Hp.two
 rw [bH]
 by_cases h0:0=t
 · subst h0;rw [aF rfl,aF rfl]
 rw [aD h0,aD (lE h0),bH]
 by_cases h1:1=t
 · subst h1;rw [aF rfl,aF rfl]
 rw [aD h1,aD (lE h1),gC,aF (by omega)]
section
variable {P:Program} {ops:Array Oper} {rest:List Oper} {B:Bs} {e:Env} {D:List Deferred} {H:Hp} {G:Imm} {K:Act→World→Prop}
 {ty:TypeId} {pos:String} {after:Array Edge} {d:Nat}
theorem Kr {g:Operand} {l:Nat} {xs:Array Operand} {ats:Array TypeId} {vs:List Value} {A Hi:Hp} {x1 x2:Option Nat×Obj} {post:Value→Imm→Hp→Prop} (k r1 r2:Nat)
 (hn:Nat.ble (d+1) B.n=true) (hg:e.ev g=some (.func (.yield l) #[] #[])) (hx:e.evs xs.toList=some vs) (h1:H.get r1=some x1) (h2:H.get r2=some x2) (hr:(Nat.ble (r1+1) k && Nat.ble (r2+1) k && !Nat.beq r1 r2)=true)
 (hH:H.sub A) (hA1:A.get r1=none) (hA2:A.get r2=none) (ht:H.tl k Hi) (hA:Al k A=true)
 (hF:YieldDoes P l vs G (Hp.two x1 x2 Hi) post) (h:∀ v G' Ho,G.le G'→post v G' Ho→Wl P ops rest B ⟨(d,v) :: e,D,A++Ho.shift k,G'⟩ K) :
 Wl P ops (⟨some d,.call { callee:=.value g,args:=xs,argTypes:=ats },ty,pos,after,none⟩ :: rest) B ⟨e,D,H,G⟩ K:=by
 simp only [aU,rR] at hr
 have hr1:=dD hr.1.1
 have hr2:=dD hr.1.2
 have hr3:r1≠r2:=fun q=>by subst q;have:=hr.2;simp at this
 intro a w hh
 refine Wl.yield (H:=A++(Hp.two x1 x2 Hi).shift k) k hn hg hx rfl hA hF h a w (hh.ren (fun t=>if t<k then t else if t=k then r1 else if t=k+1 then r2 else t - 2) (fun t x hx=>?_) (fun t t' x y hx hy he=>?_))
 · rw [fD] at hx
   by_cases htk:t<k
   · simp only [aF htk]
     rw [gC,aD (by omega),Option.or_none] at hx
     exact kW hH t x hx
   rw [qB hA t sE,iK,gC,aF (by omega),Gs] at hx
   simp only [aD htk]
   by_cases h0:t=k
   · rw [aF (by omega)] at hx;rw [aF h0,←hx];exact h1
   rw [aD (by omega)] at hx;rw [aD h0]
   by_cases h9:t=k+1
   · rw [aF (by omega)] at hx;rw [aF h9,←hx];exact h2
   rw [aD (by omega)] at hx;rw [aD h9]
   refine ht _ _ ?_
   rw [gC,aF (by omega),←hx]
   congr 1;omega
 have hlow:∀ u z,u<k→Hp.get (A++(Hp.two x1 x2 Hi).shift k) u=some z→u≠r1∧u≠r2:=fun u z hu hz=>by
  rw [fD,gC,aD (by omega),Option.or_none] at hz
  exact ⟨fun q=>by (subst q;rw [hA1] at hz;cases hz),fun q=>by (subst q;rw [hA2] at hz;cases hz)⟩
 have q1:=hlow t x
 have q2:=hlow t' y
 by_cases c1:t<k
 · have p1:=q1 c1 hx
   by_cases c2:t'<k
   · simpa [c1,c2] using he
   simp only [aF c1,aD c2] at he
   split at he <;> rename_i c3
   · omega
   split at he <;> omega
 by_cases c2:t'<k
 · have p2:=q2 c2 hy
   simp only [aD c1,aF c2] at he
   split at he <;> rename_i c3
   · omega
   split at he <;> omega
 simp only [aD c1,aD c2] at he
 split at he <;> rename_i c3
 · split at he <;> rename_i c4
   · omega
   split at he <;> omega
 split at he <;> rename_i c4
 · split at he <;> rename_i c5
   · omega
   split at he <;> omega
 split at he <;> rename_i c5
 · omega
 split at he <;> omega
end
section
variable {P:Program} {B:Bs} {e:Env} {D:List Deferred} {H:Hp} {G:Imm}
theorem Tb {ι:Type} {r:Option Nat} {c:Code} {Q:Exit→Act→World→Prop} (k:Nat) (I:ι→Env×Hp) (T:ι→Hp) (g:ι→Imm) (φ:ι→Prop) (μ:ι→Nat) (i0:ι) (h0:φ i0) (hg:G=g i0)
 (he:e.sub (I i0).1) (hH:H.sub (I i0).2) (ht:H.tl k (T i0))
 (hb:∀ i,φ i→Wc r P c B ⟨(I i).1,D,(I i).2++(T i).shift k,g i⟩ (Exit.then (Dh B (fun i=>⟨(I i).1,D,(I i).2++(T i).shift k,g i⟩) φ μ (μ i)) Q)):Wc r P (.loop c) B ⟨e,D,H,G⟩ Q:=
 Hl (fun i=>⟨(I i).1,D,(I i).2++(T i).shift k,g i⟩) φ μ i0 h0 (fun _ _ h=>by rw [hg] at h;exact h.cutT he hH ht) hb
theorem Gt {ι:Type} {I:ι→Env×Hp} {T:ι→Hp} {g:ι→Imm} {k:Nat} {φ:ι→Prop} {μ:ι→Nat} {m:Nat} {Q:Exit→Act→World→Prop} (j:ι) (hφ:φ j) (hμ:μ j<m) (hg:G=g j)
 (he:e.sub (I j).1) (hH:H.sub (I j).2) (ht:H.tl k (T j)):Ar (Exit.then (Dh B (fun i=>⟨(I i).1,D,(I i).2++(T i).shift k,g i⟩) φ μ m) Q) .normal B ⟨e,D,H,G⟩:=
 fun a w hh=>⟨j,hφ,hμ,by rw [hg] at hh;exact hh.cutT he hH ht⟩
end
def Tc {β γ:Type} (P:Program) (f:FuncId) (caps:List Value) (G:Imm) (enc:β→γ→List Value) (o1 o2:β→γ→Option Nat×Obj) (good:β→γ→Prop) (xs:List β):Prop:=
 ∀ (ι:Type) (J:ι→Hp) (inv:Nat→ι→Prop) (stop:ι→Prop) (l:Nat) (i0:ι),inv 0 i0→
  (∀ k x y i,xs[k]?=some x→good x y→inv k i→YieldDoes P l (enc x y) G (Hp.two (o1 x y) (o2 x y) (J i)) (fun v G' Ho=>G'=G∧∃ j,Ho=J j∧((v=.bool true∧inv (k+1) j)∨(v=.bool false∧stop j))))→
  Does P f (.func (.yield l) #[] #[] :: caps) G (J i0) (fun v G' Ho=>G'=G∧∃ j,Ho=J j∧(inv xs.length j∨stop j))
section stmt
variable {P:Program} {B:Bs} {e:Env} {D:List Deferred} {H:Hp} {G:Imm}
variable {β γ ι:Type} {Q:Exit→Act→World→Prop} {f:FuncId} {caps:List Value} {enc:β→γ→List Value} {o1 o2:β→γ→Option Nat×Obj} {good:β→γ→Prop} {xs:List β} {ps:List Nat} {assign body:Code} {g:Operand}
theorem Fw (tl td u1 u2:Nat) (I:ι→Hp) (inv:Nat→ι→Prop) (stop:Code→ι→Prop) (i0:ι) (hg:e.ev g=some (.func (.func f) #[] caps.toArray)) (hf:tH P f)
 (hps:∀ x y,(enc x y).length=ps.length) (hpb:ps.all (fun t=>Nat.ble (t+1) B.n)=true) (hit:Tc P f caps G enc o1 o2 good xs) (h0:inv 0 i0) (hH:∀ t x,(I i0).get t=some x→H.get t=some x)
 (htl:Nat.beq tl td=false∧∀ i,(I i).get tl=none) (hu:Nat.beq u1 u2=false)
 (hround:∀ k x y i l dd q w0,xs[k]?=some x→good x y→inv k i→Wc (some l) P assign ⟨B.n,w0,(Hp.two (o1 x y) (o2 x y) (RJ tl td q l dd (I i) none)).has,G⟩ ⟨Env.ps ps (enc x y) e,[],(u1,o1 x y) :: (u2,o2 x y) :: RJ tl td q l dd (I i) none,G⟩
  (Np P l body (DoesPost G (Hp.two (o1 x y) (o2 x y) (RJ tl td q l dd (I i) none)) w0 (fun v G' Ho=>G'=G∧∃ j:ι×Option Code,Ho=RJ tl td q l dd (I j.1) j.2∧((v=.bool true∧j.2=none∧inv (k+1) j.1)∨(v=.bool false∧∃ c,j.2=some c∧stop c j.1))))))
 (hdone:∀ j dd,inv xs.length j→Ar Q .normal B ⟨e,mark dd :: D,(td,some dd,.deferred (some [])) :: I j,G⟩)
 (hstop:∀ j dd c,stop c j→Wc none P c B ⟨e,mark dd :: D,(td,some dd,.deferred (some [])) :: I j,G⟩ Q) :
 Wc none P (.rangeFunc g ps.toArray assign body) B ⟨e,D,H,G⟩ Q:=by
 intro a w hh
 refine wpIn_rangeFunc fun fn _=>?_
 obtain ⟨q,hq⟩:∃ q:Loop,q={ state:=.ready,pending:=none,fn,tmps:=a.tmps,params:=ps.toArray,assign,body,defers:=w.heap.size }:=⟨_,rfl⟩
 obtain ⟨fnn,hf1,hf2,hf3⟩:=hf
 obtain ⟨ht3,htI⟩:=htl
 have hne:tl≠td:=fun h=>by subst h;simp at ht3
 have hune:u1≠u2:=fun h=>by subst h;simp at hu
 have hA:=hh.alloc td (.deferred (some []))
 have hB:=hA.alloc tl (lrec q .ready none)
 rw [World.size_alloc] at hB
 refine ⟨w.heap.size+1,[mark w.heap.size],(w.alloc (.deferred (some []))).alloc (lrec q .ready none),{ target:=.fn (.func f) caps.toArray,args:=#[.func (.yield (w.heap.size+1)) #[] #[]] },(w.alloc (.deferred (some []))).alloc (lrec q .ready none),f,
  (.func (.yield (w.heap.size+1)) #[] #[] :: caps).toArray,(w.alloc (.deferred (some []))).alloc (lrec q .ready none),?_,?_,?_,?_,fun h=>by simp [FF] at h,?_⟩
 · have:=run_enterLoop_outer (P:=P) (w:=w) fn a.tmps ps.toArray assign body
   rw [hq];exact this
 · have hev:Act.eval a g=.func (.func f) #[] caps.toArray:=hh.eval hg
   simp only [resolve,hev]
   simp [go_sem]
 · intro f' hf';trivial
 · simp [invoke,zT _ _ hf1 hf2 hf3]
 have hB':Hold B ⟨e,D,RJ tl td q (w.heap.size+1) w.heap.size (I i0) none,G⟩ a ((w.alloc (.deferred (some []))).alloc (lrec q .ready none)):=by
  refine hB.weaken (fun _ _ h=>h) fun t x hx=>?_
  rw [bH] at hx ⊢
  split at hx <;> rename_i h1
  · rw [aF h1];exact hx
  rw [aD h1]
  rw [bH] at hx ⊢
  split at hx <;> rename_i h2
  · rw [aF h2];exact hx
  rw [aD h2];exact hH t x hx
 have hC:=hit (ι×Option Code) (fun s=>RJ tl td q (w.heap.size+1) w.heap.size (I s.1) s.2) (fun k j=>j.2=none∧inv k j.1) (fun j=>∃ c,j.2=some c∧stop c j.1) (w.heap.size+1) (i0,none) ⟨rfl,h0⟩ (fun k x y i hx hgd hi=>?_)
 · refine Af.2 ((hC _ hB'.mem).mono fun ex w' ⟨v,G',Ho,h1,h2,h3,h4,h5,h6,h7,j,h8,h9⟩=>?_)
   subst h1 h7
   have hcl:=hB'.called 0 (Hi:=RJ tl td q (w.heap.size+1) w.heap.size (I i0) none) (fun t x hx=>by rw [dC];exact hx) h2 h3 h4 h5 h6
   have hD:Hold B ⟨e,D,Ho,G'⟩ a w':=hcl.weaken (fun _ _ h=>h) (fun t x hx=>by
    rw [fD,gC,aF (aM _),mV,hx];rfl)
   rw [h8] at hD
   obtain ⟨ji,jp⟩:=j
   have hget:Hp.get (RJ tl td q (w.heap.size+1) w.heap.size (I ji) jp) tl=some (some (w.heap.size+1),lrec q (YF jp) jp):=by
    rw [bH,aF rfl]
   have hbk:=hD.mem.own tl _ _ hget
   have hlt:=(eY.1 hbk).1
   have hE:=hD.set hget (o':=lrec q .exhausted jp) (Am w' _ _) (kR hlt)
   have hF:Hold B ⟨e,D,(td,some w.heap.size,.deferred (some [])) :: I ji,G'⟩ a (w'.putObj (w.heap.size+1) (lrec q .exhausted jp)):=by
    refine hE.weaken (fun _ _ h=>h) fun t x hx=>?_
    rw [bH] at hx ⊢
    have htn:tl≠t:=fun h=>by
     subst h
     rw [aD (lE hne)] at hx
     have:=htI ji
     rw [hx] at this;cases this
    rw [aD htn]
    rw [bH,aD htn,bH]
    exact hx
   have hG:Hold B ⟨e,mark w.heap.size :: D,(td,some w.heap.size,.deferred (some [])) :: I ji,G'⟩ { a with defers:=[mark w.heap.size]++a.defers } (w'.putObj (w.heap.size+1) (lrec q .exhausted jp)):=
    ⟨hF.size,by show [mark w.heap.size]++a.defers=_;rw [hF.defers];rfl,hF.env,hF.mem,hF.upd,hF.mine,hF.le,hF.new⟩
   have hend:(Instr.endLoop (w.heap.size+1)).run P w'=.ok jp (w'.putObj (w.heap.size+1) (lrec q .exhausted jp)):=run_endLoop hbk (by cases jp <;> simp [YF])
   refine ⟨jp,_,hend,?_⟩
   rcases h9 with ⟨hj,hi⟩ | ⟨c,hj,hs⟩
   · have hj':jp=none:=hj
     subst hj'
     exact hdone ji _ hi _ _ hG
   have hj':jp=some c:=hj
   subst hj'
   exact hstop ji _ c hs _ _ hG
 obtain ⟨i,ip⟩:=i
 obtain ⟨hip,hi⟩:=hi
 have hip':ip=none:=hip
 subst hip'
 intro w2 hw2
 have hl2:w2.heap[w.heap.size+1]?=some (lrec q .ready none):=hw2.own (tl+2) _ _ (by rw [Gs,aD (by omega),aD (by omega),jJ,bH,aF rfl];rfl)
 have hq2:q.params=ps.toArray∧q.tmps=a.tmps∧q.assign=assign∧q.body=body:=by rw [hq];exact ⟨rfl,rfl,rfl,rfl⟩
 have hy:=run_yield (P:=P) (args:=(enc x y).toArray) hl2 (by show _=q.params.size;rw [hq2.1];simp [hps x y])
 refine ⟨_,_,_,_,hy,roundIn_of_wpIn (F:=Fence.wide) (n:=0) trivial ?_⟩
 have hz:=Dr ps (enc x y) e a.tmps hh.size hh.env hpb
 have hr:=hround k x y i (w.heap.size+1) w.heap.size q w2 hx hgd hi
 have hhold0:Hold ⟨B.n,w2,(Hp.two (o1 x y) (o2 x y) (RJ tl td q (w.heap.size+1) w.heap.size (I i) none)).has,G⟩ ⟨Env.ps ps (enc x y) e,[],Hp.two (o1 x y) (o2 x y) (RJ tl td q (w.heap.size+1) w.heap.size (I i) none),G⟩
  { tmps:=(q.params.zip (enc x y).toArray).foldl (fun tmps (t,a)=>tmps.setIfInBounds t a) q.tmps,defers:=[] } w2:=by
  refine ⟨?_,rfl,?_,hw2,mI _ _,fun t b o hx=>.inr ⟨t,o,hx⟩,bK _,fun b h1 h2=>(h1 h2).elim⟩
  · show ((q.params.zip (enc x y).toArray).foldl _ q.tmps).size=B.n
    rw [hq2.1,hq2.2.1]
    have:=hz.1
    simpa using this
  intro i v hv
  show ((q.params.zip (enc x y).toArray).foldl _ q.tmps)[i]?=some v
  rw [hq2.1,hq2.2.1]
  have:=hz.2 i v hv
  simpa using this
 have hhold:=hhold0.ren (H':=(u1,o1 x y) :: (u2,o2 x y) :: RJ tl td q (w.heap.size+1) w.heap.size (I i) none) (fun t=>if t=u1 then 0 else if t=u2 then 1 else t+2) (fun t z hz=>by
  rw [Gs]
  rw [bH] at hz
  by_cases c1:t=u1
  · rw [aF c1.symm] at hz;rw [aF c1,aF rfl];exact hz
  rw [aD (lE c1),bH] at hz
  by_cases c2:t=u2
  · rw [aF c2.symm] at hz;rw [aD c1,aF c2,aD (by decide),aF rfl];exact hz
  rw [aD (lE c2)] at hz
  rw [aD c1,aD c2,aD (by omega),aD (by omega),jJ];exact hz) (fun t t' z z' _ _ he=>by
  by_cases c1:t=u1
  · rw [aF c1] at he
    by_cases c2:t'=u1
    · omega
    rw [aD c2] at he
    split at he <;> omega
  rw [aD c1] at he
  by_cases c2:t'=u1
  · rw [aF c2] at he
    split at he <;> omega
  rw [aD c2] at he
  split at he <;> split at he <;> omega)
 have h:=hr _ w2 hhold
 show q.assign.wpIn (FF (some (w.heap.size+1))) 0 P (Np P (w.heap.size+1) q.body _) _ _
 rw [hq2.2.2.1,hq2.2.2.2]
 exact h
end stmt
section
variable {P:Program} {e:Env} {H:Hp} {G:Imm} {ty:TypeId}
end
end Go.Sl
namespace Go.Proofs.YtfdcckcadfhpeaaGreatDoor
open Go Go.Sl
theorem Ks (G:Imm) (b:Nat) (n m:Int) (sv wv:Value) (hn:0≤n∧n≤1000) (hm:0≤m∧m≤1000) :
 Does Tryz.prog 196 [.pointer (some ⟨b,0,none⟩),.int .i64 m] G [(0,some b,.cells #[.int .i64 n,sv,wv] 267)] (fun v G' Ho=>v=.int .i64 (n+m)∧G'=G∧Ho=[(0,some b,.cells #[.int .i64 n,sv,wv] 267)]):=by
 refine D0 Tryz.func196 Tryz.ntmps196 fun w=>?_
 refine bE 17 [0] ?_
 refine cK (.inr rfl) (Ho:=[(0,some b,.cells #[.int .i64 n,sv,wv] 267)]) rfl (.tmp rfl) ⟨rfl,trivial⟩ ?_
 exact ⟨rfl,rfl,rfl⟩
theorem Kt (G:Imm) (b:Nat) (n m:Int) (sv wv:Value) (hn:0≤n∧n≤1000) (hm:0≤m∧m≤1000) :
 Does Tryz.prog 233 [.pointer (some ⟨b,0,none⟩),.int .i64 m] G [(0,some b,.cells #[.int .i64 n,sv,wv] 267)] (fun v G' Ho=>v=.int .i64 (2*n+m)∧G'=G∧Ho=[(0,some b,.cells #[.int .i64 n,sv,wv] 267)]):=by
 refine D0 Tryz.func233 Tryz.ntmps233 fun w=>?_
 refine aJ 11 [0] ?_
 refine aO (lM rfl rfl sE) ?_
 refine aR 6 [] ?_
 refine cK (.inr rfl) (Ho:=[(0,some b,.cells #[.int .i64 n,sv,wv] 267)]) rfl (.tmp rfl) ⟨rfl,trivial⟩ ?_
 exact ⟨rfl,rfl,rfl⟩
theorem AA (G:Imm) (b:Nat) (n:Int) (sv wv:Value) (hn:0≤n∧n≤1000) :
 Does Tryz.prog 231 [.pointer (some ⟨b,0,none⟩)] G [(0,some b,.cells #[.int .i64 n,sv,wv] 267)] (fun v G' Ho=>v=.int .i64 (3*n)∧G'=G∧Ho=[(0,some b,.cells #[.int .i64 n,sv,wv] 267)]):=by
 refine D0 Tryz.func231 Tryz.ntmps231 fun w=>?_
 refine aJ 11 [0] ?_
 refine aO (lM rfl rfl sE) ?_
 refine aR 4 [] ?_
 refine cK (.inr rfl) (Ho:=[(0,some b,.cells #[.int .i64 n,sv,wv] 267)]) rfl (.tmp rfl) ⟨rfl,trivial⟩ ?_
 exact ⟨rfl,rfl,rfl⟩
theorem gu (G:Imm) (b:Nat) (n:Int) (ac:Option Addr) (cc:Nat) (code:List Sl.Instr) (j:List Value) (wa:Option Addr) (wn wc:Nat) (to x c:Int) (e:Nat) (ho:OwnA ac cc code j) (hl:(code++zV to x c e).length≤1048576) (hc:-512≤c∧c≤512) (he:e≤1000) :
 Does Tryz.prog 230 [.pointer (some ⟨b,0,none⟩),.int .i64 to,.int .i64 x,.int .i64 c,.int .i64 e] G [(0,some b,.cells #[.int .i64 n,.slice ac code.length cc,.slice wa wn wc] 267),(1,ac.map (·.block),Row 91 code j)]
  (fun v G' Ho=>v=.tuple #[]∧G'=G∧∃ (a':Option Addr) (c':Nat) (j':List Value),OwnA a' c' (code++zV to x c e) j'∧Ho=[(0,some b,.cells #[.int .i64 n,.slice a' (code++zV to x c e).length c',.slice wa wn wc] 267),(1,a'.map (·.block),Row 91 (code++zV to x c e) j')]):=by
 have hl0:code.length≤1048576:=by rw [aC] at hl;omega
 refine D0 Tryz.func230 Tryz.ntmps230 fun w=>?_
 refine aJ 6 [] ?_
 apply bW 3 14 17 rfl
 intro hg1
 refine aB 5 [] ?_
 exact dA 3 0
 intro hg1
 refine aB 3 [] ?_
 exact dA 3 0
 refine aB 1 [] ?_
 apply dP 3 18 21 rfl
 intro hg1
 refine aB 5 [] ?_
 exact dA 3 0
 intro hg1
 refine aB 3 [] ?_
 exact dA 3 0
 refine aB 1 [] ?_
 apply dP 3 22 25 rfl
 intro hg1
 refine aB 5 [] ?_
 exact dA 3 0
 intro hg1
 refine aB 3 [] ?_
 exact dA 3 0
 refine aZ 2 [] ?_
 refine cT (fun hc1=>?_) fun hc1=>?_
 refine aJ 6 [] ?_
 apply bW 4 28 32 rfl
 intro hg1
 refine aB 3 [] ?_
 refine aO (mU rfl rfl sE) ?_
 refine aB 3 [] ?_
 exact dA 4 0
 intro hg1
 refine aB 4 [] ?_
 exact dA 4 0
 refine aZ 2 [] ?_
 refine cT (fun hc2=>?_) fun hc2=>?_
 refine aJ 10 [] ?_
 refine eK 0 rfl T.fn195 rfl (Fh _ b n ac cc code j wa wn wc _ _ _ ho hl0) (sJ ⟨rfl,rfl,trivial⟩) fun v1 G1 Ho1 hle1 hp=>?_
 obtain ⟨rfl,rfl,a1,d1,j1,ho1,rfl⟩:=hp
 refine aR 4 [] ?_
 rotate_left
 refine aJ 8 [] ?_
 refine eK 0 rfl T.fn195 rfl (Fh _ b n ac cc code j wa wn wc _ _ _ ho hl0) (sJ ⟨rfl,rfl,trivial⟩) fun v1 G1 Ho1 hle1 hp=>?_
 obtain ⟨rfl,rfl,a1,d1,j1,ho1,rfl⟩:=hp
 refine aR 4 [] ?_
 rotate_left
 refine bJ 17 [] ?_
 rotate_left
 · have e1:zV to x c e=sM to x 1:=by unfold zV;rw [aF (by omega),aF (by omega)]
   rw [e1]
   refine jZ yZ (Ho:=[(0,some b,.cells #[.int .i64 n,.slice a1 (code++sM to x 1).length d1,.slice wa wn wc] 267),(1,a1.map (·.block),Row 91 (code++sM to x 1) j1)]) rfl ⟨rfl,rfl,trivial⟩ ?_
   exact ⟨rfl,rfl,a1,d1,j1,ho1,rfl⟩
 · have e1:zV to x c e=sM to x c:=by unfold zV;rw [aF (by omega),aD (by omega)]
   rw [e1]
   refine jZ yZ (Ho:=[(0,some b,.cells #[.int .i64 n,.slice a1 (code++sM to x c).length d1,.slice wa wn wc] 267),(1,a1.map (·.block),Row 91 (code++sM to x c) j1)]) rfl ⟨rfl,rfl,trivial⟩ ?_
   exact ⟨rfl,rfl,a1,d1,j1,ho1,rfl⟩
 have hT0:code++Ol to c x 1 e=code++zV to x c e:=by unfold zV;rw [aD (by omega)]
 generalize code++zV to x c e=Tg at *
 refine gL (ι:=Nat×Int×Int×List Sl.Instr×(Option Addr×Nat×List Value)) (fun (t,fr,k,cd,(o,d,q))=>([(40,.int .i64 (t:Int)),(11,.int .i64 k),(10,.int .i64 fr),(39,Go.Value.int Go.IntKind.i64 (↑e:Int)),(0,Go.Value.pointer (Option.some (Go.Addr.mk b 0 Option.none))),(1,Go.Value.int Go.IntKind.i64 to),(3,Go.Value.int Go.IntKind.i64 c)],[(0,some b,.cells #[.int .i64 n,.slice o cd.length d,.slice wa wn wc] 267),(1,o.map (·.block),Row 91 cd q)])) (fun (t,fr,k,cd,(o,d,q))=>t≤e∧(-512≤k∧k≤512)∧cd++Ol to c fr k (e - t)=Tg∧OwnA o d cd q) (fun (t,fr,k,cd,(o,d,q))=>e - t) ((0,x,1,code,(ac,cc,j))) (⟨aM _,by omega,hT0,ho⟩) ⟨rfl,rfl,rfl,rfl,rfl,rfl,rfl,trivial⟩ ⟨rfl,rfl,trivial⟩ fun ⟨t,fr,k,cd,(o,d,q)⟩=>fun hk=>?_
 obtain ⟨ht1,ht2,ht3,ht4⟩:=hk
 have htl:cd.length≤1048576:=by rw [←ht3,aC] at hl;omega
 have hkc:(k*c).natAbs≤512*512:=by rw [eX];exact fQ sE sE
 have hkc2:-9223372036854775808≤k*c∧k*c≤9223372036854775807:=sE
 have hkc3:-9223372036854775808≤1*c∧1*c≤9223372036854775807:=sE
 rcases aK t e with hte | hte
 · have e2:e - t=(e - (t+1))+1:=sE
   rw [e2] at ht3
   unfold Ol at ht3
   refine aJ 16 [1] ?_
   refine aO (lM rfl rfl sE) ?_
   refine aB 2 [] ?_
   apply dP 5 46 51 rfl
   intro hg1
   refine aB 5 [] ?_
   refine aO (lM rfl rfl sE) ?_
   refine aB 3 [] ?_
   exact dA 5 0
   intro hg1
   refine aB 5 [] ?_
   exact dA 5 0
   refine aZ 2 [] ?_
   refine cT (fun hc2=>?_) fun hc2=>?_
   refine aJ 6 [] ?_
   refine eK 0 rfl T.fn195 rfl (Fh _ b n o d cd q wa wn wc _ _ _ ht4 htl) (sJ ⟨rfl,rfl,trivial⟩) fun v1 G1 Ho1 hle1 hp=>?_
   obtain ⟨rfl,rfl,a1,d1,j1,ho1,rfl⟩:=hp
   refine aL 11 [] ?_
   refine aO (lM rfl rfl sE) ?_
   refine aR 8 [] ?_
   rotate_left
   refine aJ 5 [] ?_
   refine aO (lM rfl rfl sE) ?_
   refine aR 8 [] ?_
   rotate_left
   · refine cN 40 rfl (show _=Value.int .i64 ((t+1:Nat):Int) from rfl) ?_
     refine cN 11 rfl (show _=Value.int .i64 c by rw [cY]) ?_
     refine cL ((t+1,to,c,cd++sM to fr k,(a1,d1,j1))) ?_ ?_
     · rw [aF hc2,←bA] at ht3
       exact ⟨hte,hc,ht3,ho1⟩
     show e - (t+1)<e - t
     omega
   refine cN 40 rfl (show _=Value.int .i64 ((t+1:Nat):Int) from rfl) ?_
   refine cL ((t+1,fr,k*c,cd,(o,d,q))) ?_ ?_
   · rw [aD hc2] at ht3
     exact ⟨hte,by omega,ht3,ht4⟩
   show e - (t+1)<e - t
   omega
 have hte:t=e:=sE
 subst hte
 rw [hJ] at ht3
 have ht3:cd++sM to fr k=Tg:=ht3
 subst ht3
 refine aJ 17 [0] ?_
 refine eK 0 rfl T.fn195 rfl (Fh _ b n o d cd q wa wn wc _ _ _ ht4 htl) (sJ ⟨rfl,rfl,trivial⟩) fun v1 G1 Ho1 hle1 hp=>?_
 obtain ⟨rfl,rfl,a1,d1,j1,ho1,rfl⟩:=hp
 refine eM ?_
 refine jZ yZ (Ho:=[(0,some b,.cells #[.int .i64 n,.slice a1 (cd++sM to fr k).length d1,.slice wa wn wc] 267),(1,a1.map (·.block),Row 91 (cd++sM to fr k) j1)]) rfl ⟨rfl,rfl,trivial⟩ ?_
 exact ⟨rfl,rfl,a1,d1,j1,ho1,rfl⟩
section
variable {P:Program} {e:Env} {H:Hp} {G:Imm}
theorem Ma {ty:TypeId} {T et:TypeId} {len i:Nat} {x y:Operand} {cs:List Value} {v:Value} (hT:P.underlying T=some (.array len et)) (h1:P.plainKey et=true) (hs:(P.info? et).map (·.size)=some 1)
 (hx:e.ev x=some (.agg cs.toArray)) (hy:e.ev y=some (.int .i64 (i:Int))) (hi:i<len) (hv:cs[i]?=some v):Qy P (.index T x y) ty e H G v:=fun a w _ _ _ _ hh=>by
 have hp:(part et cs.toArray i).run P w=.ok v w:=by
  unfold Program.plainKey at h1
  cases hu:P.underlying et with
  | none=>simp [hu] at h1
  | some d=>cases d <;> simp [hu] at h1 <;> simp [part,isAgg,cW hu,hv,Result.andThen]
 have hsz:=Go.Sl.run_sizeOf (P:=P) w hs
 have h2:(0:Int)≤(i:Int)∧(i:Int)<(len:Int):=sE
 simp only [execOp,hh.eval hx,hh.eval hy,Instr.index,asIntOf,dB,dS,bM,cW hT]
 rw [aF h2]
 simp only [dB,hsz,bM,aE,Nat.mul_one,hp,dS]
end
theorem NX:Tryz.prog.underlying 145=some (.array 2 3):=sG
theorem VJ:Tryz.prog.plainKey 3=true:=sG
theorem ZZ:(Tryz.prog.info? 3).map (·.size)=some 1:=sG
theorem Ku (a b:Int):∀ (n k j:Nat),k≤j→j<MR a b n k→Eb a b (j:Int)=false∧Eb a b (-(j:Int))=false
 | 0,k,j,h1,h2=>by unfold MR at h2;omega
 | n+1,k,j,h1,h2=>by
   unfold MR at h2
   split at h2
   · omega
   rename_i hh
   by_cases hjk:j=k
   · subst hjk
     cases h3:Eb a b (j:Int) <;> cases h4:Eb a b (-(j:Int)) <;> simp [h3,h4] at hh ⊢
   exact Ku a b n (k+1) j sE h2
theorem XI (G:Imm) (x y:Int) (hn:near x y) (h0:¬(x=0∧y=0)) :
 Does Tryz.prog 192 [.agg #[.int .i64 x,.int .i64 y]] G [] (fun v G' Ho=>v=.tuple #[.int .i64 (Int.gcd x y),.int .i64 (bezS x y),.int .i64 (bezT x y),.int .i64 0]∧G'=G∧Ho=[]):=by
 have hn2:=hn
 unfold near at hn2
 refine D0 Tryz.func192 Tryz.ntmps192 fun w=>?_
 obtain ⟨hb1,hb2,hb3,hb4⟩:=Et hn h0
 have q1:=wR x (Int.gcd x y)
 have hg0:0<Int.gcd x y:=Nat.pos_of_ne_zero fun h1=>h0 (Int.gcd_eq_zero_iff.mp h1)
 have hg16:Int.gcd x y≤16:=by
  by_cases ha:x=0
  · have:=rF sE (show Int.gcd x y ∣ y.natAbs from Nat.gcd_dvd_right _ _)
    omega
  have:=rF sE (show Int.gcd x y ∣ x.natAbs from Nat.gcd_dvd_left _ _)
  omega
 refine aJ 2 [] ?_
 refine dQ 0 fun b1=>?_
 refine aL 12 [0,0] ?_
 refine mG rfl T.fn227 rfl (ZD _ _ _ sE sE) ?_
 refine aL 8 [0] ?_
 refine mG rfl T.fn72 rfl (c72 _ _ _) ?_
 refine aO (fF rfl) ?_
 refine aZ 3 [] ?_
 refine cT (fun hc1=>?_) fun hc1=>?_
 refine bE 11 [] ?_
 refine Mh (.inr rfl) (Ho:=Hp.only _ []) rfl (.tmp rfl) (.tmp rfl) (.tmp rfl) (.tmp rfl) (aT _ _) ?_
 rotate_left
 refine bJ 16 [0,0] ?_
 refine cT (fun hc2=>?_) fun hc2=>?_
 refine dF ?_
 refine gQ [0] [] T.mixed rfl ?_
 refine eW 0 [] sG rfl rfl (cV rfl) ?_
 refine eW 1 [] sG rfl rfl (fI T.fa52_0 rfl) ?_
 refine eW 2 [0] sG rfl rfl (jT 0 T.one3 rfl rfl rfl) ?_
 refine eW 3 [] sG rfl rfl (cV rfl) ?_
 refine eW 4 [] sG rfl rfl (nW rfl rfl sE sE) ?_
 refine eW 5 [] sG rfl rfl (jN rfl) ?_
 refine eW 6 [] sG rfl rfl (jN rfl) ?_
 refine eW 7 [] sG rfl rfl (jN rfl) ?_
 refine eW 8 [] sG rfl rfl (jN rfl) ?_
 refine jB sG ⟨rfl,trivial⟩ wJ ?_
 refine dX 4 [] ?_
 refine Mh (.inr rfl) (Ho:=Hp.only _ []) rfl (.tmp rfl) (.tmp rfl) (.tmp rfl) (.tmp rfl) (aT _ _) ?_
 rotate_left
 refine bJ 9 [] ?_
 rotate_left
 · exact absurd hn hc1
 · refine ⟨?_,rfl,rfl⟩
   unfold bezS bezT
   rw [aF hc2,aF hc2]
 refine gY (ι:=Nat) (fun k=>([(7,.int .i64 (k:Int)),(6,Go.Value.int Go.IntKind.i64 (↑(Int.gcd x y):Int)),(1,Go.Value.pointer (Option.some (Go.Addr.mk b1 0 Option.none)))],[(0,Option.some b1,Go.Obj.cells #[Go.Value.int Go.IntKind.i64 x,Go.Value.int Go.IntKind.i64 y] 52)])) (fun k=>k≤Cb x y) (fun k=>Cb x y+1 - k) (0) (aM _) fun k=>fun (hk:k≤Cb x y)=>?_
 have hm1:((k:Int)*x).natAbs≤15*16:=by rw [eX];exact fQ sE sE
 have hm2:(-(k:Int)*x).natAbs≤15*16:=by rw [eX];exact fQ sE sE
 have hm3:-9223372036854775808≤(k:Int)*x∧(k:Int)*x≤9223372036854775807:=sE
 have hm4:-9223372036854775808≤-(k:Int)*x∧-(k:Int)*x≤9223372036854775807:=sE
 refine aJ 6 [] ?_
 refine aO (qO rfl sE) ?_
 refine aO (Jr (cs:=[_,_]) T.ar145 rfl rfl rfl) ?_
 refine aZ 4 [] ?_
 refine gY (ι:=Nat) (fun i=>([(37,.int .i64 (i:Int)),(7,.int .i64 (k:Int)),(36,Go.Value.agg #[Go.Value.int Go.IntKind.i64 (↑k:Int),Go.Value.int Go.IntKind.i64 (-(↑k:Int))]),(6,Go.Value.int Go.IntKind.i64 (↑(Int.gcd x y):Int)),(1,Go.Value.pointer (Option.some (Go.Addr.mk b1 0 Option.none)))],[(0,Option.some b1,Go.Obj.cells #[Go.Value.int Go.IntKind.i64 x,Go.Value.int Go.IntKind.i64 y] 52)])) (fun i=>i≤2∧(1≤i→Eb x y (k:Int)=false)∧(2≤i→Eb x y (-(k:Int))=false)) (fun i=>2 - i) (0) (⟨aM _,fun h=>absurd h sE,fun h=>absurd h sE⟩) fun i=>fun hk=>?_
 obtain ⟨hi1,hi2,hi3⟩:=hk
 have hcase:i=0∨i=1∨i=2:=sE
 have q2:=wR ((Int.gcd x y:Int) - (k:Int)*x) y
 have q3:=wR ((Int.gcd x y:Int) - -(k:Int)*x) y
 have hit:∀ s:Int,Eb x y s=true↔((Int.gcd x y:Int) - s*x).tmod y=0:=fun s=>by unfold Eb;rw [beq_iff_eq]
 rcases hcase with hi | hi | hi
 · subst hi
   refine aJ 13 [1] ?_
   refine aO (Ma (i:=0) (cs:=[.int .i64 (k:Int),.int .i64 (-(k:Int))]) NX VJ ZZ rfl rfl sN rfl) ?_
   refine aL 9 [0] ?_
   refine aO (lM rfl rfl sE) ?_
   refine aB 3 [0] ?_
   refine aO (rU rfl rfl sE) ?_
   refine aZ 3 [] ?_
   refine cT (fun hc3=>?_) fun hc3=>?_
   refine dF ?_
   refine gQ [0] [] T.mixed rfl ?_
   refine eW 0 [] sG rfl rfl (cV rfl) ?_
   refine eW 1 [] sG rfl rfl (cV rfl) ?_
   refine eW 2 [] sG rfl rfl (cV rfl) ?_
   refine eW 3 [] sG rfl rfl (cV rfl) ?_
   refine eW 4 [] sG rfl rfl (fI T.fa52_0 rfl) ?_
   refine eW 5 [0] sG rfl rfl (jT 0 T.one3 rfl rfl rfl) ?_
   refine eW 6 [] sG rfl rfl (lM rfl rfl sE) ?_
   refine eW 7 [] sG rfl rfl (Qy.sub rfl rfl sE) ?_
   refine eW 8 [] sG rfl rfl (fI T.fa52_1 rfl) ?_
   refine eW 9 [0] sG rfl rfl (jT 0 T.one3 rfl rfl rfl) ?_
   refine eW 10 [] sG rfl rfl (nW rfl rfl sE sE) ?_
   refine eW 11 [] sG rfl rfl (jN rfl) ?_
   refine eW 12 [] sG rfl rfl (jN rfl) ?_
   refine eW 13 [] sG rfl rfl (jN rfl) ?_
   refine eW 14 [] sG rfl rfl (jN rfl) ?_
   refine jB sG ⟨rfl,trivial⟩ wJ ?_
   refine dX 10 [] ?_
   refine Mh (.inr rfl) (Ho:=Hp.only _ []) rfl (.tmp rfl) (.tmp rfl) (.tmp rfl) (.tmp rfl) (aT _ _) ?_
   rotate_left
   refine bE 7 [] ?_
   rotate_left
   · have hkk:k=Cb x y:=by
      rcases aK k (Cb x y) with h | h
      · have:=(Ku x y 16 0 k (aM _) h).1
        rw [(hit _).2 hc3] at this;cases this
      omega
     have hs:bezS x y=k:=by unfold bezS;rw [aD hc2,←hkk,aF ((hit _).2 hc3)]
     have ht:bezT x y=((Int.gcd x y:Int) - (k:Int)*x).tdiv y:=by unfold bezT;rw [aD hc2,hs]
     refine ⟨by rw [hs,ht],rfl,rfl⟩
   refine cN 37 rfl (show _=Value.int .i64 ((1:Nat):Int) from rfl) ?_
   refine cL (1) ?_ ?_
   · refine ⟨by omega,fun _=>?_,fun h=>absurd h sE⟩
     cases hh:Eb x y (k:Int)
     · rfl
     exact absurd ((hit _).1 hh) hc3
   show 2 - 1<2 - 0
   omega
 · subst hi
   refine aJ 13 [1] ?_
   refine aO (Ma (i:=1) (cs:=[.int .i64 (k:Int),.int .i64 (-(k:Int))]) NX VJ ZZ rfl rfl sN rfl) ?_
   refine aL 9 [0] ?_
   refine aO (lM rfl rfl sE) ?_
   refine aB 3 [0] ?_
   refine aO (rU rfl rfl sE) ?_
   refine aZ 3 [] ?_
   refine cT (fun hc3=>?_) fun hc3=>?_
   refine dF ?_
   refine gQ [0] [] T.mixed rfl ?_
   refine eW 0 [] sG rfl rfl (cV rfl) ?_
   refine eW 1 [] sG rfl rfl (cV rfl) ?_
   refine eW 2 [] sG rfl rfl (cV rfl) ?_
   refine eW 3 [] sG rfl rfl (cV rfl) ?_
   refine eW 4 [] sG rfl rfl (fI T.fa52_0 rfl) ?_
   refine eW 5 [0] sG rfl rfl (jT 0 T.one3 rfl rfl rfl) ?_
   refine eW 6 [] sG rfl rfl (lM rfl rfl sE) ?_
   refine eW 7 [] sG rfl rfl (Qy.sub rfl rfl sE) ?_
   refine eW 8 [] sG rfl rfl (fI T.fa52_1 rfl) ?_
   refine eW 9 [0] sG rfl rfl (jT 0 T.one3 rfl rfl rfl) ?_
   refine eW 10 [] sG rfl rfl (nW rfl rfl sE sE) ?_
   refine eW 11 [] sG rfl rfl (jN rfl) ?_
   refine eW 12 [] sG rfl rfl (jN rfl) ?_
   refine eW 13 [] sG rfl rfl (jN rfl) ?_
   refine eW 14 [] sG rfl rfl (jN rfl) ?_
   refine jB sG ⟨rfl,trivial⟩ wJ ?_
   refine dX 10 [] ?_
   refine Mh (.inr rfl) (Ho:=Hp.only _ []) rfl (.tmp rfl) (.tmp rfl) (.tmp rfl) (.tmp rfl) (aT _ _) ?_
   rotate_left
   refine bE 7 [] ?_
   rotate_left
   · have hkk:k=Cb x y:=by
      rcases aK k (Cb x y) with h | h
      · have:=(Ku x y 16 0 k (aM _) h).2
        rw [(hit _).2 hc3] at this;cases this
      omega
     have hs:bezS x y=-k:=by unfold bezS;rw [aD hc2,←hkk,aD (by rw [hi2 sE];decide)]
     have ht:bezT x y=((Int.gcd x y:Int) - -(k:Int)*x).tdiv y:=by unfold bezT;rw [aD hc2,hs]
     refine ⟨by rw [hs,ht],rfl,rfl⟩
   refine cN 37 rfl (show _=Value.int .i64 ((2:Nat):Int) from rfl) ?_
   refine cL (2) ?_ ?_
   · refine ⟨by omega,fun _=>hi2 sE,fun _=>?_⟩
     cases hh:Eb x y (-(k:Int))
     · rfl
     exact absurd ((hit _).1 hh) hc3
   show 2 - 2<2 - 1
   omega
 subst hi
 refine bE 18 [0] ?_
 refine cN 7 rfl (show _=Value.int .i64 ((k+1:Nat):Int) from rfl) ?_
 refine cL (k+1) ?_ ?_
 · rcases aK k (Cb x y) with h | h
   · exact h
   have hkk:k=Cb x y:=sE
   have h1:=hi2 sE
   have h2:=hi3 sE
   rw [hkk] at h1 h2
   rw [h1,h2] at hb4
   rcases hb4 with h | h | h
   · exact absurd h hc2
   · cases h
   cases h
 show Cb x y+1 - (k+1)<Cb x y+1 - k
 omega
theorem Ph (l:List Int):sY l=l.map (Value.int .i64):=by
 induction l with
 | nil=>rfl
 | cons x l ih=>rw [wE,ih];rfl
theorem NY (l l':List Int) (jk:List Value) (h:l'.length=l.length):Go.Sort.putCells (Value.int .i64) 0 l'.toArray (sY l++jk).toArray=(sY l'++jk).toArray:=by
 rw [Ph,Ph]
 apply Array.ext_getElem?
 intro k
 simp only [Go.Sort.putCells,Array.getElem?_mapIdx,lA,pB,aM,true_and,dC,mV]
 by_cases hk:k<l'.length
 · rw [bB Lk,bB Lk,bN,bN,aA (show k<l.length by omega),aA hk]
   simp [hk]
 rw [bT Lk,bT Lk,aP,aP,h]
 cases jk[k - l.length]? with
 | none=>rfl
 | some v=>simp [hk];intro h2;omega
theorem II {w:World} {G:Imm} {b:Nat} {l:List Int} {jk:List Value} {E:TypeId} (hw:HoldH [(0,some b,Row E l jk)] G w):Go.Sort.Holds (Value.int .i64) w b 0 l.toArray:=by
 intro j hj
 have hj:j<l.length:=by simpa using hj
 have ho:w.heap[b]?=some (Row E l jk):=hw.own 0 b _ rfl
 constructor
 · show World.cell? w ⟨b,0+j,none⟩=_
   unfold World.cell?
   rw [show w.heap[(⟨b,0+j,none⟩:Addr).block]?=some (Row E l jk) from ho]
   show (sY l++jk).toArray[0+j]?=_
   rw [dC,lA,Ph,bB (by rw [aP];exact hj),bN,aA hj]
   simp [hj]
 show World.frozen? w ⟨b,0+j,none⟩=_
 unfold World.frozen?
 rw [show w.heap[(⟨b,0+j,none⟩:Addr).block]?=some (Row E l jk) from ho]
 show (decide (0≤0+j) && decide (0+j<0))=false
 simp
theorem TM {w:World} {G:Imm} {b n:Nat} {l l':List Int} {jk:List Value} {E:TypeId} {os:Array Obj} (hw:HoldH [(0,some b,Row E l jk)] G w) (hlen:l'.length=l.length) {v:Value} :
 DoesPost G [(0,some b,Row E l jk)] w (fun v' G' Ho=>v'=v∧G'=G∧Ho=[(0,some b,Row E l' jk)]) (.returned v) (Go.Sort.grow (Go.Sort.putRow (Value.int .i64) (Go.Sort.ahead w n) b 0 l'.toArray) os):=by
 have ho:w.heap[b]?=some (Row E l jk):=hw.own 0 b _ rfl
 have hb:b<w.heap.size:=by
  rcases aK b w.heap.size with h | h
  · exact h
  rw [nB h] at ho;cases ho
 have hget:∀ k,k<w.heap.size→(Go.Sort.grow (Go.Sort.putRow (Value.int .i64) (Go.Sort.ahead w n) b 0 l'.toArray) os).heap[k]?=if b=k then some (Row E l' jk) else w.heap[k]?:=by
  intro k hk
  show ((w.heap.modify b (Go.Sort.onCells (Go.Sort.putCells (Value.int .i64) 0 l'.toArray)))++os)[k]?=_
  rw [oY (by rw [Array.size_modify];exact hk),qK]
  split
  · rename_i e
    subst e
    rw [ho]
    show some (Obj.cells (Go.Sort.putCells (Value.int .i64) 0 l'.toArray (sY l++jk).toArray) E (0,0))=_
    rw [NY _ _ _ hlen];rfl
  rfl
 have hone:∀ {o':Obj} {t b':Nat} {o:Obj},Hp.get [(0,some b,o')] t=some (some b',o)→t=0∧b=b'∧o'=o:=by
  intro o' t b' o h
  rw [bH] at h
  split at h
  · rename_i e
    simp at h
    exact ⟨e.symm,h.1,h.2⟩
  simp [Hp.get] at h
 refine ⟨v,G,[(0,some b,Row E l' jk)],rfl,⟨?_,?_,?_,?_⟩,bK _,⟨rfl,rfl,rfl,?_,?_⟩,?_,?_,rfl,rfl,rfl⟩
 · intro t b' o h
   obtain ⟨_,e,e2⟩:=hone h
   subst e;subst e2
   rw [hget b hb,aF rfl]
 · intro t t' b' o o' h h'
   rw [(hone h).1,(hone h').1]
 · intro b' o h
   have h1:=hw.imm b' o h
   have h2:b'<w.heap.size:=by
    rcases aK b' w.heap.size with h | h
    · exact h
    rw [nB h] at h1;cases h1
   rw [hget b' h2,aD]
   · exact h1
   intro e
   subst e
   have:=hw.off 0 b _ rfl
   rw [h] at this;cases this
 · intro t b' o h
   obtain ⟨_,e,_⟩:=hone h
   subst e
   exact hw.off 0 b _ rfl
 · show w.heap.size≤((w.heap.modify b _)++os).size
   rw [Array.size_append,Array.size_modify];omega
 · intro k hk hx
   rw [hget k hk,aD]
   intro e
   subst e
   exact hx ⟨0,_,rfl⟩
 · intro b' h h';exact absurd h' h
 intro t b' o h
 obtain ⟨_,e,_⟩:=hone h
 subst e
 exact .inr ⟨0,_,rfl⟩
theorem gv (G:Imm) (b c:Nat) (l:List Int) (jk:List Value) (h:l.length<4611686018427387904) :
 Does Tryz.prog 190 [.slice (some ⟨b,0,none⟩) l.length c] G [(0,some b,Row 3 l jk)] (fun v G' Ho=>v=.tuple #[]∧G'=G∧Ho=[(0,some b,Row 3 (l.mergeSort fun x y=>decide (x≤y)) jk)]):=fun w hw=>by
 have ho:w.heap[b]?=some (Row 3 l jk):=hw.own 0 b _ rfl
 have hb:b<w.heap.size:=by
  rcases aK b w.heap.size with h | h
  · exact h
  rw [nB h] at ho;cases ho
 have h69:Calls Tryz.prog 190 #[.slice (some ⟨b,0,none⟩) l.length c] w _:=Any.slices_Sort_int Tryz.laysSort b 0 c l w (II hw) hb h
 refine h69.mono ?_
 rintro e w' ⟨rfl,n,os,rfl⟩
 exact TM hw (List.length_mergeSort l)
theorem aa (G:Imm) (c:Nat):Does Tryz.prog 190 [.slice none 0 c] G [] (fun v G' Ho=>v=.tuple #[]∧G'=G∧Ho=[]):=fun w hw=>by
 have h69:Calls Tryz.prog 190 #[.slice none 0 c] w _:=Any.slices_Sort_int_none Tryz.laysSort none c w
 refine h69.mono ?_
 rintro e w' ⟨rfl,rfl⟩
 exact ⟨_,G,[],rfl,hw,bK _,mI _ _,fun _ h h'=>absurd h' h,fun t b o h=>by simp [Hp.get] at h,rfl,rfl,rfl⟩
theorem IJ (l:List Int):(l.mergeSort fun x y=>decide (x≤y)).Pairwise (·≤·):=
 (List.pairwise_mergeSort (le:=fun x y:Int=>decide (x≤y)) (fun a b c h1 h2=>by simp at *;omega) (fun a b=>by simp;omega) l).imp (fun h=>by simpa using h)
section
attribute [local irreducible] tL
theorem ae (G:Imm) (a b c d:Int) (h:near a b) (h':near c d):Does Tryz.prog 229 [.agg #[.int .i64 a,.int .i64 b],.agg #[.int .i64 c,.int .i64 d]] G [] (fun v G' Ho=>v=.tuple #[.int .i64 (a*d - c*b),.int .i64 0]∧G'=G∧Ho=[]):=
 (eh G a b c d).mono fun v G' Ho _ ⟨e1,e2,e3⟩=>⟨by rw [e1,aF ⟨h,h'⟩,aF ⟨h,h'⟩],e2,e3⟩
end
theorem gw (G:Imm) (b:Nat) (ac:Option Addr) (cc:Nat) (code:List Sl.Instr) (j:List Value) (wa:Option Addr) (wc:Nat) (wh:List R2) (k:Int) (la:Option Addr) (lc:Nat) (left:List Int) (e:Nat) (ho:OwnA ac cc code j) (hw:Arr G wa wh) (hla:Arr G la left)
 (hwl:wh.length≤15) (hk:0≤k∧k<wh.length) (hll:left.length≤15) (hleft:∀ i,i<left.length→0≤left[i]?.getD default∧left[i]?.getD default<wh.length) (he:e≤14) (hok:∀ i,i<wh.length→Od (wh[i]?.getD default)) (hl:(code++yG wh.length wh k e left).length≤1048576) :
 Does Tryz.prog 194 [.pointer (some ⟨b,0,none⟩),.int .i64 k,.slice la left.length lc,.int .i64 e] G [(0,some b,.cells #[.int .i64 wh.length,.slice ac code.length cc,.slice wa wh.length wc] 267),(1,ac.map (·.block),Row 91 code j)]
  (fun v G' Ho=>v=.tuple #[]∧G'=G∧∃ (a':Option Addr) (c':Nat) (j':List Value),OwnA a' c' (code++yG wh.length wh k e left) j'∧Ho=[(0,some b,.cells #[.int .i64 wh.length,.slice a' (code++yG wh.length wh k e left).length c',.slice wa wh.length wc] 267),(1,a'.map (·.block),Row 91 (code++yG wh.length wh k e left) j')]):=by
 have hl0:code.length≤1048576:=by rw [aC] at hl;omega
 obtain ⟨hnk,hzk⟩:=hok k.toNat sE
 obtain ⟨_,b2,_,_⟩:=Et hnk hzk
 refine fK Tryz.func194 rfl Tryz.ntmps194 rfl fun w=>?_
 refine mH ?_
 refine aJ 7 [0] ?_
 refine eG rfl (jA (α:=R2) T.sl22 rfl rfl sF sE) ?_
 refine eG rfl (gZ T.agg52 rfl (jY sF sE) rfl) ?_
 refine aN 2 rfl T.zero52 fun b1=>?_
 refine aL 6 [2,2] ?_
 refine mG rfl T.fn192 rfl (XI _ _ _ sF sF) ?_
 refine aZ 22 [] ?_
 generalize hTg:code++yG wh.length wh k e left=Tg at *
 refine gL (ι:=Nat×List Sl.Instr×(Option Addr×Nat×List Value)) (fun (t,cd,(o,d,q))=>([(35,.int .i64 (t:Int)),(34,Go.Value.int Go.IntKind.i64 (↑(List.length left):Int)),(33,Go.Value.slice la (List.length left) lc),(11,Go.Value.int Go.IntKind.i64 (Go.Proofs.YtfdcckcadfhpeaaGreatDoor.bezT (Go.Sl.R2.a (Option.getD wh[Int.toNat k]? Inhabited.default)) (Go.Sl.R2.b (Option.getD wh[Int.toNat k]? Inhabited.default)))),(10,Go.Value.int Go.IntKind.i64 (Go.Proofs.YtfdcckcadfhpeaaGreatDoor.bezS (Go.Sl.R2.a (Option.getD wh[Int.toNat k]? Inhabited.default)) (Go.Sl.R2.b (Option.getD wh[Int.toNat k]? Inhabited.default)))),(8,Go.Value.pointer (Option.some (Go.Addr.mk b1 0 Option.none))),(0,Go.Value.pointer (Option.some (Go.Addr.mk b 0 Option.none))),(1,Go.Value.int Go.IntKind.i64 k),(3,Go.Value.int Go.IntKind.i64 (↑e:Int))],[(0,some b,.cells #[.int .i64 wh.length,.slice o cd.length d,.slice wa wh.length wc] 267),(1,o.map (·.block),Row 91 cd q),(2,Option.some b1,Go.Obj.cells (List.toArray (Go.Sl.Cells.enc (Option.getD wh[Int.toNat k]? Inhabited.default))) 52)])) (fun (t,cd,(o,d,q))=>t≤left.length∧cd++yG wh.length wh k e (left.drop t)=Tg∧OwnA o d cd q) (fun (t,cd,(o,d,q))=>left.length - t) ((0,code,(ac,cc,j))) (⟨aM _,hTg,ho⟩) ⟨rfl,rfl,rfl,rfl,rfl,rfl,rfl,rfl,rfl,trivial⟩ ⟨rfl,rfl,rfl,trivial⟩ fun ⟨t,cd,(o,d,q)⟩=>fun hk=>?_
 obtain ⟨ht1,ht3,ht4⟩:=hk
 have htl:cd.length≤1048576:=by rw [←ht3,aC] at hl;omega
 rcases aK t left.length with hte | hte
 · have hi:=hleft t hte
   have hdr:left.drop t=left[(t:Int).toNat]?.getD default :: left.drop (t+1):=by
    rw [dM hte,aE,aA hte];rfl
   rw [aE] at hdr
   obtain ⟨hni,hzi⟩:=hok (left[(t:Int).toNat]?.getD default).toNat Rm
   have hi':0≤left[(t:Int).toNat]?.getD default∧left[(t:Int).toNat]?.getD default<wh.length:=by rw [aE];exact hi
   rw [hdr] at ht3
   have ht3:cd++(Bi wh.length wh k e (left[(t:Int).toNat]?.getD default)++yG wh.length wh k e (left.drop (t+1)))=Tg:=by rw [aE];exact ht3
   have hlr:-512≤Az wh k (left[(t:Int).toNat]?.getD default)∧Az wh k (left[(t:Int).toNat]?.getD default)≤512:=ER b2 hni
   have hm1:(bezS (wh[k.toNat]?.getD default).a (wh[k.toNat]?.getD default).b*(wh[(left[(t:Int).toNat]?.getD default).toNat]?.getD default).a).natAbs≤17*16:=by rw [eX];exact fQ sE (by unfold near at hni;omega)
   have hm2:(bezT (wh[k.toNat]?.getD default).a (wh[k.toNat]?.getD default).b*(wh[(left[(t:Int).toNat]?.getD default).toNat]?.getD default).b).natAbs≤17*16:=by rw [eX];exact fQ sE (by unfold near at hni;omega)
   have hTl:cd.length+(Bi wh.length wh k e (left[(t:Int).toNat]?.getD default)).length≤1048576:=by rw [←ht3,aC,aC] at hl;omega
   unfold Bi at ht3 hTl
   rw [aC] at hTl
   refine aJ 13 [1] ?_
   refine eG rfl (jA (α:=Int) T.sl24 rfl rfl sF sE) ?_
   refine eG rfl (cJ T.one3 rfl (iC sF sE 0 rfl rfl)) ?_
   refine aL 10 [0] ?_
   refine eG rfl (jA (α:=R2) T.sl22 rfl rfl sF sE) ?_
   refine eG rfl (gZ T.agg52 rfl (jY sF sE) rfl) ?_
   refine aN 3 rfl T.zero52 fun b3=>?_
   refine aL 7 [3,2,3] ?_
   refine mG rfl T.fn229 rfl (ae _ _ _ _ _ sF sF) ?_
   refine aL 12 [3] ?_
   refine eG rfl (lM rfl rfl sE) ?_
   refine aB 3 [3] ?_
   refine eG rfl (lM rfl rfl sE) ?_
   refine aL 10 [] ?_
   apply dP 3 63 66 rfl
   intro hg1
   refine aB 5 [] ?_
   exact iF 3 0 rfl rfl rfl rfl rfl
   intro hg1
   refine aB 3 [] ?_
   exact iF 3 0 rfl rfl rfl rfl rfl
   refine aZ 2 [] ?_
   refine nK rfl (fun hc1=>?_) fun hc1=>?_
   refine aJ 4 [] ?_
   refine eH 0 rfl T.fn231 rfl (AA _ b _ _ _ sE) (sJ ⟨rfl,trivial⟩) ?_
   refine aB 3 [] ?_
   rotate_left
   refine bJ 9 [] ?_
   refine nK rfl (fun hc2=>?_) fun hc2=>?_
   refine bE 8 [] ?_
   rotate_left
   refine aJ 6 [] ?_
   rotate_left
   · have hcc:Az wh k (left[(t:Int).toNat]?.getD default)≠0∨e=0:=by
      rcases hc1 with h | h
      · exact .inl h
      exact .inr sE
     rw [aF hcc] at ht3 hTl
     rw [aC,iU] at hTl
     have hq1:(cd++zV (3*(wh.length:Int)) k (Az wh k (left[(t:Int).toNat]?.getD default)) e).length≤1048576:=by rw [aC];omega
     refine eK 0 rfl T.fn230 rfl (gu _ b _ o d cd q wa _ wc (3*(wh.length:Int)) k (Az wh k (left[(t:Int).toNat]?.getD default)) e ht4 hq1 hlr sE) (sJ ⟨rfl,rfl,trivial⟩) fun v1 G1 Ho1 hle1 hp=>?_
     obtain ⟨rfl,rfl,a1,d1,j1,ho1,rfl⟩:=hp
     refine aL 7 [] ?_
     refine eH 0 rfl T.fn231 rfl (AA _ b _ _ _ sE) (sJ ⟨rfl,trivial⟩) ?_
     refine eK 0 rfl T.fn228 rfl (Rf _ b _ a1 d1 (cd++zV (3*(wh.length:Int)) k (Az wh k (left[(t:Int).toNat]?.getD default)) e) j1 wa _ wc _ _ _ _ _ ho1 hq1) (sJ ⟨rfl,rfl,trivial⟩) fun v2 G2 Ho2 hle2 hp=>?_
     obtain ⟨rfl,rfl,a2,d2,j2,ho2,rfl⟩:=hp
     refine aZ 9 [] ?_
     refine nK rfl (fun hc2=>?_) fun hc2=>?_
     refine bE 8 [] ?_
     rotate_left
     refine aJ 6 [] ?_
     rotate_left
     · have hdd:zW wh k (left[(t:Int).toNat]?.getD default)=1:=hc2
       rw [aF hdd,bR] at ht3
       refine cN 35 rfl (show _=Value.int .i64 ((t+1:Nat):Int) from rfl) ?_
       refine fR ((t+1,(cd++zV (3*(wh.length:Int)) k (Az wh k (left[(t:Int).toNat]?.getD default)) e++[(⟨4,(left[(t:Int).toNat]?.getD default),(left[(t:Int).toNat]?.getD default),3*(wh.length:Int),0⟩:Sl.Instr)]),(a2,d2,j2))) ?_ ?_ rfl ⟨rfl,rfl,rfl,rfl,rfl,rfl,rfl,rfl,rfl,trivial⟩ ⟨rfl,rfl,rfl,trivial⟩
       · refine ⟨hte,?_,ho2⟩
         rw [←ht3];simp only [bA]
       show left.length - (t+1)<left.length - t
       omega
     have hdd:¬zW wh k (left[(t:Int).toNat]?.getD default)=1:=hc2
     rw [aD hdd] at ht3 hTl
     have hq2:(cd++zV (3*(wh.length:Int)) k (Az wh k (left[(t:Int).toNat]?.getD default)) e++[(⟨4,(left[(t:Int).toNat]?.getD default),(left[(t:Int).toNat]?.getD default),3*(wh.length:Int),0⟩:Sl.Instr)]).length≤1048576:=by rw [aC,aC,iU];omega
     refine eK 0 rfl T.fn193 rfl (XA _ b _ a2 d2 (cd++zV (3*(wh.length:Int)) k (Az wh k (left[(t:Int).toNat]?.getD default)) e++[(⟨4,(left[(t:Int).toNat]?.getD default),(left[(t:Int).toNat]?.getD default),3*(wh.length:Int),0⟩:Sl.Instr)]) j2 wa _ wc _ _ ho2 hq2) (sJ ⟨rfl,rfl,trivial⟩) fun v3 G3 Ho3 hle3 hp=>?_
     obtain ⟨rfl,rfl,a3,d3,j3,ho3,rfl⟩:=hp
     refine aR 7 [] ?_
     refine cN 35 rfl (show _=Value.int .i64 ((t+1:Nat):Int) from rfl) ?_
     refine fR ((t+1,(cd++zV (3*(wh.length:Int)) k (Az wh k (left[(t:Int).toNat]?.getD default)) e++[(⟨4,(left[(t:Int).toNat]?.getD default),(left[(t:Int).toNat]?.getD default),3*(wh.length:Int),0⟩:Sl.Instr)])++xB (left[(t:Int).toNat]?.getD default) (zW wh k (left[(t:Int).toNat]?.getD default)),(a3,d3,j3))) ?_ ?_ rfl ⟨rfl,rfl,rfl,rfl,rfl,rfl,rfl,rfl,rfl,trivial⟩ ⟨rfl,rfl,rfl,trivial⟩
     · refine ⟨hte,?_,ho3⟩
       rw [←ht3];simp only [bA]
     show left.length - (t+1)<left.length - t
     omega
   · have hcc:¬(Az wh k (left[(t:Int).toNat]?.getD default)≠0∨e=0):=fun h=>hc1 (h.elim .inl (fun h=>.inr sE))
     rw [aD hcc] at ht3 hTl
     have hdd:zW wh k (left[(t:Int).toNat]?.getD default)=1:=hc2
     rw [aF hdd] at ht3
     refine cN 35 rfl (show _=Value.int .i64 ((t+1:Nat):Int) from rfl) ?_
     refine fR ((t+1,cd,(o,d,q))) ?_ ?_ rfl ⟨rfl,rfl,rfl,rfl,rfl,rfl,rfl,rfl,rfl,trivial⟩ ⟨rfl,rfl,rfl,trivial⟩
     · exact ⟨hte,ht3,ht4⟩
     show left.length - (t+1)<left.length - t
     omega
   have hcc:¬(Az wh k (left[(t:Int).toNat]?.getD default)≠0∨e=0):=fun h=>hc1 (h.elim .inl (fun h=>.inr sE))
   rw [aD hcc] at ht3 hTl
   have hdd:¬zW wh k (left[(t:Int).toNat]?.getD default)=1:=hc2
   rw [aD hdd] at ht3
   refine eK 0 rfl T.fn193 rfl (XA _ b _ o d cd q wa _ wc _ _ ht4 htl) (sJ ⟨rfl,rfl,trivial⟩) fun v1 G1 Ho1 hle1 hp=>?_
   obtain ⟨rfl,rfl,a1,d1,j1,ho1,rfl⟩:=hp
   refine aR 7 [] ?_
   refine cN 35 rfl (show _=Value.int .i64 ((t+1:Nat):Int) from rfl) ?_
   refine fR ((t+1,cd++xB (left[(t:Int).toNat]?.getD default) (zW wh k (left[(t:Int).toNat]?.getD default)),(a1,d1,j1))) ?_ ?_ rfl ⟨rfl,rfl,rfl,rfl,rfl,rfl,rfl,rfl,rfl,trivial⟩ ⟨rfl,rfl,rfl,trivial⟩
   · refine ⟨hte,?_,ho1⟩
     rw [←ht3,fW];simp only [bA]
   show left.length - (t+1)<left.length - t
   omega
 have hte:t=left.length:=sE
 subst hte
 rw [nG] at ht3
 have ht3:cd=Tg:=by rw [←ht3];exact (bR _).symm
 subst ht3
 refine bE 11 [0] ?_
 refine sD ?_
 refine jZ yZ (Ho:=[(0,some b,.cells #[.int .i64 wh.length,.slice o cd.length d,.slice wa wh.length wc] 267),(1,o.map (·.block),Row 91 cd q)]) rfl ⟨rfl,rfl,trivial⟩ ?_
 exact ⟨rfl,rfl,o,d,q,ht4,rfl⟩
end Go.Proofs.YtfdcckcadfhpeaaGreatDoor
namespace Go.Sl
open Go
theorem boolDec (y:Bool):Value.bool y=Value.bool (decide (y=true)):=by cases y <;> rfl
section
variable {α:Type} [Cells α] [Inhabited α] {P:Program} {ops:Array Oper} {rest:List Oper} {B:Bs} {e:Env} {D:List Deferred} {H:Hp} {G:Imm} {K:Act→World→Prop}
 {ty:TypeId} {pos:String} {after:Array Edge} {d:Nat}
end
section
variable {α:Type} [Cells α] {P:Program} {ops:Array Oper} {rest:List Oper} {B:Bs} {e:Env} {D:List Deferred} {H:Hp} {G:Imm} {K:Act→World→Prop}
 {ty:TypeId} {pos:String} {after:Array Edge} {d:Nat}
end
end Go.Sl
namespace Go.Proofs.YtfdcckcadfhpeaaGreatDoor
open Go Go.Sl
theorem Ce {n u v:Int} {ti:List Bool} {m:Nat} {low own:Bool} (hl:(decide (0<m) && ti[m - 1]?.getD false && decide (u≠0))=low) (ho:(ti[m]?.getD false && decide (v≠0))=own) :
 As n u v ti m=(ti.set m (own || low),(if low then sM (3*n) (2*n+(m - 1)) u else [])++(if own && low then sM (2*n+m) (2*n+m) v++[⟨3,2*n+m,2*n+m,3*n,0⟩] else if own then sM (2*n+m) (2*n+m) v else if low then sM (2*n+m) (3*n) 1 else [])):=by
 subst hl ho;rfl
theorem gx (G:Imm) (b:Nat) (ac:Option Addr) (cc:Nat) (code:List Sl.Instr) (j:List Value) (wa:Option Addr) (wc:Nat) (wh:List R2) (k:Int) (e:Nat) (ho:OwnA ac cc code j) (hw:Arr G wa wh)
 (hwl:wh.length≤15) (hk:0≤k∧k<wh.length) (he:e<wh.length) (hok:Od (wh[k.toNat]?.getD default)) (hl:(code++yX wh.length (bezS (wh[k.toNat]?.getD default).a (wh[k.toNat]?.getD default).b) (bezT (wh[k.toNat]?.getD default).a (wh[k.toNat]?.getD default).b) k e).length≤1048576) :
 Does Tryz.prog 232 [.pointer (some ⟨b,0,none⟩),.int .i64 k,.int .i64 e] G [(0,some b,.cells #[.int .i64 wh.length,.slice ac code.length cc,.slice wa wh.length wc] 267),(1,ac.map (·.block),Row 91 code j)]
  (fun v G' Ho=>G'=G∧∃ (a':Option Addr) (c':Nat) (j':List Value) (th:List Bool) (cd:List Sl.Instr) (tb:Nat),th=xM wh.length (bezS (wh[k.toNat]?.getD default).a (wh[k.toNat]?.getD default).b) (bezT (wh[k.toNat]?.getD default).a (wh[k.toNat]?.getD default).b) e∧
   cd=code++yX wh.length (bezS (wh[k.toNat]?.getD default).a (wh[k.toNat]?.getD default).b) (bezT (wh[k.toNat]?.getD default).a (wh[k.toNat]?.getD default).b) k e∧v=.slice (some ⟨tb,0,none⟩) th.length th.length∧OwnA a' c' cd j'∧OwnA (some ⟨tb,0,none⟩) th.length th []∧
   Ho=[(0,some b,.cells #[.int .i64 wh.length,.slice a' cd.length c',.slice wa wh.length wc] 267),(1,a'.map (·.block),Row 91 cd j'),(2,some tb,Row 4 th [])]):=by
 have hl0:code.length≤1048576:=by rw [aC] at hl;omega
 obtain ⟨hnk,hzk⟩:=hok
 obtain ⟨_,b2,_,_⟩:=Et hnk hzk
 refine fK Tryz.func232 rfl Tryz.ntmps232 rfl fun w=>?_
 refine aJ 12 [0] ?_
 refine eG rfl (jA (α:=R2) T.sl22 rfl rfl sF sE) ?_
 refine eG rfl (gZ T.agg52 rfl (jY sF sE) rfl) ?_
 refine mG rfl T.fn192 rfl (XI _ _ _ sF sF) ?_
 refine aL 15 [] ?_
 refine fV (α:=Bool) 2 rfl T.sl138 T.el4 rfl rfl sE sE fun b1=>?_
 refine aL 6 [] ?_
 generalize hu:bezS (wh[k.toNat]?.getD default).a (wh[k.toNat]?.getD default).b=u at *
 generalize hv:bezT (wh[k.toNat]?.getD default).a (wh[k.toNat]?.getD default).b=v at *
 have hR1:List.replicate ((e:Int)+1).toNat (default:Bool)=List.replicate (e+1) false:=by rw [show ((e:Int)+1).toNat=e+1 by omega];rfl
 generalize hR0:List.replicate ((e:Int)+1).toNat (default:Bool)=R0 at *
 have hR0l:R0.length=e+1:=by rw [hR1,aI]
 have hoR:OwnA (some ⟨b1,0,none⟩) R0.length R0 []:=fM Nc
 refine eG rfl (dO (α:=Bool) T.sl138 rfl rfl sF sE) ?_
 refine cU (z:=_) 2 T.size4 rfl rfl rfl sF sE rfl fun ho1=>?_
 refine aL 6 [] ?_
 refine eH 0 rfl T.fn233 rfl (Kt _ b _ _ _ _ sE sE) (sJ ⟨rfl,trivial⟩) ?_
 refine eG rfl (cV rfl) ?_
 refine eK 0 rfl T.fn195 rfl (Fh _ b _ ac cc code j wa _ wc _ _ _ ho hl0) (sJ ⟨rfl,rfl,trivial⟩) fun v1 G1 Ho1 hle1 hp=>?_
 obtain ⟨rfl,rfl,a1,d1,j1,ho1,rfl⟩:=hp
 refine aZ 9 [] ?_
 have hTg:code++yX wh.length u v k e=(code++sM (2*(wh.length:Int)+0) k 1)++(Gj wh.length u v e 1 (R0.set (Int.toNat 0) true)).2:=by
  unfold yX
  rw [eV,hR1,bA];rfl
 have hTh:xM wh.length u v e=(Gj wh.length u v e 1 (R0.set (Int.toNat 0) true)).1:=by unfold xM;rw [hR1];rfl
 generalize code++yX wh.length u v k e=Tg at *
 generalize xM wh.length u v e=Th at *
 refine iI 11 rfl (show _=Value.slice (some ⟨b1,0,none⟩) (R0.set (Int.toNat 0) true).length (e+1) by rw [aG,hR0l]) ?_
 refine gL (ι:=Nat×List Bool×List Sl.Instr×(Option Addr×Nat×List Value)) (fun (d,th,cd,(o,dd,q))=>([(12,.int .i64 (d:Int)),(11,.slice (some ⟨b1,0,none⟩) th.length (e+1)),(9,Go.Value.int Go.IntKind.i64 v),(8,Go.Value.int Go.IntKind.i64 u),(6,Go.Value.slice Option.none 0 0),(0,Go.Value.pointer (Option.some (Go.Addr.mk b 0 Option.none))),(2,Go.Value.int Go.IntKind.i64 (↑e:Int))],[(0,some b,.cells #[.int .i64 wh.length,.slice o cd.length dd,.slice wa wh.length wc] 267),(1,o.map (·.block),Row 91 cd q),(2,some b1,Row 4 th [])])) (fun (d,th,cd,(o,dd,q))=>(1≤d∧d≤e+1)∧th.length=e+1∧(Gj wh.length u v (e+1 - d) d th).1=Th∧cd++(Gj wh.length u v (e+1 - d) d th).2=Tg∧OwnA (some ⟨b1,0,none⟩) (e+1) th []∧OwnA o dd cd q) (fun (d,th,cd,(o,dd,q))=>e+1 - d) ((1,_,code++sM (2*(wh.length:Int)+0) k 1,(a1,d1,j1))) (⟨by omega,by rw [aG,hR0l],hTh.symm,hTg.symm,by rw [←hR0l];assumption,ho1⟩) ⟨rfl,rfl,rfl,rfl,rfl,rfl,rfl,trivial⟩ ⟨rfl,rfl,rfl,trivial⟩ fun ⟨d,th,cd,(o,dd,q)⟩=>fun hk=>?_
 obtain ⟨⟨hd1,hd2⟩,hth,hT1,hT2,hoT,hoC⟩:=hk
 have hcl:cd.length≤1048576:=by rw [←hT2,aC] at hl;omega
 rcases aK d (e+1) with hde | hde
 · have e1:e+1 - d=(e+1 - (d+1))+1:=sE
   rw [e1] at hT1 hT2
   unfold Gj at hT1 hT2
   simp only at hT1 hT2
   refine bJ 20 [1] ?_
   generalize hA1:(Sm wh.length u v (d+1) th).1=A1 at *
   generalize hB1:(Sm wh.length u v (d+1) th).2=B1 at *
   have hcb:(cd++B1).length≤1048576:=by rw [←hT2,←bA,aC] at hl;omega
   refine iI 13 rfl (show _=Value.int .i64 (((d+1:Nat):Int) - 1) by congr 1;omega) ?_
   refine gL (ι:=Nat×List Bool×List Sl.Instr×(Option Addr×Nat×List Value)) (fun (m,ti,ci,(o,dd,q))=>([(13,.int .i64 ((m:Int) - 1)),(2,.int .i64 (e:Int)),(12,.int .i64 (d:Int)),(11,.slice (some ⟨b1,0,none⟩) ti.length (e+1)),(9,Go.Value.int Go.IntKind.i64 v),(8,Go.Value.int Go.IntKind.i64 u),(6,Go.Value.slice Option.none 0 0),(0,Go.Value.pointer (Option.some (Go.Addr.mk b 0 Option.none)))],[(0,some b,.cells #[.int .i64 wh.length,.slice o ci.length dd,.slice wa wh.length wc] 267),(1,o.map (·.block),Row 91 ci q),(2,some b1,Row 4 ti [])])) (fun (m,ti,ci,(o,dd,q))=>m≤d+1∧ti.length=e+1∧(Sm wh.length u v m ti).1=A1∧ci++(Sm wh.length u v m ti).2=cd++B1∧OwnA (some ⟨b1,0,none⟩) (e+1) ti []∧OwnA o dd ci q) (fun (m,ti,ci,(o,dd,q))=>m) ((d+1,th,cd,(o,dd,q))) (⟨aH _,hth,hA1,by rw [hB1],hoT,hoC⟩) ⟨rfl,rfl,rfl,rfl,rfl,rfl,rfl,rfl,trivial⟩ ⟨rfl,rfl,rfl,trivial⟩ fun ⟨m,ti,ci,(o,dd,q)⟩=>fun hk=>?_
   obtain ⟨hm1,hti,hS1,hS2,hoTi,hoCi⟩:=hk
   have hcil:ci.length≤1048576:=by rw [←hS2,aC] at hcb;omega
   match m,hm1,hS1,hS2 with
   | 0,hm1,hS1,hS2 =>
     have hS1:ti=A1:=hS1
     have hS2:ci=cd++B1:=by rw [←hS2];exact (bR _).symm
     refine bE 19 [0] ?_
     refine cN 12 rfl (show _=Value.int .i64 ((d+1:Nat):Int) from rfl) ?_
     refine fR ((d+1,ti,ci,(o,dd,q))) ?_ ?_ rfl ⟨rfl,rfl,rfl,rfl,rfl,rfl,rfl,trivial⟩ ⟨rfl,rfl,rfl,trivial⟩
     · refine ⟨by omega,hti,?_,?_,hoTi,hoCi⟩
       · rw [hS1];exact hT1
       rw [hS1,hS2,bA];exact hT2
     · show e+1 - (d+1)<e+1 - d
       omega
   | m+1,hm1,hS1,hS2 =>
     refine iI 13 rfl (show _=Value.int .i64 (m:Int) by congr 1;omega) ?_
     unfold Sm at hS1 hS2
     simp only at hS1 hS2
     have hdf:∀ z:Nat,ti[z]?.getD default=ti[z]?.getD false:=fun z=>rfl
     have hlowF:(¬(0<m∧ti[m - 1]?.getD false=true∧u≠0))→(decide (0<m) && ti[m - 1]?.getD false && decide (u≠0))=false:=fun h=>by
      cases hx:ti[m - 1]?.getD false <;> by_cases h1:0<m <;> by_cases h2:u≠0 <;> simp [h1,h2]
      exact h ⟨h1,hx,h2⟩
     have hownF:(¬(ti[m]?.getD false=true∧v≠0))→(ti[m]?.getD false && decide (v≠0))=false:=fun h=>by
      cases hx:ti[m]?.getD false <;> by_cases h2:v≠0 <;> simp [h2]
      exact h ⟨hx,h2⟩
     have hownT:(ti[m]?.getD false=true∧v≠0)→(ti[m]?.getD false && decide (v≠0))=true:=fun h=>by rw [h.1,cA h.2];rfl
     have hlowT:(0<m∧ti[m - 1]?.getD false=true∧u≠0)→(decide (0<m) && ti[m - 1]?.getD false && decide (u≠0))=true:=fun h=>by rw [h.2.1,cA h.1,cA h.2.2];rfl
     have hbd:(ci++(As wh.length u v ti m).2).length≤1048576:=by
      have:(ci++((As wh.length u v ti m).2++(Sm wh.length u v m (As wh.length u v ti m).1).2)).length≤1048576:=by rw [hS2];exact hcb
      rw [aC,aC] at this
      rw [aC];omega
     have hoN:∀ {x:Bool},OwnA (some ⟨b1,0,none⟩) (e+1) (ti.set m x) []:=hoTi.elim (fun h=>by cases h.1) (fun ⟨b,h1,h2,h3,h4⟩=>.inr ⟨b,h1,by rw [aG];exact h2,by rw [aG];exact h3,h4⟩)
     rcases fZ m with hm0 | hm0
     · by_cases hO:ti[(m:Int).toNat]?.getD default=true∧v≠0
       · have hrs:=Ce (n:=wh.length) (hlowF (fun h=>by omega)) (hownT hO)
         rw [hrs] at hbd
         refine aJ 17 [1] ?_
         refine mA 51 rfl tJ ?_
         refine aL 17 [] ?_
         refine eG rfl (dO (α:=Bool) T.sl138 rfl rfl sF sE) ?_
         refine eG rfl (fG 2 0 T.one4 rfl rfl sF sE rfl rfl) ?_
         refine eG rfl (cV rfl) ?_
         refine gK 66 rfl (Go.Sl.boolDec _) ?_
         apply bW 3 66 69 rfl
         intro hg1
         refine aB 5 [] ?_
         exact iF 3 0 rfl rfl rfl rfl rfl
         intro hg1
         refine aB 3 [] ?_
         exact iF 3 0 rfl rfl rfl rfl rfl
         refine aL 18 [0] ?_
         refine mE 82 rfl tJ ?_
         refine aL 18 [0,1] ?_
         refine eH 0 rfl T.fn233 rfl (Kt _ b _ _ _ _ sE sE) (sJ ⟨rfl,trivial⟩) ?_
         refine aB 2 [] ?_
         refine eH 0 rfl T.fn233 rfl (Kt _ b _ _ _ _ sE sE) (sJ ⟨rfl,trivial⟩) ?_
         refine eG rfl (cV rfl) ?_
         refine eK 0 rfl T.fn195 rfl (Fh _ b _ o dd ci q wa _ wc _ _ _ hoCi hcil) (sJ ⟨rfl,rfl,trivial⟩) fun v2 G2 Ho2 hle2 hp=>?_
         obtain ⟨rfl,rfl,a2,d2,j2,ho2,rfl⟩:=hp
         refine aL 8 [] ?_
         refine mE 127 rfl tJ ?_
         refine aB 2 [] ?_
         refine eG rfl (dO (α:=Bool) T.sl138 rfl rfl sF sE) ?_
         refine cU (z:=_) 2 T.size4 rfl rfl rfl sF sE rfl fun ho3=>?_
         refine aR 8 [] ?_
         refine fY 2 (Row 4 (ti.set m (true || false)) []) rfl Rk ?_
         refine cN 13 rfl (show _=Value.int .i64 ((m:Int) - 1) from rfl) ?_
         refine cN 11 rfl (show _=Value.slice (some ⟨b1,0,none⟩) (ti.set m (true || false)).length (e+1) by rw [aG]) ?_
         refine fR ((m,ti.set m (true || false),ci++sM (2*(wh.length:Int)+(m:Int)) (2*(wh.length:Int)+(m:Int)) v,(a2,d2,j2))) ?_ ?_ rfl ⟨rfl,rfl,rfl,rfl,rfl,rfl,rfl,rfl,trivial⟩ ⟨rfl,rfl,rfl,trivial⟩
         · refine ⟨by omega,by rw [aG];exact hti,?_,?_,hoN,ho2⟩
           · rw [←hS1,hrs]
           rw [←hS2,hrs]
           simp
         show m<m+1
         omega
       have hrs:=Ce (n:=wh.length) (hlowF (fun h=>by omega)) (hownF hO)
       refine aJ 17 [1] ?_
       refine mA 51 rfl tJ ?_
       refine aL 17 [] ?_
       refine eG rfl (dO (α:=Bool) T.sl138 rfl rfl sF sE) ?_
       refine eG rfl (fG 2 0 T.one4 rfl rfl sF sE rfl rfl) ?_
       refine eG rfl (cV rfl) ?_
       refine gK 66 rfl (Go.Sl.boolDec _) ?_
       apply bW 3 66 69 rfl
       intro hg1
       refine aB 5 [] ?_
       exact iF 3 0 rfl rfl rfl rfl rfl
       intro hg1
       refine aB 3 [] ?_
       exact iF 3 0 rfl rfl rfl rfl rfl
       refine aL 18 [0] ?_
       refine mA 82 rfl tJ ?_
       refine aL 28 [0,0,0] ?_
       refine mA 127 rfl tJ ?_
       refine aB 3 [] ?_
       refine eG rfl (dO (α:=Bool) T.sl138 rfl rfl sF sE) ?_
       refine cU (z:=_) 2 T.size4 rfl rfl rfl sF sE rfl fun ho2=>?_
       refine aR 8 [] ?_
       refine fY 2 (Row 4 (ti.set m (false || false)) []) rfl Rk ?_
       refine cN 13 rfl (show _=Value.int .i64 ((m:Int) - 1) from rfl) ?_
       refine cN 11 rfl (show _=Value.slice (some ⟨b1,0,none⟩) (ti.set m (false || false)).length (e+1) by rw [aG]) ?_
       refine fR ((m,ti.set m (false || false),ci,(o,dd,q))) ?_ ?_ rfl ⟨rfl,rfl,rfl,rfl,rfl,rfl,rfl,rfl,trivial⟩ ⟨rfl,rfl,rfl,trivial⟩
       · refine ⟨by omega,by rw [aG];exact hti,?_,?_,hoN,hoCi⟩
         · rw [←hS1,hrs]
         rw [←hS2,hrs]
         simp
       show m<m+1
       omega
     have hm1e:((m:Int) - 1).toNat=m - 1:=sE
     by_cases hL:ti[((m:Int) - 1).toNat]?.getD default=true∧u≠0
     · have hlow:=hlowT ⟨hm0,by rw [←hm1e];exact hL.1,hL.2⟩
       by_cases hO:ti[(m:Int).toNat]?.getD default=true∧v≠0
       · have hOL:(ti[(m:Int).toNat]?.getD default=true∧v≠0)∧ti[((m:Int) - 1).toNat]?.getD default=true∧u≠0:=⟨hO,hL⟩
         have hrs:=Ce (n:=wh.length) hlow (hownT hO)
         rw [hrs] at hbd
         have hb1:((ci++sM (3*(wh.length:Int)) (2*(wh.length:Int)+((m:Int) - 1)) u)++sM (2*(wh.length:Int)+(m:Int)) (2*(wh.length:Int)+(m:Int)) v).length≤1048576:=by
          simp only [Bool.and_self,iD,aC,iU] at hbd
          simp only [aC]
          omega
         have hb0:(ci++sM (3*(wh.length:Int)) (2*(wh.length:Int)+((m:Int) - 1)) u).length≤1048576:=by rw [aC] at hb1;omega
         refine aJ 17 [1] ?_
         refine mE 51 rfl tJ ?_
         refine aB 7 [] ?_
         refine eG rfl (dO (α:=Bool) T.sl138 rfl rfl sF sE) ?_
         refine pP rfl rfl ?_
         refine eG rfl (fG 2 0 T.one4 rfl rfl sF sE rfl rfl) ?_
         refine aB 2 [] ?_
         refine gK 58 rfl (Go.Sl.boolDec _) ?_
         apply bW 3 58 61 rfl
         intro hg1
         refine aB 5 [] ?_
         exact iF 3 0 rfl rfl rfl rfl rfl
         intro hg1
         refine aB 3 [] ?_
         exact iF 3 0 rfl rfl rfl rfl rfl
         refine aL 7 [] ?_
         refine eG rfl (dO (α:=Bool) T.sl138 rfl rfl sF sE) ?_
         refine eG rfl (fG 2 0 T.one4 rfl rfl sF sE rfl rfl) ?_
         refine eG rfl (cV rfl) ?_
         refine gK 66 rfl (Go.Sl.boolDec _) ?_
         apply bW 3 66 69 rfl
         intro hg1
         refine aB 5 [] ?_
         exact iF 3 0 rfl rfl rfl rfl rfl
         intro hg1
         refine aB 3 [] ?_
         exact iF 3 0 rfl rfl rfl rfl rfl
         refine aL 13 [1] ?_
         refine eH 0 rfl T.fn231 rfl (AA _ b _ _ _ sE) (sJ ⟨rfl,trivial⟩) ?_
         refine aB 3 [] ?_
         refine eH 0 rfl T.fn233 rfl (Kt _ b _ _ _ _ sE sE) (sJ ⟨rfl,trivial⟩) ?_
         refine eG rfl (cV rfl) ?_
         refine eK 0 rfl T.fn195 rfl (Fh _ b _ o dd ci q wa _ wc _ _ _ hoCi hcil) (sJ ⟨rfl,rfl,trivial⟩) fun v2 G2 Ho2 hle2 hp=>?_
         obtain ⟨rfl,rfl,a2,d2,j2,ho2,rfl⟩:=hp
         refine aL 8 [] ?_
         refine mE 82 rfl tJ ?_
         refine aL 12 [1] ?_
         refine eH 0 rfl T.fn233 rfl (Kt _ b _ _ _ _ sE sE) (sJ ⟨rfl,trivial⟩) ?_
         refine aB 2 [] ?_
         refine eH 0 rfl T.fn233 rfl (Kt _ b _ _ _ _ sE sE) (sJ ⟨rfl,trivial⟩) ?_
         refine eG rfl (cV rfl) ?_
         refine eK 0 rfl T.fn195 rfl (Fh _ b _ a2 d2 (ci++sM (3*(wh.length:Int)) (2*(wh.length:Int)+((m:Int) - 1)) u) j2 wa _ wc _ _ _ ho2 hb0) (sJ ⟨rfl,rfl,trivial⟩) fun v3 G3 Ho3 hle3 hp=>?_
         obtain ⟨rfl,rfl,a3,d3,j3,ho3,rfl⟩:=hp
         refine aL 6 [] ?_
         refine eH 0 rfl T.fn233 rfl (Kt _ b _ _ _ _ sE sE) (sJ ⟨rfl,trivial⟩) ?_
         refine aB 2 [] ?_
         refine eH 0 rfl T.fn233 rfl (Kt _ b _ _ _ _ sE sE) (sJ ⟨rfl,trivial⟩) ?_
         refine eG rfl (cV rfl) ?_
         refine eH 0 rfl T.fn231 rfl (AA _ b _ _ _ sE) (sJ ⟨rfl,trivial⟩) ?_
         refine eK 0 rfl T.fn228 rfl (Rf _ b _ a3 d3 ((ci++sM (3*(wh.length:Int)) (2*(wh.length:Int)+((m:Int) - 1)) u)++sM (2*(wh.length:Int)+(m:Int)) (2*(wh.length:Int)+(m:Int)) v) j3 wa _ wc _ _ _ _ _ ho3 hb1) (sJ ⟨rfl,rfl,trivial⟩) fun v4 G4 Ho4 hle4 hp=>?_
         obtain ⟨rfl,rfl,a4,d4,j4,ho4,rfl⟩:=hp
         refine aL 8 [] ?_
         refine mE 127 rfl tJ ?_
         refine aB 2 [] ?_
         refine eG rfl (dO (α:=Bool) T.sl138 rfl rfl sF sE) ?_
         refine cU (z:=_) 2 T.size4 rfl rfl rfl sF sE rfl fun ho5=>?_
         refine aR 8 [] ?_
         refine fY 2 (Row 4 (ti.set m (true || true)) []) rfl Rk ?_
         refine cN 13 rfl (show _=Value.int .i64 ((m:Int) - 1) from rfl) ?_
         refine cN 11 rfl (show _=Value.slice (some ⟨b1,0,none⟩) (ti.set m (true || true)).length (e+1) by rw [aG]) ?_
         refine fR ((m,ti.set m (true || true),((ci++sM (3*(wh.length:Int)) (2*(wh.length:Int)+((m:Int) - 1)) u)++sM (2*(wh.length:Int)+(m:Int)) (2*(wh.length:Int)+(m:Int)) v)++[(⟨3,2*(wh.length:Int)+(m:Int),2*(wh.length:Int)+(m:Int),3*(wh.length:Int),0⟩:Sl.Instr)],(a4,d4,j4))) ?_ ?_ rfl ⟨rfl,rfl,rfl,rfl,rfl,rfl,rfl,rfl,trivial⟩ ⟨rfl,rfl,rfl,trivial⟩
         · refine ⟨by omega,by rw [aG];exact hti,?_,?_,hoN,ho4⟩
           · rw [←hS1,hrs]
           rw [←hS2,hrs]
           simp
         show m<m+1
         omega
       have hOL:¬((ti[(m:Int).toNat]?.getD default=true∧v≠0)∧ti[((m:Int) - 1).toNat]?.getD default=true∧u≠0):=fun h=>hO h.1
       have hrs:=Ce (n:=wh.length) hlow (hownF hO)
       rw [hrs] at hbd
       have hb0:(ci++sM (3*(wh.length:Int)) (2*(wh.length:Int)+((m:Int) - 1)) u).length≤1048576:=by
        simp only [iD,aC] at hbd
        simp only [aC]
        omega
       refine aJ 17 [1] ?_
       refine mE 51 rfl tJ ?_
       refine aB 7 [] ?_
       refine eG rfl (dO (α:=Bool) T.sl138 rfl rfl sF sE) ?_
       refine pP rfl rfl ?_
       refine eG rfl (fG 2 0 T.one4 rfl rfl sF sE rfl rfl) ?_
       refine aB 2 [] ?_
       refine gK 58 rfl (Go.Sl.boolDec _) ?_
       apply bW 3 58 61 rfl
       intro hg1
       refine aB 5 [] ?_
       exact iF 3 0 rfl rfl rfl rfl rfl
       intro hg1
       refine aB 3 [] ?_
       exact iF 3 0 rfl rfl rfl rfl rfl
       refine aL 7 [] ?_
       refine eG rfl (dO (α:=Bool) T.sl138 rfl rfl sF sE) ?_
       refine eG rfl (fG 2 0 T.one4 rfl rfl sF sE rfl rfl) ?_
       refine eG rfl (cV rfl) ?_
       refine gK 66 rfl (Go.Sl.boolDec _) ?_
       apply bW 3 66 69 rfl
       intro hg1
       refine aB 5 [] ?_
       exact iF 3 0 rfl rfl rfl rfl rfl
       intro hg1
       refine aB 3 [] ?_
       exact iF 3 0 rfl rfl rfl rfl rfl
       refine aL 13 [1] ?_
       refine eH 0 rfl T.fn231 rfl (AA _ b _ _ _ sE) (sJ ⟨rfl,trivial⟩) ?_
       refine aB 3 [] ?_
       refine eH 0 rfl T.fn233 rfl (Kt _ b _ _ _ _ sE sE) (sJ ⟨rfl,trivial⟩) ?_
       refine eG rfl (cV rfl) ?_
       refine eK 0 rfl T.fn195 rfl (Fh _ b _ o dd ci q wa _ wc _ _ _ hoCi hcil) (sJ ⟨rfl,rfl,trivial⟩) fun v2 G2 Ho2 hle2 hp=>?_
       obtain ⟨rfl,rfl,a2,d2,j2,ho2,rfl⟩:=hp
       refine aL 8 [] ?_
       refine mA 82 rfl tJ ?_
       refine aL 24 [0,0,1] ?_
       refine eH 0 rfl T.fn233 rfl (Kt _ b _ _ _ _ sE sE) (sJ ⟨rfl,trivial⟩) ?_
       refine eG rfl (cV rfl) ?_
       refine eH 0 rfl T.fn231 rfl (AA _ b _ _ _ sE) (sJ ⟨rfl,trivial⟩) ?_
       refine eK 0 rfl T.fn195 rfl (Fh _ b _ a2 d2 (ci++sM (3*(wh.length:Int)) (2*(wh.length:Int)+((m:Int) - 1)) u) j2 wa _ wc _ _ _ ho2 hb0) (sJ ⟨rfl,rfl,trivial⟩) fun v3 G3 Ho3 hle3 hp=>?_
       obtain ⟨rfl,rfl,a3,d3,j3,ho3,rfl⟩:=hp
       refine aL 8 [] ?_
       refine mA 127 rfl tJ ?_
       refine aB 3 [] ?_
       refine eG rfl (dO (α:=Bool) T.sl138 rfl rfl sF sE) ?_
       refine cU (z:=_) 2 T.size4 rfl rfl rfl sF sE rfl fun ho4=>?_
       refine aR 8 [] ?_
       refine fY 2 (Row 4 (ti.set m (false || true)) []) rfl Rk ?_
       refine cN 13 rfl (show _=Value.int .i64 ((m:Int) - 1) from rfl) ?_
       refine cN 11 rfl (show _=Value.slice (some ⟨b1,0,none⟩) (ti.set m (false || true)).length (e+1) by rw [aG]) ?_
       refine fR ((m,ti.set m (false || true),(ci++sM (3*(wh.length:Int)) (2*(wh.length:Int)+((m:Int) - 1)) u)++sM (2*(wh.length:Int)+(m:Int)) (3*(wh.length:Int)) 1,(a3,d3,j3))) ?_ ?_ rfl ⟨rfl,rfl,rfl,rfl,rfl,rfl,rfl,rfl,trivial⟩ ⟨rfl,rfl,rfl,trivial⟩
       · refine ⟨by omega,by rw [aG];exact hti,?_,?_,hoN,ho3⟩
         · rw [←hS1,hrs]
         rw [←hS2,hrs]
         simp
       show m<m+1
       omega
     have hOL:¬((ti[(m:Int).toNat]?.getD default=true∧v≠0)∧ti[((m:Int) - 1).toNat]?.getD default=true∧u≠0):=fun h=>hL h.2
     have hlow:=hlowF (fun h=>hL ⟨by rw [hm1e];exact h.2.1,h.2.2⟩)
     by_cases hO:ti[(m:Int).toNat]?.getD default=true∧v≠0
     · have hrs:=Ce (n:=wh.length) hlow (hownT hO)
       rw [hrs] at hbd
       refine aJ 17 [1] ?_
       refine mE 51 rfl tJ ?_
       refine aB 7 [] ?_
       refine eG rfl (dO (α:=Bool) T.sl138 rfl rfl sF sE) ?_
       refine pP rfl rfl ?_
       refine eG rfl (fG 2 0 T.one4 rfl rfl sF sE rfl rfl) ?_
       refine aB 2 [] ?_
       refine gK 58 rfl (Go.Sl.boolDec _) ?_
       apply bW 3 58 61 rfl
       intro hg1
       refine aB 5 [] ?_
       exact iF 3 0 rfl rfl rfl rfl rfl
       intro hg1
       refine aB 3 [] ?_
       exact iF 3 0 rfl rfl rfl rfl rfl
       refine aL 7 [] ?_
       refine eG rfl (dO (α:=Bool) T.sl138 rfl rfl sF sE) ?_
       refine eG rfl (fG 2 0 T.one4 rfl rfl sF sE rfl rfl) ?_
       refine eG rfl (cV rfl) ?_
       refine gK 66 rfl (Go.Sl.boolDec _) ?_
       apply bW 3 66 69 rfl
       intro hg1
       refine aB 5 [] ?_
       exact iF 3 0 rfl rfl rfl rfl rfl
       intro hg1
       refine aB 3 [] ?_
       exact iF 3 0 rfl rfl rfl rfl rfl
       refine aL 18 [0] ?_
       refine mE 82 rfl tJ ?_
       refine aL 18 [0,1] ?_
       refine eH 0 rfl T.fn233 rfl (Kt _ b _ _ _ _ sE sE) (sJ ⟨rfl,trivial⟩) ?_
       refine aB 2 [] ?_
       refine eH 0 rfl T.fn233 rfl (Kt _ b _ _ _ _ sE sE) (sJ ⟨rfl,trivial⟩) ?_
       refine eG rfl (cV rfl) ?_
       refine eK 0 rfl T.fn195 rfl (Fh _ b _ o dd ci q wa _ wc _ _ _ hoCi hcil) (sJ ⟨rfl,rfl,trivial⟩) fun v2 G2 Ho2 hle2 hp=>?_
       obtain ⟨rfl,rfl,a2,d2,j2,ho2,rfl⟩:=hp
       refine aL 8 [] ?_
       refine mE 127 rfl tJ ?_
       refine aB 2 [] ?_
       refine eG rfl (dO (α:=Bool) T.sl138 rfl rfl sF sE) ?_
       refine cU (z:=_) 2 T.size4 rfl rfl rfl sF sE rfl fun ho3=>?_
       refine aR 8 [] ?_
       refine fY 2 (Row 4 (ti.set m (true || false)) []) rfl Rk ?_
       refine cN 13 rfl (show _=Value.int .i64 ((m:Int) - 1) from rfl) ?_
       refine cN 11 rfl (show _=Value.slice (some ⟨b1,0,none⟩) (ti.set m (true || false)).length (e+1) by rw [aG]) ?_
       refine fR ((m,ti.set m (true || false),ci++sM (2*(wh.length:Int)+(m:Int)) (2*(wh.length:Int)+(m:Int)) v,(a2,d2,j2))) ?_ ?_ rfl ⟨rfl,rfl,rfl,rfl,rfl,rfl,rfl,rfl,trivial⟩ ⟨rfl,rfl,rfl,trivial⟩
       · refine ⟨by omega,by rw [aG];exact hti,?_,?_,hoN,ho2⟩
         · rw [←hS1,hrs]
         rw [←hS2,hrs]
         simp
       show m<m+1
       omega
     have hrs:=Ce (n:=wh.length) hlow (hownF hO)
     refine aJ 17 [1] ?_
     refine mE 51 rfl tJ ?_
     refine aB 7 [] ?_
     refine eG rfl (dO (α:=Bool) T.sl138 rfl rfl sF sE) ?_
     refine pP rfl rfl ?_
     refine eG rfl (fG 2 0 T.one4 rfl rfl sF sE rfl rfl) ?_
     refine aB 2 [] ?_
     refine gK 58 rfl (Go.Sl.boolDec _) ?_
     apply bW 3 58 61 rfl
     intro hg1
     refine aB 5 [] ?_
     exact iF 3 0 rfl rfl rfl rfl rfl
     intro hg1
     refine aB 3 [] ?_
     exact iF 3 0 rfl rfl rfl rfl rfl
     refine aL 7 [] ?_
     refine eG rfl (dO (α:=Bool) T.sl138 rfl rfl sF sE) ?_
     refine eG rfl (fG 2 0 T.one4 rfl rfl sF sE rfl rfl) ?_
     refine eG rfl (cV rfl) ?_
     refine gK 66 rfl (Go.Sl.boolDec _) ?_
     apply bW 3 66 69 rfl
     intro hg1
     refine aB 5 [] ?_
     exact iF 3 0 rfl rfl rfl rfl rfl
     intro hg1
     refine aB 3 [] ?_
     exact iF 3 0 rfl rfl rfl rfl rfl
     refine aL 18 [0] ?_
     refine mA 82 rfl tJ ?_
     refine aL 28 [0,0,0] ?_
     refine mA 127 rfl tJ ?_
     refine aB 3 [] ?_
     refine eG rfl (dO (α:=Bool) T.sl138 rfl rfl sF sE) ?_
     refine cU (z:=_) 2 T.size4 rfl rfl rfl sF sE rfl fun ho2=>?_
     refine aR 8 [] ?_
     refine fY 2 (Row 4 (ti.set m (false || false)) []) rfl Rk ?_
     refine cN 13 rfl (show _=Value.int .i64 ((m:Int) - 1) from rfl) ?_
     refine cN 11 rfl (show _=Value.slice (some ⟨b1,0,none⟩) (ti.set m (false || false)).length (e+1) by rw [aG]) ?_
     refine fR ((m,ti.set m (false || false),ci,(o,dd,q))) ?_ ?_ rfl ⟨rfl,rfl,rfl,rfl,rfl,rfl,rfl,rfl,trivial⟩ ⟨rfl,rfl,rfl,trivial⟩
     · refine ⟨by omega,by rw [aG];exact hti,?_,?_,hoN,hoCi⟩
       · rw [←hS1,hrs]
       rw [←hS2,hrs]
       simp
     show m<m+1
     omega
 have hde:d=e+1:=sE
 subst hde
 rw [hJ] at hT1 hT2
 have hT1:th=Th:=hT1
 have hT2:cd=Tg:=by rw [←hT2];exact (bR _).symm
 subst hT1 hT2
 refine bE 21 [0] ?_
 refine cK yZ (Ho:=[(0,some b,.cells #[.int .i64 wh.length,.slice o cd.length dd,.slice wa wh.length wc] 267),(1,o.map (·.block),Row 91 cd q),(2,some b1,Row 4 th [])]) rfl (.tmp rfl) ⟨rfl,rfl,rfl,trivial⟩ ?_
 exact ⟨rfl,o,dd,q,th,cd,b1,rfl,rfl,by rw [hth],hoC,by rw [hth];exact hoT,rfl⟩
def VK (n:Int) (p:R2) (e m:Nat):List Sl.Instr:=if m=e+1 then In n p e else Ve n p m
theorem AB (n:Int) (th:List Bool) {t:Nat} (h:t<th.length):Bm n (th.drop t) t=(if th[((t:Nat):Int).toNat]?.getD default=true then [(⟨3,n+t,n+t,2*n+t,0⟩:Sl.Instr)] else [])++Bm n (th.drop (t+1)) (t+1):=by
 rw [dM h,aE,aA h];rfl
theorem gy (G:Imm) (b:Nat) (ac:Option Addr) (cc:Nat) (code:List Sl.Instr) (j:List Value) (wa:Option Addr) (wc:Nat) (wh:List R2) (k:Int) (e:Nat) (ho:OwnA ac cc code j) (hw:Arr G wa wh)
 (hwl:wh.length≤15) (hk:0≤k∧k<wh.length) (he1:1≤e) (he:e<wh.length) (hok:Od (wh[k.toNat]?.getD default)) (hl:(code++xC wh.length wh k e).length≤1048576) :
 Does Tryz.prog 197 [.pointer (some ⟨b,0,none⟩),.int .i64 k,.int .i64 e] G [(0,some b,.cells #[.int .i64 wh.length,.slice ac code.length cc,.slice wa wh.length wc] 267),(1,ac.map (·.block),Row 91 code j)]
  (fun v G' Ho=>v=.tuple #[]∧G'=G∧∃ (a':Option Addr) (c':Nat) (j':List Value),OwnA a' c' (code++xC wh.length wh k e) j'∧Ho=[(0,some b,.cells #[.int .i64 wh.length,.slice a' (code++xC wh.length wh k e).length c',.slice wa wh.length wc] 267),(1,a'.map (·.block),Row 91 (code++xC wh.length wh k e) j')]):=by
 have hl0:code.length≤1048576:=by rw [aC] at hl;omega
 obtain ⟨hnk,hzk⟩:=hok
 have hnk2:=hnk
 unfold near at hnk2
 refine fK Tryz.func197 rfl Tryz.ntmps197 rfl fun w=>?_
 refine aJ 7 [0] ?_
 refine eG rfl (jA (α:=R2) T.sl22 rfl rfl sF sE) ?_
 refine eG rfl (gZ T.agg52 rfl (jY sF sE) rfl) ?_
 refine aN 2 rfl T.zero52 fun b1=>?_
 refine aZ 11 [2] ?_
 generalize hp:wh[k.toNat]?.getD default=p at *
 have hbI:xC wh.length wh k e=In wh.length p e++(yX wh.length (bezS p.a p.b) (bezT p.a p.b) k e++Bm wh.length (xM wh.length (bezS p.a p.b) (bezT p.a p.b) e) 0):=by unfold xC uF;rw [hp]
 rw [hbI] at hl
 have hlA:(code++In wh.length p e).length≤1048576:=by rw [←bA,aC] at hl;omega
 refine iI 7 rfl (show _=Value.int .i64 (((e+1:Nat):Int) - 1) by congr 1;omega) ?_
 refine gL (ι:=Nat×List Sl.Instr×(Option Addr×Nat×List Value)) (fun (m,cd,(o,d,q))=>([(7,.int .i64 ((m:Int) - 1)),(1,.int .i64 k),(6,Go.Value.pointer (Option.some (Go.Addr.mk b1 0 Option.none))),(0,Go.Value.pointer (Option.some (Go.Addr.mk b 0 Option.none))),(2,Go.Value.int Go.IntKind.i64 (↑e:Int))],[(0,some b,.cells #[.int .i64 wh.length,.slice o cd.length d,.slice wa wh.length wc] 267),(1,o.map (·.block),Row 91 cd q),(2,Option.some b1,Go.Obj.cells (List.toArray (Go.Sl.Cells.enc p)) 52)])) (fun (m,cd,(o,d,q))=>m≤e+1∧cd++VK wh.length p e m=code++In wh.length p e∧OwnA o d cd q) (fun (m,cd,(o,d,q))=>m) ((e+1,code,(ac,cc,j))) (⟨aH _,by unfold VK;rw [aF rfl],ho⟩) ⟨rfl,rfl,rfl,rfl,rfl,trivial⟩ ⟨rfl,rfl,rfl,trivial⟩ fun ⟨m,cd,(o,d,q)⟩=>fun hk=>?_
 obtain ⟨hm1,hm2,hm3⟩:=hk
 have hcl:cd.length≤1048576:=by rw [←hm2,aC] at hlA;omega
 rcases fZ m with hm0 | hm0
 · have hm2:cd=code++In wh.length p e:=by
    rw [←hm2];unfold VK;rw [aD (by omega),hm0];exact (bR _).symm
   have hl1:(cd++yX wh.length (bezS (wh[k.toNat]?.getD default).a (wh[k.toNat]?.getD default).b) (bezT (wh[k.toNat]?.getD default).a (wh[k.toNat]?.getD default).b) k e).length≤1048576:=by
    rw [hp,hm2,aC,aC]
    rw [aC,aC,aC] at hl
    omega
   refine aJ 18 [0] ?_
   refine eK 0 rfl T.fn232 rfl (gx _ b o d cd q wa wc wh k e hm3 sF hwl hk he (by rw [hp];exact ⟨hnk,hzk⟩) hl1) (sJ ⟨rfl,rfl,trivial⟩) fun v1 G1 Ho1 hle1 hp=>?_
   obtain ⟨rfl,ra1,rd1,rj1,th1,rc1,tb1,hth1,hrc1,rfl,hro1,hto1,rfl⟩:=hp
   refine aZ 5 [] ?_
   rw [hp] at hth1 hrc1
   rw [hm2] at hrc1
   have hthl:th1.length=e+1:=by rw [hth1,zE]
   rw [←bA,←bA,←hrc1,←hth1] at hl
   refine gL (ι:=Nat×List Sl.Instr×(Option Addr×Nat×List Value)) (fun (t,ce,(o,d,q))=>([(76,.int .i64 (t:Int)),(75,Go.Value.int Go.IntKind.i64 (↑(List.length th1):Int)),(74,Go.Value.slice (Option.some (Go.Addr.mk tb1 0 Option.none)) (List.length th1) (List.length th1)),(0,Go.Value.pointer (Option.some (Go.Addr.mk b 0 Option.none)))],[(0,some b,.cells #[.int .i64 wh.length,.slice o ce.length d,.slice wa wh.length wc] 267),(1,o.map (·.block),Row 91 ce q),(2,Option.some tb1,Go.Sl.Row (α:=Bool) 4 (th1) ([]))])) (fun (t,ce,(o,d,q))=>t≤th1.length∧ce++Bm wh.length (th1.drop t) t=rc1++Bm wh.length th1 0∧OwnA o d ce q) (fun (t,ce,(o,d,q))=>th1.length - t) ((0,rc1,(ra1,rd1,rj1))) (⟨aM _,rfl,hro1⟩) ⟨rfl,rfl,rfl,rfl,trivial⟩ ⟨rfl,rfl,rfl,trivial⟩ fun ⟨t,ce,(o,d,q)⟩=>fun hk=>?_
   obtain ⟨ht1,ht2,ht3⟩:=hk
   have hel:ce.length≤1048576:=by rw [←ht2,aC] at hl;omega
   rcases aK t th1.length with hte | hte
   · rw [AB _ _ hte] at ht2
     refine aJ 14 [1] ?_
     refine eG rfl (dO (α:=Bool) T.sl138 rfl rfl sF sE) ?_
     refine eG rfl (fG 2 0 T.one4 rfl rfl sF sE rfl rfl) ?_
     refine aZ 9 [] ?_
     refine kZ rfl (fun hc1=>?_) fun hc1=>?_
     refine aJ 4 [] ?_
     refine eH 0 rfl T.fn196 rfl (Ks _ b _ _ _ _ sE sE) (sJ ⟨rfl,trivial⟩) ?_
     refine aB 2 [] ?_
     refine eH 0 rfl T.fn196 rfl (Ks _ b _ _ _ _ sE sE) (sJ ⟨rfl,trivial⟩) ?_
     refine aB 2 [] ?_
     refine eH 0 rfl T.fn233 rfl (Kt _ b _ _ _ _ sE sE) (sJ ⟨rfl,trivial⟩) ?_
     refine eK 0 rfl T.fn228 rfl (Rf _ b _ o d ce q wa _ wc _ _ _ _ _ ht3 hel) (sJ ⟨rfl,rfl,trivial⟩) fun v2 G2 Ho2 hle2 hp=>?_
     obtain ⟨rfl,rfl,a2,d2,j2,ho2,rfl⟩:=hp
     refine aR 7 [] ?_
     rotate_left
     refine bE 7 [] ?_
     rotate_left
     · rw [aF hc1] at ht2
       refine cN 76 rfl (show _=Value.int .i64 ((t+1:Nat):Int) from rfl) ?_
       refine fR ((t+1,_,(a2,d2,j2))) ?_ ?_ rfl ⟨rfl,rfl,rfl,rfl,trivial⟩ ⟨rfl,rfl,rfl,trivial⟩
       · refine ⟨hte,?_,ho2⟩
         rw [←ht2];simp only [bA]
       show th1.length - (t+1)<th1.length - t
       omega
     rw [aD (by rw [hc1];decide),fW] at ht2
     refine cN 76 rfl (show _=Value.int .i64 ((t+1:Nat):Int) from rfl) ?_
     refine fR ((t+1,ce,(o,d,q))) ?_ ?_ rfl ⟨rfl,rfl,rfl,rfl,trivial⟩ ⟨rfl,rfl,rfl,trivial⟩
     · exact ⟨hte,ht2,ht3⟩
     show th1.length - (t+1)<th1.length - t
     omega
   have hte:t=th1.length:=sE
   have ht2:ce=rc1++Bm wh.length th1 0:=by rw [←ht2,hte,nG];exact (bR _).symm
   refine bE 11 [0] ?_
   have hce:ce=code++xC wh.length wh k e:=by rw [ht2,hrc1,hbI,hth1];simp only [bA]
   rw [hce] at ht3
   refine jZ yZ (Ho:=[(0,some b,.cells #[.int .i64 wh.length,.slice o (code++xC wh.length wh k e).length d,.slice wa wh.length wc] 267),(1,o.map (·.block),Row 91 (code++xC wh.length wh k e) q)]) rfl ⟨by rw [←hce];rfl,by rw [←hce];rfl,trivial⟩ ?_
   exact ⟨rfl,rfl,o,d,q,ht3,rfl⟩
 rcases aK e m with hme | hme
 · have hme:m=e+1:=sE
   have hm2:cd++(sM (wh.length+e) (wh.length+((e:Int) - 1)) (-p.b)++Ve wh.length p e)=code++In wh.length p e:=by
    rw [←hm2];unfold VK;rw [aF hme];rfl
   refine iI 7 rfl (show _=Value.int .i64 (e:Int) by congr 1;omega) ?_
   refine bJ 22 [1,1] ?_
   refine gQ [2,1,0] [(1,11),(0,11)] T.mixed rfl ?_
   refine eW 0 [] sG rfl rfl (cV rfl) ?_
   refine eW 1 [] sG rfl rfl (cV rfl) ?_
   refine eW 2 [] sG rfl rfl (cV rfl) ?_
   refine eW 4 [] sG rfl rfl (cV rfl) ?_
   refine eW 5 [] sG rfl rfl (cV rfl) ?_
   refine eW 6 [] sG rfl rfl (Qy.sub rfl rfl sE) ?_
   refine eW 8 [] sG rfl rfl (fI T.fa52_1 rfl) ?_
   refine eW 9 [2] sG rfl rfl (jT 2 T.one3 rfl rfl rfl) ?_
   refine eW 10 [] sG rfl rfl (qO rfl sE) ?_
   refine jF 3 ⟨rfl,rfl,rfl,trivial⟩ wJ sG rfl ?_
   refine eH 0 rfl T.fn196 rfl (Ks _ b _ _ _ _ sE sE) (sJ ⟨rfl,trivial⟩) ?_
   refine bD ?_
   refine jF 7 ⟨rfl,rfl,rfl,trivial⟩ wJ sG rfl ?_
   refine eH 0 rfl T.fn196 rfl (Ks _ b _ _ _ _ sE sE) (sJ ⟨rfl,trivial⟩) ?_
   refine bD ?_
   refine jF 11 ⟨rfl,rfl,rfl,trivial⟩ wJ sG rfl ?_
   refine eK 0 rfl T.fn195 rfl (Fh _ b _ o d cd q wa _ wc _ _ _ hm3 hcl) (sJ ⟨rfl,rfl,trivial⟩) fun v1 G1 Ho1 hle1 hp=>?_
   obtain ⟨rfl,rfl,a1,d1,j1,ho1,rfl⟩:=hp
   refine bD ?_
   refine jB sG ⟨rfl,trivial⟩ wJ ?_
   refine dX 10 [] ?_
   refine cN 7 rfl (show _=Value.int .i64 ((e:Int) - 1) from rfl) ?_
   refine fR ((e,_,(a1,d1,j1))) ?_ ?_ rfl ⟨rfl,rfl,rfl,rfl,rfl,trivial⟩ ⟨rfl,rfl,rfl,trivial⟩
   · refine ⟨by omega,?_,ho1⟩
     rw [←hm2];unfold VK;rw [aD (by omega),bA]
   show e<m
   omega
 obtain ⟨i,rfl⟩:∃ i,m=i+1:=⟨m - 1,by omega⟩
 refine iI 7 rfl (show _=Value.int .i64 (i:Int) by congr 1;omega) ?_
 have hm2:cd++Ve wh.length p (i+1)=code++In wh.length p e:=by rw [←hm2];unfold VK;rw [aD (by omega)]
 unfold Ve at hm2
 rcases fZ i with hi0 | hi0
 · rw [aD (by omega),aD (by omega)] at hm2
   refine bJ 34 [1,0,0] ?_
   refine gQ [2,1,0] [(1,9),(0,9)] T.mixed rfl ?_
   refine eW 0 [] sG rfl rfl (cV rfl) ?_
   refine eW 1 [] sG rfl rfl (cV rfl) ?_
   refine eW 2 [] sG rfl rfl (cV rfl) ?_
   refine eW 4 [] sG rfl rfl (cV rfl) ?_
   refine eW 5 [] sG rfl rfl (cV rfl) ?_
   refine eW 7 [] sG rfl rfl (fI T.fa52_0 rfl) ?_
   refine eW 8 [2] sG rfl rfl (jT 2 T.one3 rfl rfl rfl) ?_
   refine jF 3 ⟨rfl,rfl,rfl,trivial⟩ wJ sG rfl ?_
   refine eH 0 rfl T.fn196 rfl (Ks _ b _ _ _ _ sE sE) (sJ ⟨rfl,trivial⟩) ?_
   refine bD ?_
   refine jF 6 ⟨rfl,rfl,rfl,trivial⟩ wJ sG rfl ?_
   refine eH 0 rfl T.fn196 rfl (Ks _ b _ _ _ _ sE sE) (sJ ⟨rfl,trivial⟩) ?_
   refine bD ?_
   refine jF 9 ⟨rfl,rfl,rfl,trivial⟩ wJ sG rfl ?_
   refine eK 0 rfl T.fn195 rfl (Fh _ b _ o d cd q wa _ wc _ _ _ hm3 hcl) (sJ ⟨rfl,rfl,trivial⟩) fun v1 G1 Ho1 hle1 hp=>?_
   obtain ⟨rfl,rfl,a1,d1,j1,ho1,rfl⟩:=hp
   refine bD ?_
   refine jB sG ⟨rfl,trivial⟩ wJ ?_
   refine dX 16 [0] ?_
   refine cN 7 rfl (show _=Value.int .i64 ((i:Int) - 1) from rfl) ?_
   refine fR ((i,_,(a1,d1,j1))) ?_ ?_ rfl ⟨rfl,rfl,rfl,rfl,rfl,trivial⟩ ⟨rfl,rfl,rfl,trivial⟩
   · refine ⟨by omega,?_,ho1⟩
     rw [←hm2];unfold VK;rw [aD (by omega)];simp only [bA,fW]
   show i<i+1
   omega
 rw [aF hi0,aF hi0] at hm2
 have hb1:((cd++sM (3*(wh.length:Int)) ((wh.length:Int)+((i:Int) - 1)) p.b)++sM ((wh.length:Int)+(i:Int)) ((wh.length:Int)+(i:Int)) p.a).length≤1048576:=by
  rw [←hm2] at hlA
  simp only [aC] at hlA
  simp only [aC]
  omega
 have hb0:(cd++sM (3*(wh.length:Int)) ((wh.length:Int)+((i:Int) - 1)) p.b).length≤1048576:=by rw [aC] at hb1;omega
 refine bJ 31 [1,0,1] ?_
 refine gQ [2,1,0] [(1,9),(0,9)] T.mixed rfl ?_
 refine eW 0 [] sG rfl rfl (cV rfl) ?_
 refine eW 1 [] sG rfl rfl (cV rfl) ?_
 refine eW 3 [] sG rfl rfl (cV rfl) ?_
 refine eW 4 [] sG rfl rfl (cV rfl) ?_
 refine eW 5 [] sG rfl rfl (Qy.sub rfl rfl sE) ?_
 refine eW 7 [] sG rfl rfl (fI T.fa52_1 rfl) ?_
 refine eW 8 [2] sG rfl rfl (jT 2 T.one3 rfl rfl rfl) ?_
 refine jF 2 ⟨rfl,rfl,rfl,trivial⟩ wJ sG rfl ?_
 refine eH 0 rfl T.fn231 rfl (AA _ b _ _ _ sE) (sJ ⟨rfl,trivial⟩) ?_
 refine bD ?_
 refine jF 6 ⟨rfl,rfl,rfl,trivial⟩ wJ sG rfl ?_
 refine eH 0 rfl T.fn196 rfl (Ks _ b _ _ _ _ sE sE) (sJ ⟨rfl,trivial⟩) ?_
 refine bD ?_
 refine jF 9 ⟨rfl,rfl,rfl,trivial⟩ wJ sG rfl ?_
 refine eK 0 rfl T.fn195 rfl (Fh _ b _ o d cd q wa _ wc _ _ _ hm3 hcl) (sJ ⟨rfl,rfl,trivial⟩) fun v1 G1 Ho1 hle1 hp=>?_
 obtain ⟨rfl,rfl,a1,d1,j1,ho1,rfl⟩:=hp
 refine bD ?_
 refine jB sG ⟨rfl,trivial⟩ wJ ?_
 refine mD 2 [] ?_
 refine gQ [2,1,0] [(1,9),(0,9)] T.mixed rfl ?_
 refine eW 0 [] sG rfl rfl (cV rfl) ?_
 refine eW 1 [] sG rfl rfl (cV rfl) ?_
 refine eW 2 [] sG rfl rfl (cV rfl) ?_
 refine eW 4 [] sG rfl rfl (cV rfl) ?_
 refine eW 5 [] sG rfl rfl (cV rfl) ?_
 refine eW 7 [] sG rfl rfl (fI T.fa52_0 rfl) ?_
 refine eW 8 [2] sG rfl rfl (jT 2 T.one3 rfl rfl rfl) ?_
 refine jF 3 ⟨rfl,rfl,rfl,trivial⟩ wJ sG rfl ?_
 refine eH 0 rfl T.fn196 rfl (Ks _ b _ _ _ _ sE sE) (sJ ⟨rfl,trivial⟩) ?_
 refine bD ?_
 refine jF 6 ⟨rfl,rfl,rfl,trivial⟩ wJ sG rfl ?_
 refine eH 0 rfl T.fn196 rfl (Ks _ b _ _ _ _ sE sE) (sJ ⟨rfl,trivial⟩) ?_
 refine bD ?_
 refine jF 9 ⟨rfl,rfl,rfl,trivial⟩ wJ sG rfl ?_
 refine eK 0 rfl T.fn195 rfl (Fh _ b _ a1 d1 (cd++sM (3*(wh.length:Int)) ((wh.length:Int)+((i:Int) - 1)) p.b) j1 wa _ wc _ _ _ ho1 hb0) (sJ ⟨rfl,rfl,trivial⟩) fun v2 G2 Ho2 hle2 hp=>?_
 obtain ⟨rfl,rfl,a2,d2,j2,ho2,rfl⟩:=hp
 refine bD ?_
 refine jB sG ⟨rfl,trivial⟩ wJ ?_
 refine nE 12 [1] ?_
 refine eH 0 rfl T.fn196 rfl (Ks _ b _ _ _ _ sE sE) (sJ ⟨rfl,trivial⟩) ?_
 refine aB 2 [] ?_
 refine eH 0 rfl T.fn196 rfl (Ks _ b _ _ _ _ sE sE) (sJ ⟨rfl,trivial⟩) ?_
 refine eG rfl (cV rfl) ?_
 refine eH 0 rfl T.fn231 rfl (AA _ b _ _ _ sE) (sJ ⟨rfl,trivial⟩) ?_
 refine eK 0 rfl T.fn228 rfl (Rf _ b _ a2 d2 ((cd++sM (3*(wh.length:Int)) ((wh.length:Int)+((i:Int) - 1)) p.b)++sM ((wh.length:Int)+(i:Int)) ((wh.length:Int)+(i:Int)) p.a) j2 wa _ wc _ _ _ _ _ ho2 hb1) (sJ ⟨rfl,rfl,trivial⟩) fun v3 G3 Ho3 hle3 hp=>?_
 obtain ⟨rfl,rfl,a3,d3,j3,ho3,rfl⟩:=hp
 refine aR 8 [] ?_
 refine cN 7 rfl (show _=Value.int .i64 ((i:Int) - 1) from rfl) ?_
 refine fR ((i,_,(a3,d3,j3))) ?_ ?_ rfl ⟨rfl,rfl,rfl,rfl,rfl,trivial⟩ ⟨rfl,rfl,rfl,trivial⟩
 · refine ⟨by omega,?_,ho3⟩
   rw [←hm2];unfold VK;rw [aD (by omega)];simp only [bA]
 show i<i+1
 omega
end Go.Proofs.YtfdcckcadfhpeaaGreatDoor
