/- vD of the proof (part 6): what the rows' text needs of the texts that lead to it. -/
import Derived.Test.YtkdelpdbjfpgmaaGreatDoorMPe
set_option linter.unusedVariables false
set_option linter.unusedSimpArgs false
set_option linter.unusedSectionVars false
set_option maxHeartbeats 4000000
noncomputable section
set_option maxRecDepth 100000
namespace Go.Proofs.YtkdelpdbjfpgmaaGreatDoor
open Go Go.Sl
theorem wH {G:A3} {b:Nat} {c:Array Value} {ty:TypeId} {z:Nat×Nat} (h:G b=some (.cells c ty z)) {k:Nat} {v:Value} (hv:c[k]?=some v):G.cell b k=some v:=by
 unfold A3.cell;rw [h];exact hv
structure PF where
 p:PH
 f:Nat
 b:Nat
instance:Inhabited PF:=⟨⟨default,0,0⟩⟩
instance:A2 PF:=⟨5,fun x=>[.int .i64 x.p.ins,.int .i64 x.p.regs,.slice x.p.ac x.p.cn x.p.cc,.slice x.p.ao x.p.on x.p.oc,.func (.func x.f) #[] #[.pointer (some ⟨x.b,0,none⟩)]],fun _=>rfl,fun _=>rfl⟩
section
attribute [local irreducible] vK uP tL sY uG
theorem jm (G:A3) (k:Nat) (b:Nat) (cs:Array Value) (ty:TypeId) (zz:Nat×Nat) (p:PV) (ac ao a:Option Addr) (cc co c:Nat) (l:List R2) (hU:G b=some (.cells cs ty zz)) (h0:cs[0]?=some (.int .i64 (k:Int))) (h2:cs[2]?=some (.slice a l.length c)) (hc:Arr G ac p.code) (ho:Arr G ao p.outs) (ha:Arr G a l) (hac:l.length≤c) (hl:l.length≤1048576) (hcl:p.code.length≤16384) (hol:p.outs.length≤1099511627776) (hRL:uG l) (hR:sY p=true) (hk1:1≤k) (hk8:k≤8) :
 Does Tryz.prog 107 [.agg (I0 p ac cc ao co),.pointer (some ⟨b,0,none⟩)] G [] (fun v G' Ho=>v=.tuple #[.bool (decide (vK p (k:Int) l)),.int .i64 0]∧Ho=[]):=by
 refine D0 Tryz.func107 Tryz.ntmps107 fun w=>?_;refine aH 2 [] ?_;refine eC 0 fun b1=>?_;refine aL 8 [0] ?_;refine aQ (bV T.one3 F9 ((by rw [cS]:G.cell b (0+0)=G.cell b 0).trans (wH hU h0))) ?_;refine aC 1 [] ?_;refine aQ (bV T.one22 F9 ((by rw [cS]:G.cell b (0+2)=G.cell b 2).trans (wH hU h2))) ?_;refine bS 1 F9 (cl _ _ _ _ _ _ _ _ _ _ sX sX sX sW sW hRL hR sW sW) fun v1 G1 Ho1 hle1 hp=>?_;obtain ⟨rfl,rfl⟩:=hp;replace hc:=hc.up hle1;replace ho:=ho.up hle1;replace ha:=ha.up hle1;refine aS 7 [] ?_;refine iB ?_;exact ⟨F9,F9⟩
theorem jn (G:A3) (k:Nat) (b:Nat) (cs:Array Value) (ty:TypeId) (zz:Nat×Nat) (p:PV) (ac ao a:Option Addr) (cc co c:Nat) (l:List R2) (hU:G b=some (.cells cs ty zz)) (h0:cs[1]?=some (.int .i64 (k:Int))) (h2:cs[2]?=some (.slice a l.length c)) (hc:Arr G ac p.code) (ho:Arr G ao p.outs) (ha:Arr G a l) (hac:l.length≤c) (hl:l.length≤1048576) (hcl:p.code.length≤16384) (hol:p.outs.length≤1099511627776) (hRL:uG l) (hR:sY p=true) (hk1:1≤k) (hk8:k≤8) :
 Does Tryz.prog 109 [.agg (I0 p ac cc ao co),.pointer (some ⟨b,0,none⟩)] G [] (fun v G' Ho=>v=.tuple #[.bool (decide (vK p (k:Int) l)),.int .i64 0]∧Ho=[]):=by
 refine D0 Tryz.func109 Tryz.ntmps109 fun w=>?_;refine aH 2 [] ?_;refine eC 0 fun b1=>?_;refine aL 8 [0] ?_;refine aQ (bV T.one3 F9 ((by rw [cS]:G.cell b (0+1)=G.cell b 1).trans (wH hU h0))) ?_;refine aC 1 [] ?_;refine aQ (bV T.one22 F9 ((by rw [cS]:G.cell b (0+2)=G.cell b 2).trans (wH hU h2))) ?_;refine bS 1 F9 (cl _ _ _ _ _ _ _ _ _ _ sX sX sX sW sW hRL hR sW sW) fun v1 G1 Ho1 hle1 hp=>?_;obtain ⟨rfl,rfl⟩:=hp;replace hc:=hc.up hle1;replace ho:=ho.up hle1;replace ha:=ha.up hle1;refine aS 7 [] ?_;refine iB ?_;exact ⟨F9,F9⟩
theorem jq (G:A3) (b:Nat) (cs:Array Value) (ty:TypeId) (zz:Nat×Nat) (p:PV) (ac ao a:Option Addr) (cc co c:Nat) (l:List R2) (hU:G b=some (.cells cs ty zz)) (h2:cs[2]?=some (.slice a l.length c)) (hc:Arr G ac p.code) (ho:Arr G ao p.outs) (ha:Arr G a l) (hac:l.length≤c) (hl:l.length≤1048576) (hcl:p.code.length≤16384) (hol:p.outs.length≤1099511627776) (hRL:uG l) (hR:sY p=true) :
 Does Tryz.prog 110 [.agg (I0 p ac cc ao co),.pointer (some ⟨b,0,none⟩)] G [] (fun v G' Ho=>v=.tuple #[.bool (decide (uP p l)),.int .i64 0]∧Ho=[]):=by
 refine D0 Tryz.func110 Tryz.ntmps110 fun w=>?_;refine aH 2 [] ?_;refine eC 0 fun b1=>?_;refine aL 8 [0] ?_;refine aQ (bV T.one22 F9 ((by rw [cS]:G.cell b (0+2)=G.cell b 2).trans (wH hU h2))) ?_;refine bS 1 F9 (bz _ _ _ _ _ _ _ _ _ sX sX sW sW sX hac hl hRL hR) fun v1 G1 Ho1 hle1 hp=>?_;obtain ⟨rfl,rfl⟩:=hp;replace hc:=hc.up hle1;replace ho:=ho.up hle1;replace ha:=ha.up hle1;refine aS 7 [] ?_;refine iB ?_;exact ⟨F9,F9⟩
theorem c55 (G:A3) (k1 k2:Int) (pl:List R2) (pa:Option Addr) (pc:Nat) (xp yp zp:PV) (xac xao yac yao zac zao:Option Addr) (xcc xoc ycc yoc zcc zoc:Nat) :
 Does Tryz.prog 55 [.agg #[.int .i64 k1,.int .i64 k2,.slice pa pl.length pc,.int .i64 xp.ins,.int .i64 xp.regs,.slice xac xp.code.length xcc,.slice xao xp.outs.length xoc,.int .i64 yp.ins,.int .i64 yp.regs,.slice yac yp.code.length ycc,.slice yao yp.outs.length yoc,.int .i64 zp.ins,.int .i64 zp.regs,.slice zac zp.code.length zcc,.slice zao zp.outs.length zoc]] G [] (fun v G' Ho=>∃ (s:Option Addr) (b:Nat),v=.slice s ([⟨⟨xp.ins,xp.regs,xac,xp.code.length,xcc,xao,xp.outs.length,xoc⟩,107,b⟩,⟨⟨yp.ins,yp.regs,yac,yp.code.length,ycc,yao,yp.outs.length,yoc⟩,109,b⟩,⟨⟨zp.ins,zp.regs,zac,zp.code.length,zcc,zao,zp.outs.length,zoc⟩,110,b⟩]:List PF).length 3∧Arr G' s ([⟨⟨xp.ins,xp.regs,xac,xp.code.length,xcc,xao,xp.outs.length,xoc⟩,107,b⟩,⟨⟨yp.ins,yp.regs,yac,yp.code.length,ycc,yao,yp.outs.length,yoc⟩,109,b⟩,⟨⟨zp.ins,zp.regs,zac,zp.code.length,zcc,zao,zp.outs.length,zoc⟩,110,b⟩]:List PF)∧G' b=some (.cells #[.int .i64 k1,.int .i64 k2,.slice pa pl.length pc,.int .i64 xp.ins,.int .i64 xp.regs,.slice xac xp.code.length xcc,.slice xao xp.outs.length xoc,.int .i64 yp.ins,.int .i64 yp.regs,.slice yac yp.code.length ycc,.slice yao yp.outs.length yoc,.int .i64 zp.ins,.int .i64 zp.regs,.slice zac zp.code.length zcc,.slice zao zp.outs.length zoc] 28 (0,0))∧Ho=[]):=by
 refine D0 Tryz.func55 Tryz.ntmps55 fun w=>?_;refine aH 2 [] ?_;refine eC 0 fun b1=>?_;refine aL 6 [] ?_;refine aQ (eL 0 T.agg26 F9 F9 F9 F9) ?_;refine aQ (gY F9 F9) ?_;refine aQ (bP (cs:=[_,_,_,_,_]) T.st100 F9 F9 F9) ?_;refine aC 1 [] ?_;refine aQ (eL 0 T.agg26 F9 F9 F9 F9) ?_;refine aQ (gY F9 F9) ?_;refine aQ (bP (cs:=[_,_,_,_,_]) T.st100 F9 F9 F9) ?_;refine aC 1 [] ?_;refine aQ (eL 0 T.agg26 F9 F9 F9 F9) ?_;refine aQ (gY F9 F9) ?_;refine aQ (bP (cs:=[_,_,_,_,_]) T.st100 F9 F9 F9) ?_;refine cC (α:=PF) 1 [⟨⟨xp.ins,xp.regs,xac,xp.code.length,xcc,xao,xp.outs.length,xoc⟩,107,b1⟩,⟨⟨yp.ins,yp.regs,yac,yp.code.length,ycc,yao,yp.outs.length,yoc⟩,109,b1⟩,⟨⟨zp.ins,zp.regs,zac,zp.code.length,zcc,zao,zp.outs.length,zoc⟩,110,b1⟩] F9 T.sl96 T.el100 F9 F9 F9 F9 F9 fun b2=>?_;refine aS 4 [] ?_;refine qG 0 F9 fun G1 hle1 hb1=>?_;have hoF:A4 (some ⟨b2,0,none⟩) 3 ([⟨⟨xp.ins,xp.regs,xac,xp.code.length,xcc,xao,xp.outs.length,xoc⟩,107,b1⟩,⟨⟨yp.ins,yp.regs,yac,yp.code.length,ycc,yao,yp.outs.length,yoc⟩,109,b1⟩,⟨⟨zp.ins,zp.regs,zac,zp.code.length,zcc,zao,zp.outs.length,zoc⟩,110,b1⟩]:List PF) []:=fP Dv;refine dD (α:=PF) 1 F9 hoF fun G2 hle2 hA2=>?_;refine dA ?_;exact ⟨_,b1,F9,hA2,hle2 _ _ hb1,F9⟩
end
def Xr (a:Option Addr) (n c:Nat) (s:RS):Obj:=.cells #[.slice a n c,.int .i64 (s.k:Int),.bool s.wr] 198 (0,0)
def Pr (G:A3) (g:FuncId) (caps:List Value) (good:Int→Bool):Prop:=tZ Tryz.prog g∧∀ (G':A3) (x:Int),G.le G'→0≤x→x≤255→Does Tryz.prog g ([]++[.int .i64 x]++caps) G' [] (fun v G'' Ho=>v=.bool (decide (good x=true))∧G''=G'∧Ho=[])
theorem JI (G:A3) (b:Nat) (a:Option Addr) (c:Nat) (B:List U8) (s:RS) (g:FuncId) (caps:List Value) (good:Int→Bool) (hg:Pr G g caps good) (hA:Arr G a B) (hB:C5 B) (hk:s.k≤B.length) (hl:B.length≤1048576) :
 Does Tryz.prog 169 [.pointer (some ⟨b,0,none⟩),.func (.func g) #[] caps.toArray] G [(0,some b,Xr a B.length c s)] (fun v G' Ho=>v=.int .i64 (nx B s good).1∧G'=G∧Ho=[(0,some b,Xr a B.length c (nx B s good).2)]):=by
 refine D0 Tryz.func169 Tryz.ntmps169 fun w=>?_;obtain ⟨k,wr⟩:=s;replace hk:k≤B.length:=hk;cases wr with
 | true =>
   show Wc none Tryz.prog _ ⟨_,_,_,_⟩ ⟨_,_,[(0,some b,.cells #[.slice a B.length c,.int .i64 (k:Int),.bool (decide ((0:Int)<1))] 198 (0,0))],_⟩ _;refine bL 7 [] ?_;refine dK [0] [(0,29)] T.mixed [[0],[1],[2]] ?_;refine bE 3 ?_;refine aC 1 [0] ?_;refine aT ?_;refine dP [[4]] ?_;refine qQ 9 F9 uI ?_;refine dP [[5],[6],[7],[8],[9],[10],[11],[12],[13],[14],[15],[16],[17],[18],[19],[20],[21],[22],[23],[24],[25],[26],[27],[28]] ?_;refine bE 29 ?_;refine aC 1 [] ?_;refine aT ?_;refine dP [[30],[31]] ?_;refine iF sZ H2 wF ?_;refine dO 17 [1,0] ?_;refine nT [0] ?_;rw [NY rfl];exact ⟨F9,F9,F9⟩
 | false =>
   show Wc none Tryz.prog _ ⟨_,_,_,_⟩ ⟨_,_,[(0,some b,.cells #[.slice a B.length c,.int .i64 (k:Int),.bool (decide ((1:Int)<0))] 198 (0,0))],_⟩ _;refine bL 7 [] ?_;refine dK [0] [] T.mixed [[0],[1],[2],[3,0],[4]] ?_;refine Gm.no 9 F9 sW ?_;refine dP [[5],[6],[7],[8,0],[9],[10],[11],[12,0],[13],[14],[15],[16]] ?_;refine Gm.cases 21 F9 (fun hg1=>?_) fun hg1=>?_
   · refine dP [[17],[18],[19],[20],[21],[22],[23],[24],[25],[26],[27],[28]] ?_;refine bE 29 ?_;refine aC 1 [] ?_;refine aT ?_;refine dP [[30],[31]] ?_;refine cT ?_;refine dO 17 [1,0] ?_;refine nT [0] ?_;rw [XW (s:=⟨k,false⟩) (show k=B.length by omega)];exact ⟨F9,F9,F9⟩
   have h8:=hB k sW;have ew:IntKind.i64.wrap (B[(k:Int).toNat]?.getD default).v=(B[k]?.getD default).v:=RK (by show _≤(B[k]?.getD default).v∧(B[k]?.getD default).v≤_;omega);refine dP [[17],[18],[19],[20],[21,0],[22],[23],[24],[25,0]] ?_;refine pV 26 [] F9 (iQ (α:=U8) T.sl38 F9 F9 hA sW) ?_;refine pV 27 [] F9 (bV T.one5 F9 (gI hA sW 0 F9 F9)) ?_;refine pV 28 [] F9 (cR F9 T.u3 F9) ?_;refine bE 29 ?_;refine aC 1 [] ?_;rw [ew];refine fA (fst:=[]) (cap:=caps) 20 F9 hg.1 F9 F9 (hg.2 _ _ (bN _) h8.1 h8.2) (tC H2) fun v9 G9 Ho9 hle9 hp=>?_;obtain ⟨rfl,rfl,rfl⟩:=hp;refine aT ?_;refine pV 30 [] F9 (fS F9) ?_;refine dP [[31]] ?_;refine cT ?_;refine cN ?_;refine dB (fun hc1=>?_) fun hc1=>?_;refine bG 15 [0] ?_;refine nT [0] ?_;rotate_left;refine bL 15 [0,0] ?_;refine dK [0] [] T.mixed [[0],[1],[2],[3,0],[4],[5],[6],[7,0],[8]] ?_;refine mT (α:=U8) 9 T.sl38 ?_;refine rJ 10 [0] 0 T.one5 ?_;refine eD 11 [] F9 (cR F9 T.u3 F9) ?_;refine dP [[12]] ?_;refine cT ?_;refine dO 2 [] ?_;refine nT [0] ?_;rotate_left
   · rw [XX (s:=⟨k,false⟩) (nQ.2 hc1)];exact ⟨F9,F9,F9⟩
   rw [WK (s:=⟨k,false⟩) rfl (show k≠B.length by omega) (fT.1 hc1)];have e2:(k:Int)+1 - 1=(k:Int):=sW;rw [e2,ew];exact ⟨F9,F9,F9⟩
theorem jr (G:A3) (lo hi x:Int) (b1 b2:Nat) (c1 c2:Array Value) (t1 t2:TypeId) (z1 z2:Nat×Nat) (h1:G b1=some (.cells c1 t1 z1)) (h2:G b2=some (.cells c2 t2 z2)) (e1:c1[0]?=some (.int .i64 lo)) (e2:c2[0]?=some (.int .i64 hi)) :
 Does Tryz.prog 170 [.int .i64 x,.pointer (some ⟨b1,0,none⟩),.pointer (some ⟨b2,0,none⟩)] G [] (fun v G' Ho=>v=.bool (decide (lo≤x∧x≤hi))∧G'=G∧Ho=[]):=by
 refine D0 Tryz.func170 Tryz.ntmps170 fun w=>?_;by_cases hlo:lo≤x
 · refine aH 8 [] ?_;refine aQ (bV T.one3 F9 (wH h1 e1)) ?_;refine aC 2 [] ?_;refine WF 8 ?_;refine aC 3 [] ?_;refine aQ (bV T.one3 F9 (wH h2 e2)) ?_;refine aS 7 [] ?_;refine dA ?_;refine ⟨?_,F9,F9⟩;congr 1;rw [qV,aV];simp [hlo]
 refine aH 8 [] ?_;refine aQ (bV T.one3 F9 (wH h1 e1)) ?_;refine aC 2 [] ?_;refine nF 8 ?_;refine aS 8 [] ?_;refine dA ?_;refine ⟨?_,F9,F9⟩;congr 1;rw [qV,aV];simp [hlo]
theorem js (G:A3) (x:Int):Does Tryz.prog 171 [.int .i64 x] G [] (fun v G' Ho=>v=.bool (decide (x≤16∨240≤x))∧G'=G∧Ho=[]):=by
 refine D0 Tryz.func171 Tryz.ntmps171 fun w=>?_;refine aH 10 [] ?_;apply dZ 3 5 8 F9;intro hg1;refine aC 5 [] ?_;exact dI 3 0;intro hg1;refine aC 3 [] ?_;exact dI 3 0;refine aS 4 [] ?_;refine dA ?_;exact ⟨F9,F9,F9⟩
theorem Dj (p:Prop) [Decidable p]:Value.bool (decide p)=Value.bool (decide (decide p=true)):=by
 congr 1;rw [qV];simp
theorem Ci (G:A3) (b:Nat) (a:Option Addr) (c:Nat) (B:List U8) (s:RS) (lo hi:Int) (hA:Arr G a B) (hB:C5 B) (hk:s.k≤B.length) (hl:B.length≤1048576) :
 Does Tryz.prog 123 [.pointer (some ⟨b,0,none⟩),.int .i64 lo,.int .i64 hi] G [(0,some b,Xr a B.length c s)] (fun v G' Ho=>∃ (x:Int) (t:RS),wi B s lo hi=(x,t)∧t.k≤B.length∧(0≤x∧x≤255)∧v=.int .i64 x∧Ho=[(0,some b,Xr a B.length c t)]):=by
 refine D0 Tryz.func123 Tryz.ntmps123 fun w=>?_;refine aH 2 [] ?_;refine eC 1 fun b1=>?_;refine eC 2 fun b2=>?_;refine aL 6 [] ?_;refine aQ (gY F9 F9) ?_;refine lM 1 F9 fun G1 hle1 hb1=>?_;refine lM 2 F9 fun G2 hle2 hb2=>?_;have hb1':=hle2 _ _ hb1;have hG:Pr G2 170 [.pointer (some ⟨b1,0,none⟩),.pointer (some ⟨b2,0,none⟩)] (fun x=>decide (lo≤x∧x≤hi)):=⟨T.fn170,fun G' x hle h0 h1=>(jr G' lo hi x b1 b2 _ _ _ _ _ _ (hle _ _ hb1') (hle _ _ hb2) F9 F9).mono fun v G'' Ho _ h=>⟨h.1.trans (Dj _),h.2⟩⟩
 refine bS 0 F9 (JI _ b a c B s 170 _ _ hG ((hA.up hle1).up hle2) hB hk hl) fun v3 G3 Ho3 hle3 hp=>?_;obtain ⟨rfl,rfl,rfl⟩:=hp;refine aS 4 [] ?_;refine nT [0] ?_;exact ⟨_,_,F9,ig hk,XY hB hk,F9,F9⟩
theorem w8 {x:Int} (h:0≤x∧x≤255):IntKind.i8.wrap x=if 128≤x then x - 256 else x:=by
 simp [IntKind.wrap,IntKind.bits,IntKind.signed];split <;> split <;> omega
def gS (x:Int):Bool:=decide (x≤16∨240≤x)
theorem cm (B:List U8) (s:RS):sg B s=(if 128≤(nx B s gS).1 then (nx B s gS).1 - 256 else (nx B s gS).1,(nx B s gS).2):=rfl
theorem cp (G:A3) (b:Nat) (a:Option Addr) (c:Nat) (B:List U8) (s:RS) (hA:Arr G a B) (hB:C5 B) (hk:s.k≤B.length) (hl:B.length≤1048576) :
 Does Tryz.prog 124 [.pointer (some ⟨b,0,none⟩)] G [(0,some b,Xr a B.length c s)] (fun v G' Ho=>∃ (x:Int) (t:RS),sg B s=(x,t)∧t.k≤B.length∧(-128≤x∧x≤255)∧v=.int .i64 x∧Ho=[(0,some b,Xr a B.length c t)]):=by
 refine D0 Tryz.func124 Tryz.ntmps124 fun w=>?_;refine aH 8 [] ?_;have hG:Pr G 171 [] gS:=⟨T.fn171,fun G' x hle h0 h1=>(js G' x).mono fun v G'' Ho _ h=>⟨h.1.trans (Dj _),h.2⟩⟩
 refine bS 0 F9 (JI _ b a c B s 171 _ _ hG hA hB hk hl) fun v3 G3 Ho3 hle3 hp=>?_;obtain ⟨rfl,rfl,rfl⟩:=hp;have hv:=Ld (B:=B) (s:=s) (g:=gS) hB hk;have hk2:=Tk (B:=B) (s:=s) (g:=gS) hk;have e9:=cm B s;obtain ⟨x,t,e⟩:∃ x t,nx B s gS=(x,t):=⟨_,_,F9⟩
 rw [e] at hv hk2 e9 ⊢;dsimp only at hv hk2 e9 ⊢;refine aQ (cR F9 T.u253 F9) ?_;refine aQ (cR F9 T.u3 F9) ?_;refine aS 4 [] ?_;refine nT [0] ?_;refine ⟨_,t,e9,hk2,by split <;> omega,?_,F9⟩;rw [w8 hv,RK So]
theorem w16 {x:Int} (h:0≤x∧x≤65535):IntKind.i16.wrap x=if 32768≤x then x - 65536 else x:=by
 simp [IntKind.wrap,IntKind.bits,IntKind.signed];split <;> split <;> omega
theorem Ps {h l:Int} (hh:0≤h∧h≤255) (hl:0≤l∧l≤255):bits .or .i64 (h*256) l=h*256+l:=by
 obtain ⟨a,rfl⟩:∃ a:Nat,h=(a:Int):=⟨h.toNat,by omega⟩
 obtain ⟨b,rfl⟩:∃ b:Nat,l=(b:Int):=⟨l.toNat,by omega⟩
 have e:=(bits_nat .i64 16 tG (fun n h1 h2=>RK (by have:(2:Int) ^ 16=65536:=tG;omega)) (2 ^ 8*a) b sW sW).2;rw [←lV sW a] at e;have e2:((a:Int)*256)=((2 ^ 8*a:Nat):Int):=sW;rw [e2,e];omega
theorem TY {h:Int} (hh:0≤h∧h≤65535):IntKind.i64.wrap (h*2 ^ (min (8:Int).toNat IntKind.i64.bits))=h*256:=by
 have e:(2:Int) ^ (min (8:Int).toNat IntKind.i64.bits)=256:=tG;rw [e,RK sW]
theorem YE (G:A3) (h l:Int) (hh:0≤h∧h≤255) (hl:0≤l∧l≤255):Does Tryz.prog 218 [.int .i64 h,.int .i64 l] G [] (fun v G' Ho=>v=.int .i64 (i16 h l)∧G'=G∧Ho=[]):=by
 refine D0 Tryz.func218 Tryz.ntmps218 fun w=>?_;refine aH 8 [] ?_;refine aQ (Qy.shl F9 F9 sW) ?_;refine aC 1 [] ?_;refine aQ (sO F9 F9) ?_;refine aQ (cR F9 T.u292 F9) ?_;refine aQ (cR F9 T.u3 F9) ?_;refine aS 4 [] ?_;refine dA ?_;refine ⟨?_,F9,F9⟩;rw [TY sW,Ps hh hl,w16 sW,RK So];rfl
theorem cq (G:A3) (op x:Int) (b1:Nat) (c1:Array Value) (t1:TypeId) (z1:Nat×Nat) (h1:G b1=some (.cells c1 t1 z1)) (e1:c1[0]?=some (.int .i64 op)) :
 Does Tryz.prog 217 [.int .i64 x,.pointer (some ⟨b1,0,none⟩)] G [] (fun v G' Ho=>v=.bool (decide (Cu op x=true))∧G'=G∧Ho=[]):=by
 refine D0 Tryz.func217 Tryz.ntmps217 fun w=>?_;refine aH 8 [] ?_;refine aQ (bV T.one3 F9 (wH h1 e1)) ?_;by_cases ho:op=5∨op=6
 · rcases ho with rfl | rfl
   · refine aL 19 [1,1] ?_;apply bW 3 10 13 F9;intro hg1;refine aC 5 [] ?_;exact dI 3 0;intro hg1;refine aC 3 [] ?_;exact dI 3 0;refine aC 1 [] ?_;apply bW 3 14 17 F9;intro hg1;refine aC 5 [] ?_;exact dI 3 0;intro hg1;refine aC 3 [] ?_;exact dI 3 0;refine aS 6 [] ?_;refine dA ?_;exact ⟨by unfold Cu;rw [aE (by omega)];exact Dj _,F9,F9⟩
   refine aL 22 [0,1] ?_;apply bW 3 10 13 F9;intro hg1;refine aC 5 [] ?_;exact dI 3 0;intro hg1;refine aC 3 [] ?_;exact dI 3 0;refine aC 1 [] ?_;apply bW 3 14 17 F9;intro hg1;refine aC 5 [] ?_;exact dI 3 0;intro hg1;refine aC 3 [] ?_;exact dI 3 0;refine aS 6 [] ?_;refine dA ?_;exact ⟨by unfold Cu;rw [aE (by omega)];exact Dj _,F9,F9⟩
 by_cases ho2:op=7∨op=8
 · rcases ho2 with rfl | rfl
   · refine aL 33 [0,0,1,1] ?_;apply bW 3 23 26 F9;intro hg1;refine aC 5 [] ?_;exact dI 3 0;intro hg1;refine aC 3 [] ?_;exact dI 3 0;refine aS 6 [] ?_;refine dA ?_;exact ⟨by unfold Cu;rw [aD (by omega),aE (by omega)];exact Dj _,F9,F9⟩
   refine aL 36 [0,0,0,1] ?_;apply bW 3 23 26 F9;intro hg1;refine aC 5 [] ?_;exact dI 3 0;intro hg1;refine aC 3 [] ?_;exact dI 3 0;refine aS 6 [] ?_;refine dA ?_;exact ⟨by unfold Cu;rw [aD (by omega),aE (by omega)];exact Dj _,F9,F9⟩
 refine aS 42 [0,0,0,0] ?_;refine dA ?_;exact ⟨by unfold Cu;rw [aD ho,aD ho2];exact Dj _,F9,F9⟩
def F1 (G:A3) (op:Int) (bo bm bb:Nat):Prop:=
 (∃ c t z,G bo=some (.cells c t z)∧c[0]?=some (.int .i64 op))∧(∃ c t z,G bm=some (.cells c t z)∧c[0]?=some (.func (.func 217) #[] #[.pointer (some ⟨bo,0,none⟩)]))∧(∃ c t z,G bb=some (.cells c t z)∧c[0]?=some (.func (.func 218) #[] #[]))
theorem F1.up {G G':A3} {op:Int} {bo bm bb:Nat} (h:F1 G op bo bm bb) (hl:G.le G'):F1 G' op bo bm bb:=by
 obtain ⟨⟨c1,t1,z1,h1,e1⟩,⟨c2,t2,z2,h2,e2⟩,c3,t3,z3,h3,e3⟩:=h;exact ⟨⟨c1,t1,z1,hl _ _ h1,e1⟩,⟨c2,t2,z2,hl _ _ h2,e2⟩,c3,t3,z3,hl _ _ h3,e3⟩
theorem YF {op h:Int} (hn:∀ t:Nat,t<256→Cu op (i16 h (t:Int))=false):KQ op h=false:=by
 unfold KQ;rw [List.any_eq_false];intro t ht;rw [hn t (iO.1 ht)];decide
theorem TZ {op h:Int} {t:Nat} (ht:t<256) (hm:Cu op (i16 h (t:Int))=true):KQ op h=true:=by
 unfold KQ;rw [sT];exact ⟨t,iO.2 ht,hm⟩
theorem jt (G:A3) (op x:Int) (bo bm bb:Nat) (hC:F1 G op bo bm bb) (hx:0≤x∧x≤255) :
 Does Tryz.prog 219 [.int .i64 x,.pointer (some ⟨bm,0,none⟩),.pointer (some ⟨bb,0,none⟩)] G [] (fun v G' Ho=>v=.bool (decide (KQ op x=true))∧G'=G∧Ho=[]):=by
 obtain ⟨⟨c1,t1,z1,h1,e1⟩,⟨c2,t2,z2,h2,e2⟩,c3,t3,z3,h3,e3⟩:=hC;refine D0 Tryz.func219 Tryz.ntmps219 fun w=>?_;refine bL 12 [] ?_;refine iA (ι:=Nat) (fun j=>([(6,.int .i64 (j:Int)),(0,.int .i64 x),(1,.pointer (some ⟨bm,0,none⟩)),(2,.pointer (some ⟨bb,0,none⟩))],[])) (fun j=>j≤256∧∀ t:Nat,t<j→Cu op (i16 x (t:Int))=false) (fun j=>256 - j) (0) (⟨aN _,fun t h=>absurd h sW⟩) fun j=>fun hk=>?_;obtain ⟨hj,hno⟩:=hk;rcases aK j 256 with hjl | hjl
 · refine bL 18 [1] ?_;refine fL [] [] T.mixed F9 ?_;refine eD 0 [] F9 (bV T.one171 F9 (wH h2 e2)) ?_;refine eD 1 [] F9 (bV T.one110 F9 (wH h3 e3)) ?_;refine dP [[2],[3]] ?_;refine jK 4 H2 (bN _) sZ F9 ?_;refine fA (fst:=[]) (cap:=[]) 2 F9 T.fn218 F9 F9 (YE _ x (j:Int) hx sW) (tC H2) fun v8 G8 Ho8 hle8 hp=>?_;obtain ⟨rfl,rfl,rfl⟩:=hp;refine aT ?_;refine jK 5 H2 (bN _) sZ F9 ?_;refine fA (fst:=[]) (cap:=[.pointer (some ⟨bo,0,none⟩)]) 2 F9 T.fn217 F9 F9 (cq _ op _ bo _ _ _ h1 e1) (tC H2) fun v9 G9 Ho9 hle9 hp=>?_;obtain ⟨rfl,rfl,rfl⟩:=hp;refine aT ?_;refine iF sZ H2 (bN _) ?_;refine cN ?_;refine dB (fun hc1=>?_) fun hc1=>?_;refine bG 11 [] ?_;rotate_left;refine bG 7 [] ?_;rotate_left
   · refine dA ?_;exact ⟨by rw [TZ hjl sX];rfl,F9,F9⟩
   refine cE 6 F9 (show _=Value.int .i64 ((j+1:Nat):Int) from F9) ?_;refine cM (j+1) ?_ ?_
   · refine ⟨by omega,fun t ht=>?_⟩;rcases aK t j with h | h
     · exact hno t h
     have e:t=j:=sW;subst e;exact nQ.2 sX
   show 256 - (j+1)<256 - j;omega
 refine bG 18 [0] ?_;refine dA ?_;exact ⟨by rw [YF (fun t ht=>hno t sW)];rfl,F9,F9⟩
theorem ju (G:A3) (op h x:Int) (bo bm bb bh:Nat) (hC:F1 G op bo bm bb) (c4:Array Value) (t4:TypeId) (z4:Nat×Nat) (h4:G bh=some (.cells c4 t4 z4)) (e4:c4[0]?=some (.int .i64 h)) (hh:0≤h∧h≤255) (hx:0≤x∧x≤255) :
 Does Tryz.prog 220 [.int .i64 x,.pointer (some ⟨bm,0,none⟩),.pointer (some ⟨bb,0,none⟩),.pointer (some ⟨bh,0,none⟩)] G [] (fun v G' Ho=>v=.bool (decide (Cu op (i16 h x)=true))∧G'=G∧Ho=[]):=by
 obtain ⟨⟨c1,t1,z1,h1,e1⟩,⟨c2,t2,z2,h2,e2⟩,c3,t3,z3,h3,e3⟩:=hC;refine D0 Tryz.func220 Tryz.ntmps220 fun w=>?_;refine bL 6 [] ?_;refine fL [] [] T.mixed F9 ?_;refine eD 0 [] F9 (bV T.one171 F9 (wH h2 e2)) ?_;refine eD 1 [] F9 (bV T.one110 F9 (wH h3 e3)) ?_;refine eD 2 [] F9 (bV T.one3 F9 (wH h4 e4)) ?_;refine dP [[3]] ?_;refine jK 4 H2 (bN _) sZ F9 ?_;refine fA (fst:=[]) (cap:=[]) 2 F9 T.fn218 F9 F9 (YE _ h x hh hx) (tC H2) fun v8 G8 Ho8 hle8 hp=>?_;obtain ⟨rfl,rfl,rfl⟩:=hp;refine aT ?_;refine jK 5 H2 (bN _) sZ F9 ?_;refine fA (fst:=[]) (cap:=[.pointer (some ⟨bo,0,none⟩)]) 2 F9 T.fn217 F9 F9 (cq _ op _ bo _ _ _ h1 e1) (tC H2) fun v9 G9 Ho9 hle9 hp=>?_;obtain ⟨rfl,rfl,rfl⟩:=hp;refine aT ?_;refine dP [[6]] ?_;refine iF sZ H2 (bN _) ?_;refine dO 2 [] ?_;refine dA ?_;exact ⟨F9,F9,F9⟩
theorem cr (G:A3) (b:Nat) (a:Option Addr) (c:Nat) (B:List U8) (s:RS) (op:Int) (hA:Arr G a B) (hB:C5 B) (hk:s.k≤B.length) (hl:B.length≤1048576) :
 Does Tryz.prog 174 [.pointer (some ⟨b,0,none⟩),.int .i64 op] G [(0,some b,Xr a B.length c s)] (fun v G' Ho=>∃ (x:Int) (t:RS),Zm B s op=(x,t)∧t.k≤B.length∧v=.int .i64 x∧Ho=[(0,some b,Xr a B.length c t)]):=by
 refine D0 Tryz.func174 Tryz.ntmps174 fun w=>?_;refine aH 2 [] ?_;refine eC 1 fun b1=>?_;refine aL 5 [] ?_;refine aQ (gY F9 F9) ?_;refine aM 2 F9 T.zero171 fun b2=>?_;refine aL 5 [2] ?_;refine aM 3 F9 T.zero110 fun b3=>?_;refine aL 6 [3] ?_;refine aQ (gY F9 F9) ?_;refine lM 1 F9 fun G1 hle1 hb1=>?_;refine lM 2 F9 fun G2 hle2 hb2=>?_;refine lM 3 F9 fun G3 hle3 hb3=>?_;have hC:F1 G3 op b1 b2 b3:=⟨⟨_,_,_,hle3 _ _ (hle2 _ _ hb1),F9⟩,⟨_,_,_,hle3 _ _ hb2,F9⟩,_,_,_,hb3,F9⟩
 have hA3:=((hA.up hle1).up hle2).up hle3;have hG:Pr G3 219 [.pointer (some ⟨b2,0,none⟩),.pointer (some ⟨b3,0,none⟩)] (KQ op):=⟨T.fn219,fun G' x hle h0 h1=>jt G' op x b1 b2 b3 (hC.up hle) ⟨h0,h1⟩⟩
 refine bS 0 F9 (JI _ b a c B s 219 _ _ hG hA3 hB hk hl) fun v4 G4 Ho4 hle4 hp=>?_;obtain ⟨rfl,rfl,rfl⟩:=hp;have hh:=Ld (B:=B) (s:=s) (g:=KQ op) hB hk;have hk1:=Tk (B:=B) (s:=s) (g:=KQ op) hk;obtain ⟨h,t,e⟩:∃ h t,nx B s (KQ op)=(h,t):=⟨_,_,F9⟩
 rw [e] at hh hk1 ⊢;dsimp only at hh hk1 ⊢;refine aM 4 F9 T.zero3 fun b4=>?_;refine aL 6 [4] ?_;refine aQ (gY F9 F9) ?_;refine lM 4 F9 fun G5 hle5 hb5=>?_;have hC5:=hC.up hle5;have hG2:Pr G5 220 [.pointer (some ⟨b2,0,none⟩),.pointer (some ⟨b3,0,none⟩),.pointer (some ⟨b4,0,none⟩)] (fun l=>Cu op (i16 h l)):=⟨T.fn220,fun G' x hle h0 h1=>ju G' op h x b1 b2 b3 b4 (hC5.up hle) _ _ _ (hle _ _ hb5) F9 hh ⟨h0,h1⟩⟩
 refine bS 0 F9 (JI _ b a c B t 220 _ _ hG2 (hA3.up hle5) hB hk1 hl) fun v6 G6 Ho6 hle6 hp=>?_;obtain ⟨rfl,rfl,rfl⟩:=hp;have hh2:=Ld (B:=B) (s:=t) (g:=fun l=>Cu op (i16 h l)) hB hk1;have hk2:=Tk (B:=B) (s:=t) (g:=fun l=>Cu op (i16 h l)) hk1;obtain ⟨l,u,e2⟩:∃ l u,nx B t (fun l=>Cu op (i16 h l))=(l,u):=⟨_,_,F9⟩
 rw [e2] at hh2 hk2 ⊢;dsimp only at hh2 hk2 ⊢;have hb3':=hle5 _ _ hb3;refine aL 5 [] ?_;refine aQ (bV T.one110 F9 (wH hb3' F9)) ?_;refine aQ (bV T.one3 F9 (wH hb5 F9)) ?_;refine aC 1 [] ?_;refine fA (fst:=[]) (cap:=[]) 5 F9 T.fn218 F9 F9 (YE _ h l hh hh2) (tC H2) fun v7 G7 Ho7 hle7 hp=>?_;obtain ⟨rfl,rfl,rfl⟩:=hp;refine aS 4 [] ?_;refine nT [0] ?_;exact ⟨i16 h l,u,by unfold Zm;rw [e];dsimp only;rw [e2],hk2,F9,F9⟩
theorem Zu {t:RS} (h:t.wr=true):(⟨t.k,true⟩:RS)=t:=by
 obtain ⟨k,w⟩:=t;cases h;rfl
theorem Pt {B:List U8} {s:RS} {lo hi:Int} (h:s.wr=true):wi B s lo hi=(0,s):=by rw [bq h,Zu h]
theorem Pu {B:List U8} {s:RS} {g:Int→Bool} (h:s.wr=true):nx B s g=(0,s):=by rw [NY h,Zu h]
theorem UA {B:List U8} {s:RS} {op:Int} (h:s.wr=true):(Zm B s op).2=s:=by
 unfold Zm;rw [Pu h];dsimp only;rw [Pu h]
theorem UB {B:List U8} {s:RS} {regs:Int} (h:s.wr=true):(Pn B s regs).2=s:=by
 unfold Pn;simp only [Pt h];split <;> exact UA h
theorem Zv {B:List U8} {regs:Int}:∀ (n:Nat) (s:RS) (acc:List Sl.Instr),s.wr=true→yL B regs n s acc=(acc,s)
 | 0,s,acc,_=>rfl
 | n+1,s,acc,h=>by
   have e:=UB (B:=B) (regs:=regs) h;cases hq:Pn B s regs with
   | mk i t =>
     rw [hq] at e;replace e:t=s:=e;subst e;unfold yL;rw [hq];dsimp only;rw [aE h]
theorem Pv {B:List U8} {regs:Int}:∀ (n:Nat) (s:RS) (acc:List Int),s.wr=true→(Aj B regs n s acc).2=s
 | 0,s,acc,_=>rfl
 | n+1,s,acc,h=>by
   unfold Aj;rw [Pt h];exact Pv n s _ h
theorem YG {B:List U8} {s:RS} (h:s.wr=true):(sg B s).2=s:=by
 unfold sg;rw [Pu h]
theorem FL {B:List U8}:∀ (n:Nat) (s:RS) (acc:List R2),s.wr=true→(Gg B n s acc).2=s
 | 0,s,acc,_=>rfl
 | n+1,s,acc,h=>by
   have e:=YG (B:=B) h;cases hq:sg B s with
   | mk x t =>
     rw [hq] at e;replace e:t=s:=e;subst e;unfold Gg;rw [hq];dsimp only;rw [hq];dsimp only;exact FL n t _ h
theorem Zw {B:List U8} {regs:Int} {n:Nat} {s t:RS} {acc:List Sl.Instr} {i:Sl.Instr} (e:Pn B s regs=(i,t)) (h:t.wr=false):yL B regs (n+1) s acc=yL B regs n t (acc++[i]):=by
 rw [yL,e];dsimp only;rw [aD (by rw [h];decide)]
theorem Tp {B:List U8} {regs:Int} {n:Nat} {s t:RS} {acc:List Sl.Instr} {i:Sl.Instr} (e:Pn B s regs=(i,t)) (h:t.wr=true):yL B regs (n+1) s acc=(acc,t):=by
 rw [yL,e];dsimp only;rw [aE h]
theorem OL {B:List U8} {regs:Int} {n:Nat} {s t:RS} {acc:List Int} {x:Int} (e:wi B s 0 (regs - 1)=(x,t)):Aj B regs (n+1) s acc=Aj B regs n t (acc++[x]):=by
 rw [Aj,e]
theorem Ns {B:List U8} {s t1 t2 t3 t4 t5:RS} {regs op to a b c:Int} (e1:wi B s 1 8=(op,t1)) (e2:wi B t1 0 (regs - 1)=(to,t2)) (e3:wi B t2 0 (regs - 1)=(a,t3)) (e4:(if op=3∨op=4 then wi B t3 0 (regs - 1) else ((0:Int),(wi B t3 0 0).2))=(b,t4)) (e5:Zm B t4 op=(c,t5)):Pn B s regs=(⟨op,to,a,b,c⟩,t5):=by
 unfold Pn;rw [e1];dsimp only;rw [e2];dsimp only;rw [e3];dsimp only;rw [e4];dsimp only;rw [e5]
theorem jv (G:A3) (x:Int) (hx:0≤x∧x≤255):Does Tryz.prog 172 [.int .i64 x] G [] (fun v G' Ho=>v=.bool (decide (x*256≤16384))∧G'=G∧Ho=[]):=by
 refine D0 Tryz.func172 Tryz.ntmps172 fun w=>?_;refine aH 8 [] ?_;refine aQ (Qy.shl F9 F9 sW) ?_;refine aS 5 [] ?_;refine dA ?_;rw [TY sW];exact ⟨F9,F9,F9⟩
theorem jx (G:A3) (h x:Int) (b1:Nat) (c1:Array Value) (t1:TypeId) (z1:Nat×Nat) (h1:G b1=some (.cells c1 t1 z1)) (e1:c1[0]?=some (.int .i64 h)) (hh:0≤h∧h≤255) (hx:0≤x∧x≤255) :
 Does Tryz.prog 173 [.int .i64 x,.pointer (some ⟨b1,0,none⟩)] G [] (fun v G' Ho=>v=.bool (decide (h*256+x≤16384))∧G'=G∧Ho=[]):=by
 refine D0 Tryz.func173 Tryz.ntmps173 fun w=>?_;refine aH 7 [] ?_;refine aQ (bV T.one3 F9 (wH h1 e1)) ?_;refine aQ (Qy.shl F9 F9 sW) ?_;refine aC 1 [] ?_;refine aQ (sO F9 F9) ?_;refine aS 5 [] ?_;refine dA ?_;rw [TY sW,Ps hh hx];exact ⟨F9,F9,F9⟩
theorem Zx {B:List U8} {s t1 t2 t3 t4 t5 t6 t7:RS} {ins regs h l n:Int} {r:List Sl.Instr} {q:List Int} {N M:Nat} (e1:wi B s 1 128=(ins,t1)) (e2:wi B t1 ins 128=(regs,t2)) (e3:nx B t2 (fun x=>decide (x*256≤16384))=(h,t3)) (e4:nx B t3 (fun x=>decide (h*256+x≤16384))=(l,t4)) (hN:(h*256+l).toNat=N) (e5:yL B regs N t4 []=(r,t5)) (e6:wi B t5 1 128=(n,t6)) (hM:n.toNat=M) (e7:Aj B regs M t6 []=(q,t7)):vP B s=(⟨ins,regs,r,q⟩,t7):=by
 subst hN hM;unfold vP;rw [e1];dsimp only;rw [e2];dsimp only;rw [e3];dsimp only;rw [e4];dsimp only;rw [e5];dsimp only;rw [e6];dsimp only;rw [e7]
theorem YH (G:A3) (b:Nat) (a:Option Addr) (c:Nat) (B:List U8) (s:RS) (hA:Arr G a B) (hB:C5 B) (hk:s.k≤B.length) (hl:B.length≤1048576) :
 Does Tryz.prog 125 [.pointer (some ⟨b,0,none⟩)] G [(0,some b,Xr a B.length c s)] (fun v G' Ho=>∃ (p:PV) (t:RS) (ac ao:Option Addr) (cc co:Nat),vP B s=(p,t)∧t.k≤B.length∧v=.agg (I0 p ac cc ao co)∧Arr G' ac p.code∧Arr G' ao p.outs∧p.code.length≤65535∧p.outs.length≤255∧Ho=[(0,some b,Xr a B.length c t)]):=by
 refine D0 Tryz.func125 Tryz.ntmps125 fun w=>?_;refine eF 9 (Row 91 ([]:List Sl.Instr) []) ?_;refine eF 8 (Row 3 ([]:List Int) []) ?_;refine aH 2 [] ?_;refine aM 10 F9 T.zero26 fun b1=>?_;refine aZ 2 [] ?_;refine lX ?_;refine aH 3 [] ?_;refine bS 0 F9 (Ci _ _ a c B _ _ _ hA hB sX hl) fun v1 G1 Ho1 hle1 hp=>?_;obtain ⟨x1,t1,ht1,hk1,hx1,rfl,rfl⟩:=hp;replace hA:=hA.up hle1;refine aQ (bP (cs:=[_,_,_,_]) T.st26 F9 F9 F9) ?_;refine aM 11 F9 T.zero26 fun b2=>?_;refine aL 8 [11,11] ?_;refine bS 0 F9 (Ci _ _ a c B _ _ _ hA hB sX hl) fun v2 G2 Ho2 hle2 hp=>?_;obtain ⟨x2,t2,ht2,hk2,hx2,rfl,rfl⟩:=hp;replace hA:=hA.up hle2;refine aL 7 [11] ?_;have hG1:Pr G2 172 [] (fun x=>decide (x*256≤16384)):=⟨T.fn172,fun G' x hle h0 h1=>(jv G' x ⟨h0,h1⟩).mono fun v G'' Ho _ h=>⟨h.1.trans (Dj _),h.2⟩⟩
 refine bS 0 F9 (JI _ b a c B t2 172 _ _ hG1 hA hB hk2 hl) fun v3 G3 Ho3 hle3 hp=>?_;obtain ⟨rfl,rfl,rfl⟩:=hp;have hh3:=Ld (B:=B) (s:=t2) (g:=fun x=>decide (x*256≤16384)) hB hk2;have hk3:=Tk (B:=B) (s:=t2) (g:=fun x=>decide (x*256≤16384)) hk2;obtain ⟨h,t3,e3⟩:∃ h t3,nx B t2 (fun x=>decide (x*256≤16384))=(h,t3):=⟨_,_,F9⟩
 rw [e3] at hh3 hk3 ⊢;dsimp only at hh3 hk3 ⊢;refine aM 12 F9 T.zero3 fun b3=>?_;refine aL 6 [12] ?_;refine aQ (gY F9 F9) ?_;refine lM 12 F9 fun G4 hle4 hb4=>?_;replace hA:=hA.up hle4;have hG2:Pr G4 173 [.pointer (some ⟨b3,0,none⟩)] (fun x=>decide (h*256+x≤16384)):=⟨T.fn173,fun G' x hle h0 h1=>(jx G' h x b3 _ _ _ (hle _ _ hb4) F9 hh3 ⟨h0,h1⟩).mono fun v G'' Ho _ q=>⟨q.1.trans (Dj _),q.2⟩⟩
 refine bS 0 F9 (JI _ b a c B t3 173 _ _ hG2 hA hB hk3 hl) fun v5 G5 Ho5 hle5 hp=>?_;obtain ⟨rfl,rfl,rfl⟩:=hp;have hh4:=Ld (B:=B) (s:=t3) (g:=fun x=>decide (h*256+x≤16384)) hB hk3;have hk4:=Tk (B:=B) (s:=t3) (g:=fun x=>decide (h*256+x≤16384)) hk3;obtain ⟨l,t4,e4⟩:∃ l t4,nx B t3 (fun x=>decide (h*256+x≤16384))=(l,t4):=⟨_,_,F9⟩
 rw [e4] at hh4 hk4 ⊢;dsimp only at hh4 hk4 ⊢;obtain ⟨N,hN,hN2⟩:∃ N:Nat,h*256+l=(N:Int)∧N≤65535:=⟨(h*256+l).toNat,by omega,by omega⟩
 refine aZ 6 [] ?_;refine Oz (ι:=A3×RS×List Sl.Instr×(Option Addr×Nat×List Value)) (fun (Gx,t,r,(o,d,j))=>([(0,.pointer (some ⟨b,0,none⟩)),(2,.pointer (some ⟨b1,0,none⟩)),(3,.pointer (some ⟨b2,0,none⟩))],[(0,some b,Xr a B.length c t),(10,some b1,.cells #[.int .i64 0,.int .i64 0,.slice none 0 0,.slice none 0 0] 26),(11,some b2,.cells #[.int .i64 x1,.int .i64 x2,.slice o r.length d,.slice none 0 0] 26),(9,o.map (·.block),Row 91 r j),(8,none,Row 3 ([]:List Int) [])])) (fun (Gx,t,r,(o,d,j))=>Gx) (fun (Gx,t,r,(o,d,j))=>G5.le Gx∧yL B x2 N t4 []=(r,t)∧t.k≤B.length∧A4 o d r j∧r.length≤N) ?_ fun ⟨Gx,t,r,(o,d,j)⟩=>fun (hk:G5.le Gx∧yL B x2 N t4 []=(r,t)∧t.k≤B.length∧A4 o d r j∧r.length≤N)=>?_
 · refine aH 2 [] ?_;refine aQ (bV T.one3 F9 (wH hb4 F9)) ?_;refine aQ (Qy.shl F9 F9 sW) ?_;refine aC 1 [] ?_;refine aQ (sO F9 F9) ?_;refine aZ 4 [] ?_;refine iP 23 F9 (show _=Value.int .i64 (N:Int) by rw [TY sW,Ps hh3 hh4,hN]) ?_;refine kE (ι:=Nat×A3×RS×List Sl.Instr×(Option Addr×Nat×List Value)) (fun (i,Gx,t,r,(o,d,j))=>([(24,.int .i64 (i:Int)),(23,.int .i64 (N:Int)),(0,.pointer (some ⟨b,0,none⟩)),(2,.pointer (some ⟨b1,0,none⟩)),(3,.pointer (some ⟨b2,0,none⟩))],[(0,some b,Xr a B.length c t),(10,some b1,.cells #[.int .i64 0,.int .i64 0,.slice none 0 0,.slice none 0 0] 26),(11,some b2,.cells #[.int .i64 x1,.int .i64 x2,.slice o r.length d,.slice none 0 0] 26),(9,o.map (·.block),Row 91 r j),(8,none,Row 3 ([]:List Int) [])])) (fun (i,Gx,t,r,(o,d,j))=>Gx) (fun (i,Gx,t,r,(o,d,j))=>i≤N∧G5.le Gx∧yL B x2 N t4 []=yL B x2 (N - i) t r∧t.k≤B.length∧A4 o d r j∧r.length=i) (fun (i,Gx,t,r,(o,d,j))=>N - i) ((0,G5,t4,[],(none,0,[]))) (⟨aN _,bN _,F9,hk4,eG,F9⟩) F9 ⟨F9,F9,F9,F9,F9,H2⟩ ⟨F9,F9,F9,F9,F9,H2⟩ fun ⟨i,Gx,t,r,(o,d,j)⟩=>fun hk=>?_;obtain ⟨hi,hgx,hcode,hkt,hown,hri⟩:=hk;replace hA:=hA.up hgx;rcases aK i N with hiN | hiN
   · refine bL 11 [1] ?_;refine Oz (ι:=A3×Nat×(Int×RS)×(Int×RS)×(Int×RS)) (fun (Gy,b4,(y6,u6),(y7,u7),(y8,u8))=>([(0,.pointer (some ⟨b,0,none⟩)),(2,.pointer (some ⟨b1,0,none⟩)),(3,.pointer (some ⟨b2,0,none⟩)),(24,.int .i64 (i:Int)),(23,.int .i64 (N:Int)),(6,.pointer (some ⟨b4,0,none⟩))],[(0,some b,Xr a B.length c u8),(10,some b1,.cells #[.int .i64 0,.int .i64 0,.slice none 0 0,.slice none 0 0] 26),(11,some b2,.cells #[.int .i64 x1,.int .i64 x2,.slice o r.length d,.slice none 0 0] 26),(9,o.map (·.block),Row 91 r j),(8,none,Row 3 ([]:List Int) []),(12,some b4,.cells #[.int .i64 y6,.int .i64 y7,.int .i64 y8,.int .i64 0,.int .i64 0] 91)])) (fun (Gy,b4,(y6,u6),(y7,u7),(y8,u8))=>Gy) (fun (Gy,b4,(y6,u6),(y7,u7),(y8,u8))=>Gx.le Gy∧wi B t 1 8=(y6,u6)∧wi B u6 0 (x2 - 1)=(y7,u7)∧wi B u7 0 (x2 - 1)=(y8,u8)∧u8.k≤B.length) ?_ fun ⟨Gy,b4,(y6,u6),(y7,u7),(y8,u8)⟩=>fun (hk:Gx.le Gy∧wi B t 1 8=(y6,u6)∧wi B u6 0 (x2 - 1)=(y7,u7)∧wi B u7 0 (x2 - 1)=(y8,u8)∧u8.k≤B.length)=>?_
     · refine dK [8,9,11,10,0] [(0,11),(0,6),(0,1)] T.mixed [[0],[2],[3],[4,11],[5],[7],[8],[9,11],[10]] ?_;refine mK 1 13 ?_ ?_;refine bS 0 F9 (Ci _ _ a c B _ _ _ hA hB sX hl) fun v6 G6 Ho6 hle6 hp=>?_;obtain ⟨x6,t6,ht6,hk6,hx6,rfl,rfl⟩:=hp;replace hA:=hA.up hle6;refine aT ?_;refine mK 6 13 ?_ ?_;refine bS 0 F9 (Ci _ _ a c B _ _ _ hA hB sX hl) fun v7 G7 Ho7 hle7 hp=>?_;obtain ⟨x7,t7,ht7,hk7,hx7,rfl,rfl⟩:=hp;replace hA:=hA.up hle7;refine aT ?_;refine mK 11 13 ?_ ?_;refine bS 0 F9 (Ci _ _ a c B _ _ _ hA hB sX hl) fun v8 G8 Ho8 hle8 hp=>?_;obtain ⟨x8,t8,ht8,hk8,hx8,rfl,rfl⟩:=hp;replace hA:=hA.up hle8;refine aT ?_;refine eD 12 [] F9 (bP (cs:=[_,_,_,_,_]) T.st91 F9 F9 F9) ?_;refine bE 13 ?_;refine aM 12 F9 T.zero91 fun b4=>?_;refine cX 14 ?_;refine aC 1 [12] ?_;refine fJ ?_;rotate_left;refine aM 12 F9 T.zero91 fun b4=>?_;refine cX 11 ?_;refine bS 0 F9 (Ci _ _ a c B _ _ _ hA hB sX hl) fun v8 G8 Ho8 hle8 hp=>?_;obtain ⟨x8,t8,ht8,hk8,hx8,rfl,rfl⟩:=hp;replace hA:=hA.up hle8;refine aT ?_;refine eD 12 [] F9 (bP (cs:=[_,_,_,_,_]) T.st91 F9 F9 F9) ?_;refine bE 14 ?_;refine aC 1 [12] ?_;refine fJ ?_;rotate_left;refine aM 12 F9 T.zero91 fun b4=>?_;refine cX 6 ?_;refine bS 0 F9 (Ci _ _ a c B _ _ _ hA hB sX hl) fun v7 G7 Ho7 hle7 hp=>?_;obtain ⟨x7,t7,ht7,hk7,hx7,rfl,rfl⟩:=hp;replace hA:=hA.up hle7;refine cX 11 ?_;refine bS 0 F9 (Ci _ _ a c B _ _ _ hA hB sX hl) fun v8 G8 Ho8 hle8 hp=>?_;obtain ⟨x8,t8,ht8,hk8,hx8,rfl,rfl⟩:=hp;replace hA:=hA.up hle8;refine aT ?_;refine eD 12 [] F9 (bP (cs:=[_,_,_,_,_]) T.st91 F9 F9 F9) ?_;refine bE 14 ?_;refine aC 1 [12] ?_;refine fJ ?_;rotate_left;refine aM 12 F9 T.zero91 fun b4=>?_;refine cX 1 ?_;refine bS 0 F9 (Ci _ _ a c B _ _ _ hA hB sX hl) fun v6 G6 Ho6 hle6 hp=>?_;obtain ⟨x6,t6,ht6,hk6,hx6,rfl,rfl⟩:=hp;replace hA:=hA.up hle6;refine cX 6 ?_;refine bS 0 F9 (Ci _ _ a c B _ _ _ hA hB sX hl) fun v7 G7 Ho7 hle7 hp=>?_;obtain ⟨x7,t7,ht7,hk7,hx7,rfl,rfl⟩:=hp;replace hA:=hA.up hle7;refine cX 11 ?_;refine bS 0 F9 (Ci _ _ a c B _ _ _ hA hB sX hl) fun v8 G8 Ho8 hle8 hp=>?_;obtain ⟨x8,t8,ht8,hk8,hx8,rfl,rfl⟩:=hp;replace hA:=hA.up hle8;refine aT ?_;refine eD 12 [] F9 (bP (cs:=[_,_,_,_,_]) T.st91 F9 F9 F9) ?_;refine bE 14 ?_;refine aC 1 [12] ?_;refine fJ ?_;rotate_left
       · refine mU ((G8,b4,(x6,t6),(x7,t7),(x8,t8))) ?_;exact ⟨aO hle6 (aO hle7 hle8),ht6,ht7,ht8,hk8⟩
       · refine mU ((G8,b4,(x6,t6),(x7,t7),(x8,t8))) ?_;exact ⟨aO hle6 (aO hle7 hle8),ht6,ht7,ht8,hk8⟩
       · refine mU ((G8,b4,(x6,t6),(x7,t7),(x8,t8))) ?_;exact ⟨aO hle6 (aO hle7 hle8),ht6,ht7,ht8,hk8⟩
       refine mU ((G8,b4,(x6,t6),(x7,t7),(x8,t8))) ?_;exact ⟨aO hle6 (aO hle7 hle8),ht6,ht7,ht8,hk8⟩
     obtain ⟨hgy,hu6,hu7,hu8,hk8⟩:=hk;replace hA:=hA.up hgy;have hNi:N - i=(N - i - 1)+1:=sW;refine aH 7 [12] ?_;apply dZ 4 42 46 F9;intro hg1;refine aC 7 [12] ?_;exact dI 4 0;intro hg1;refine aC 4 [] ?_;exact dI 4 0;refine aZ 2 [] ?_;refine dB (fun hc1=>?_) fun hc1=>?_;refine aH 5 [11] ?_;refine bS 0 F9 (Ci _ _ a c B _ _ _ hA hB sX hl) fun v6 G6 Ho6 hle6 hp=>?_;obtain ⟨x6,t6,ht6,hk6,hx6,rfl,rfl⟩:=hp;replace hA:=hA.up hle6;refine aL 9 [12,12] ?_;refine bS 0 F9 (cr _ _ a c B _ _ hA hB sX hl) fun v7 G7 Ho7 hle7 hp=>?_;obtain ⟨x7,t7,ht7,hk7,rfl,rfl⟩:=hp;replace hA:=hA.up hle7;refine aZ 13 [12,0] ?_;refine lN F9 (fun hc2=>?_) fun hc2=>?_;refine bG 6 [] ?_;rotate_left;refine aH 6 [11,12] ?_;refine cC (α:=Sl.Instr) 13 [⟨y6,y7,y8,x6,x7⟩] F9 T.sl23 T.el91 F9 F9 F9 F9 F9 fun b5=>?_;refine kM (α:=Sl.Instr) 9 T.sl23 T.el91 (cQ 13 F9) fun a1 c1 junk1 ho1=>?_;refine aS 9 [11] ?_;rotate_left;refine aH 2 [] ?_;refine bS 0 F9 (Ci _ _ a c B _ _ _ hA hB sX hl) fun v6 G6 Ho6 hle6 hp=>?_;obtain ⟨x6,t6,ht6,hk6,hx6,rfl,rfl⟩:=hp;replace hA:=hA.up hle6;refine aL 7 [12] ?_;refine bS 0 F9 (cr _ _ a c B _ _ hA hB sX hl) fun v7 G7 Ho7 hle7 hp=>?_;obtain ⟨x7,t7,ht7,hk7,rfl,rfl⟩:=hp;replace hA:=hA.up hle7;refine aZ 13 [12,0] ?_;refine lN F9 (fun hc2=>?_) fun hc2=>?_;refine bG 6 [] ?_;rotate_left;refine aH 6 [11,12] ?_;refine cC (α:=Sl.Instr) 13 [⟨y6,y7,y8,0,x7⟩] F9 T.sl23 T.el91 F9 F9 F9 F9 F9 fun b5=>?_;refine kM (α:=Sl.Instr) 9 T.sl23 T.el91 (cQ 13 F9) fun a1 c1 junk1 ho1=>?_;refine aS 9 [11] ?_;rotate_left
     · refine mU ((G7,t7,r,(o,d,j))) ?_;refine ⟨aO hgx (aO hgy (aO hle6 hle7)),?_,hk7,hown,by omega⟩;rw [hcode,hNi];exact Tp (Ns hu6 hu7 hu8 ((aE sX).trans ht6) ht7) sX
     · refine cE 24 F9 (show _=Value.int .i64 ((i+1:Nat):Int) from F9) ?_;refine cM ((i+1,G7,t7,r++[⟨y6,y7,y8,x6,x7⟩],(a1,c1,junk1))) ?_ ?_
       · refine ⟨by omega,aO hgx (aO hgy (aO hle6 hle7)),?_,hk7,ho1,by rw [aB,hri];rfl⟩;rw [hcode,hNi,show N - (i+1)=N - i - 1 by omega];exact Zw (Ns hu6 hu7 hu8 ((aE sX).trans ht6) ht7) sX
       show N - (i+1)<N - i;omega
     · refine mU ((G7,t7,r,(o,d,j))) ?_;refine ⟨aO hgx (aO hgy (aO hle6 hle7)),?_,hk7,hown,by omega⟩;rw [hcode,hNi];exact Tp (Ns hu6 hu7 hu8 ((aD sX).trans (by rw [ht6])) ht7) sX
     refine cE 24 F9 (show _=Value.int .i64 ((i+1:Nat):Int) from F9) ?_;refine cM ((i+1,G7,t7,r++[⟨y6,y7,y8,0,x7⟩],(a1,c1,junk1))) ?_ ?_
     · refine ⟨by omega,aO hgx (aO hgy (aO hle6 hle7)),?_,hk7,ho1,by rw [aB,hri];rfl⟩;rw [hcode,hNi,show N - (i+1)=N - i - 1 by omega];exact Zw (Ns hu6 hu7 hu8 ((aD sX).trans (by rw [ht6])) ht7) sX
     show N - (i+1)<N - i;omega
   refine bG 11 [0] ?_;have hz:N - i=0:=sW;rw [hz] at hcode;refine mU ((Gx,t,r,(o,d,j))) ?_;exact ⟨hgx,hcode,hkt,hown,by omega⟩
 obtain ⟨hgx,hcode,hkt,hown,hrl⟩:=hk;replace hA:=hA.up hgx;refine aH 4 [] ?_;refine bS 0 F9 (Ci _ _ a c B _ _ _ hA hB sX hl) fun v6 G6 Ho6 hle6 hp=>?_;obtain ⟨x6,t6,ht6,hk6,hx6,rfl,rfl⟩:=hp;replace hA:=hA.up hle6;refine aZ 4 [] ?_;obtain ⟨M,hM,hM2⟩:∃ M:Nat,x6=(M:Int)∧M≤255:=⟨x6.toNat,by omega,by omega⟩
 refine iP 72 F9 (show _=Value.int .i64 (M:Int) by rw [hM]) ?_;refine kE (ι:=Nat×A3×RS×List Int×(Option Addr×Nat×List Value)) (fun (i,Gy,u,q,(o2,d2,j2))=>([(73,.int .i64 (i:Int)),(72,.int .i64 (M:Int)),(0,.pointer (some ⟨b,0,none⟩)),(2,.pointer (some ⟨b1,0,none⟩)),(3,.pointer (some ⟨b2,0,none⟩))],[(0,some b,Xr a B.length c u),(10,some b1,.cells #[.int .i64 0,.int .i64 0,.slice none 0 0,.slice none 0 0] 26),(11,some b2,.cells #[.int .i64 x1,.int .i64 x2,.slice o r.length d,.slice o2 q.length d2] 26),(9,o.map (·.block),Row 91 r j),(8,o2.map (·.block),Row 3 q j2)])) (fun (i,Gy,u,q,(o2,d2,j2))=>Gy) (fun (i,Gy,u,q,(o2,d2,j2))=>i≤M∧G6.le Gy∧Aj B x2 M t6 []=Aj B x2 (M - i) u q∧u.k≤B.length∧A4 o2 d2 q j2∧q.length=i) (fun (i,Gy,u,q,(o2,d2,j2))=>M - i) ((0,G6,t6,[],(none,0,[]))) (⟨aN _,bN _,F9,hk6,eG,F9⟩) F9 ⟨F9,F9,F9,F9,F9,H2⟩ ⟨F9,F9,F9,F9,F9,H2⟩ fun ⟨i,Gy,u,q,(o2,d2,j2)⟩=>fun hk=>?_;obtain ⟨hi,hgy,houts,hku,hob,hqi⟩:=hk;replace hA:=hA.up hgy;rcases aK i M with hiM | hiM
 · refine bL 11 [1] ?_;refine dK [8,9,11,10,0] [(11,10),(9,8),(8,8),(0,6)] T.mixed [[0],[1,11],[2],[3],[4,11],[5]] ?_;refine bE 6 ?_;refine bS 0 F9 (Ci _ _ a c B _ _ _ hA hB sX hl) fun v7 G7 Ho7 hle7 hp=>?_;obtain ⟨x7,t7,ht7,hk7,hx7,rfl,rfl⟩:=hp;replace hA:=hA.up hle7;refine cX 7 ?_;refine cC (α:=Int) 12 [(x7)] F9 T.sl24 T.el3 F9 F9 F9 F9 F9 fun b4=>?_;refine cX 8 ?_;refine kM (α:=Int) 8 T.sl24 T.el3 (cQ 12 F9) fun a1 c1 junk1 ho1=>?_;refine aT ?_;refine dP [[9]] ?_;refine bE 10 ?_;refine aC 1 [11] ?_;refine fJ ?_;refine dO 6 [] ?_;refine cE 73 F9 (show _=Value.int .i64 ((i+1:Nat):Int) from F9) ?_;refine cM ((i+1,G7,t7,q++[x7],(a1,c1,junk1))) ?_ ?_
   · refine ⟨by omega,aO hgy hle7,?_,hk7,ho1,by rw [aB,hqi];rfl⟩;rw [houts,show M - i=(M - (i+1))+1 by omega];exact OL ht7
   show M - (i+1)<M - i;omega
 refine bG 19 [0,11,10] ?_;refine jJ ?_;have hz:M - i=0:=sW;rw [hz] at houts;refine dD 9 F9 hown fun G8 hle8 hA8=>?_;refine dD 8 F9 hob fun G9 hle9 hA9=>?_;refine cK (.inr F9) (Ho:=Hp.only _ [0]) F9 (.agg 10 F9 F9 T.agg26) (aU _ _) ?_;refine ⟨⟨x1,x2,r,q⟩,u,o,o2,d,d2,?_,hku,F9,hA8.up hle9,hA9,bO hrl hN2,by show q.length≤255;omega,F9⟩;unfold vP;rw [ht1];dsimp only;rw [ht2];dsimp only;rw [e3];dsimp only;rw [e4];dsimp only;rw [show (h*256+l).toNat=N by omega,hcode];dsimp only;rw [ht6];dsimp only;rw [show x6.toNat=M by omega,houts];rfl
theorem FM (B:List U8) (k:Nat):0≤xC B k∧xC B k<65521:=by
 cases k with
 | zero=>exact ⟨jA _,(by decide:(0:Int)<65521)⟩
 | succ k =>
   unfold xC;omega
theorem Pw {j v:Int} (hj:0≤j∧j≤1048577) (hv:0≤v∧v≤255):0≤j*v∧j*v≤267387135:=by
 refine ⟨kS hj.1 hv.1,?_⟩;exact Int.le_trans (Int.mul_le_mul hj.2 hv.2 hv.1 sW) sW
theorem c65 (G:A3) (a:Option Addr) (c:Nat) (B:List U8) (hA:Arr G a B) (hB:C5 B) (hl:B.length≤1048576) :
 Does Tryz.prog 65 [.slice a B.length c] G [] (fun v G' Ho=>v=.int .i64 (xC B B.length)∧G'=G∧Ho=[]):=by
 refine D0 Tryz.func65 Tryz.ntmps65 fun w=>?_;refine bL 17 [] ?_;refine iA (ι:=Nat) (fun j=>([(4,.int .i64 (j:Int)),(3,.int .i64 (xC B j)),(0,.slice a B.length c),(2,Go.Value.int Go.IntKind.i64 0)],[])) (fun j=>j≤B.length) (fun j=>B.length - j) (0) (aN _) fun j=>fun (hk:j≤B.length)=>?_;rcases aK j B.length with hjl | hjl
 · have h8:=hB j hjl;have ew:IntKind.i64.wrap (B[(j:Int).toNat]?.getD default).v=(B[j]?.getD default).v:=RK WE;have hm:=Pw (j:=(j:Int)+1) sW h8;rw [←ew] at hm;have hc:=FM B j;refine aH 20 [1] ?_;refine fV (α:=U8) T.sl38 ?_;refine jG 0 T.one5 ?_;refine aQ (cR F9 T.u3 F9) ?_;refine aQ (mD F9 F9 sW) ?_;refine aC 1 [] ?_;refine aQ (nI F9 F9 sW) ?_;refine aS 9 [] ?_;refine cE 3 F9 (show _=Value.int .i64 (xC B (j+1)) by rw [ew];rfl) ?_;refine cE 4 F9 (show _=Value.int .i64 ((j+1:Nat):Int) from F9) ?_;refine cM (j+1) ?_ ?_
   · exact hjl
   show B.length - (j+1)<B.length - j;omega
 have hje:j=B.length:=sW;subst hje;refine bG 22 [0] ?_;refine dA ?_;exact ⟨F9,F9,F9⟩
theorem ct (G:A3) (a:Option Addr) (c:Nat) (B:List U8) (hA:Arr G a B) (hB:C5 B) (hl:B.length≤65520) :
 Does Tryz.prog 126 [.slice a B.length c] G [] (fun v G' Ho=>v=.int .i64 (xC B B.length)∧G'=G∧Ho=[]):=by
 refine D0 Tryz.func126 Tryz.ntmps126 fun w=>?_;refine bL 19 [] ?_;refine iA (ι:=Nat) (fun j=>([(8,.int .i64 (j:Int)),(3,.int .i64 (xC B j)),(7,Go.Value.int Go.IntKind.i64 (↑(List.length B):Int)),(6,Go.Value.slice a (List.length B) c),(2,Go.Value.int Go.IntKind.i64 0)],[])) (fun j=>j≤B.length) (fun j=>B.length - j) (0) (aN _) fun j=>fun (hk:j≤B.length)=>?_;rcases aK j B.length with hjl | hjl
 · have h8:=hB j hjl;have ew:IntKind.i64.wrap (B[(j:Int).toNat]?.getD default).v=(B[j]?.getD default).v:=RK WE;have et:((j:Int)+1).tmod 65521=(j:Int)+1:=by rw [pB sW];omega
   have hm2:=Pw (j:=(j:Int)+1) sW h8;have hm:=hm2;rw [←ew,←et] at hm;have hc:=FM B j;refine aH 14 [1] ?_;refine fV (α:=U8) T.sl38 ?_;refine jG 0 T.one5 ?_;refine aL 8 [] ?_;refine aQ (nI F9 F9 sW) ?_;refine aC 1 [] ?_;refine aQ (cR F9 T.u3 F9) ?_;refine aQ (mO F9 F9) ?_;refine aQ (Uz F9 F9) ?_;refine aQ (sN F9 F9 sW) ?_;refine aS 8 [] ?_;refine cE 3 F9 (show _=Value.int .i64 (xC B (j+1)) by rw [ew,sK (a:=(j:Int)+1) sW sW,RK (x:=((j:Int)+1)*(B[j]?.getD default).v) sW,RK sW,pB sW];rfl) ?_;refine cE 8 F9 (show _=Value.int .i64 ((j+1:Nat):Int) from F9) ?_;refine cM (j+1) ?_ ?_
   · exact hjl
   show B.length - (j+1)<B.length - j;omega
 have hje:j=B.length:=sW;subst hje;refine bG 19 [0] ?_;refine dA ?_;exact ⟨F9,F9,F9⟩
end Go.Proofs.YtkdelpdbjfpgmaaGreatDoor
namespace Go.Sl.Ez
open Go Go.Sl
section
variable {P:Program} {w:World}
theorem run_mark {t e:TypeId} {b o n c:Nat} {cs:Array Value} {ty:TypeId} (ht:P.underlying t=some (.slice e)) (he:P.underlying e=some (.int .u8)) (hb:w.heap[b]?=some (.cells cs ty (0,0))) :
 (convert t t (.slice (some ⟨b,o,none⟩) n c)).run P w=.ok (.slice (some ⟨b,o,none⟩) n c) (w.freeze ⟨b,cs.size,none⟩ 1):=by
 have hsh:w.shape? b=some (ty,cs.size):=by unfold World.shape?;rw [hb]
 simp [convert,dE ht,dE he,markStringish,hsh]
theorem freeze_upd {b k:Nat}:E2 (·=b) w (w.freeze ⟨b,k,none⟩ 1):=⟨F9,F9,F9,by simp [World.freeze],fun j _ hj=>by
 have hj':b≠j:=fun e=>hj e.symm;simp [World.freeze,qZ,hj']⟩
theorem freeze_at {b k:Nat} {cs:Array Value} {ty:TypeId} (hb:w.heap[b]?=some (.cells cs ty (0,0))):(w.freeze ⟨b,k,none⟩ 1).heap[b]?=some (.cells cs ty (k,k+1)):=by
 simp [World.freeze,qZ,hb]
end
section
variable {P:Program} {e:A9} {H:Hp} {G:A3} {ty T:TypeId}
theorem Qy.indexV {x i:Operand} {n E:Nat} {k:IntKind} {m:Int} {vs:List Value} {v:Value} (hu:P.underlying T=some (.array n E)) (h1:wR P E=true) (hs:(P.info? E).map (·.size)=some 1) (hx:e.ev x=some (.agg vs.toArray)) (hi:e.ev i=some (.int k m))
 (hb:0≤m∧m<n) (hv:vs[m.toNat]?=some v):Qy P (.index T x i) ty e H G v:=fun a w _ _ _ _ hh=>by
 simp [execOp,Instr.index,hh.eval hx,hh.eval hi,asIntOf,dE hu,hb,run_sizeOf w hs,part,zQ w h1,hv]
end
end Go.Sl.Ez
namespace Go.Sl
open Go
section
variable {P:Program} {B:Bs} {e:A9} {D:List Deferred} {H:Hp} {G:A3} {K:Act→World→Prop} {ops:Array Oper} {rest:List Oper} {d:Nat} {ty:TypeId} {pos:String} {after:Array Edge}
theorem Wl.mark {T E ty0:TypeId} {x:Operand} {b n c:Nat} {cs:List Value} (t:Nat) (hn:Nat.ble (d+1) B.n=true) (hT:P.underlying T=some (.slice E)) (hE:P.underlying E=some (.int .u8)) (hx:e.ev x=some (.slice (some ⟨b,0,none⟩) n c)) (ht:H.get t=some (some b,.cells cs.toArray ty0 (0,0)))
 (h:Wl P ops rest B ⟨(d,.slice (some ⟨b,0,none⟩) n c) :: e,D,(t,some b,.cells cs.toArray ty0 (cs.toArray.size,cs.toArray.size+1)) :: H,G⟩ K):Wl P ops (⟨some d,.convert T T x,ty,pos,after,none⟩ :: rest) B ⟨e,D,H,G⟩ K:=
 nV (v:=.slice (some ⟨b,0,none⟩) n c) (x:=.value (.slice (some ⟨b,0,none⟩) n c)) ht (.inr ⟨F9,d,F9,hn⟩) (fun a w hh=>by
  have hb:=hh.mem.own t b _ ht;refine ⟨_,?_,Ez.freeze_upd,Ez.freeze_at (k:=cs.toArray.size) hb⟩;simp only [execOp,hh.eval hx,dG,Ez.run_mark hT hE hb,bM,dT]) h
end
end Go.Sl
namespace Go.Proofs.YtkdelpdbjfpgmaaGreatDoor
open Go Go.Sl
theorem jy (G:A3) (b:Nat):Does Tryz.prog 73 [.pointer (some ⟨b,0,none⟩)] G [] (fun v G' Ho=>v=.agg #[.pointer (some ⟨b,3,none⟩),.pointer (some ⟨b,7,none⟩),.pointer (some ⟨b,11,none⟩)]∧G'=G∧Ho=[]):=by
 refine D0 Tryz.func73 Tryz.ntmps73 fun w=>?_;refine aH 2 [] ?_;refine aM 0 F9 T.zero119 fun b1=>?_;refine aZ 3 [] ?_;refine dK [0] [(0,10)] T.mixed [[0],[1],[2],[3],[4],[5],[6],[7],[8]] ?_;refine eD 9 [] F9 (Kq (cs:=[_,_,_]) T.ar119 F9 F9 F9) ?_;refine bE 10 ?_;refine aC 1 [0] ?_;refine aT ?_;refine iF sZ H2 wF ?_;refine dO 2 [] ?_;refine cK (.inr F9) (Ho:=Hp.only _ []) F9 (.agg 0 F9 F9 T.agg119) (aU _ _) ?_;exact ⟨F9,F9,F9⟩
theorem Jn {G:A3} {b:Nat} {ty:TypeId} {z:Nat×Nat} {xs:List U8} (h:G b=some (.cells (tV xs++[]).toArray ty z)):Arr G (some ⟨b,0,none⟩) xs:=by
 refine ⟨by rw [tP],.inr ⟨b,0,F9,fun k hk=>?_⟩⟩;unfold A3.cell;rw [h];simp
theorem UC {B:List U8} {n:Nat} {s t u:RS} {x y:Int} {r:List R2} (h1:sg B s=(x,t)) (h2:sg B t=(y,u)):Gg B (n+1) s r=Gg B n u (r++[(⟨x,y⟩:R2)]):=by
 show (match sg B s with | (a,t)=>match sg B t with | (b,t')=>Gg B n t' (r++[(⟨a,b⟩:R2)]))=_;rw [h1];dsimp only;rw [h2]
theorem C5.take {B:List U8} (h:C5 B) (n:Nat):C5 (B.take n):=fun i hi=>by
 rw [bH] at hi;rw [List.getElem?_take_of_lt sW];exact h i sW
theorem Tq {B:List U8} {n:Nat}:∀ k,k≤n→n≤B.length→xC (B.take n) k=xC B k
 | 0,_,_=>rfl
 | k+1,h,hn=>by
   show (xC (B.take n) k+((k:Int)+1)*((B.take n)[k]?.getD default).v) % 65521=(xC B k+((k:Int)+1)*(B[k]?.getD default).v) % 65521;rw [Tq k sW hn,List.getElem?_take_of_lt sW]
def FN (k1 k2:Int) (pa:Option Addr) (pn pc:Nat) (x y z:PH):Value:=.agg #[.int .i64 k1,.int .i64 k2,.slice pa pn pc,.int .i64 x.ins,.int .i64 x.regs,.slice x.ac x.cn x.cc,.slice x.ao x.on x.oc,.int .i64 y.ins,.int .i64 y.regs,.slice y.ac y.cn y.cc,.slice y.ao y.on y.oc,.int .i64 z.ins,.int .i64 z.regs,.slice z.ac z.cn z.cc,.slice z.ao z.on z.oc]
theorem Zy {x:Int}:x.fdiv (2 ^ min (Int.toNat 8) IntKind.i64.bits)=x / 256:=by
 rw [show (2:Int) ^ min (Int.toNat 8) IntKind.i64.bits=256 from tG];exact pE _ tG
theorem OM {x:Int} (h:0≤x∧x≤65535):bits .and .i64 x 255=x % 256:=by
 obtain ⟨a,rfl⟩:∃ a:Nat,x=(a:Int):=⟨x.toNat,by omega⟩
 have e:=(bits_nat .i64 16 tG (fun n h1 h2=>RK (by have:(2:Int) ^ 16=65536:=tG;omega)) a 255 sW sW).1;rw [show (255:Nat)=2 ^ 8 - 1 from rfl,sP] at e;exact e.trans sW
theorem Et {B:List U8}:∀ k,0≤xC B k∧xC B k≤65520
 | 0=>by show (0:Int)≤0∧(0:Int)≤65520;omega
 | k+1=>by
   show 0≤(xC B k+((k:Int)+1)*(B[k]?.getD default).v) % 65521∧(xC B k+((k:Int)+1)*(B[k]?.getD default).v) % 65521≤65520;omega
theorem FO {B:List U8} {s:RS} (h:s.wr=true):Sd B s=s:=aE h
theorem UD {B:List U8} {s t u:RS} {x y n:Int} (h:s.wr=false) (hn:n=xC B s.k) (h1:wi B s (n / 256) (n / 256)=(x,t)) (h2:wi B t (n % 256) (n % 256)=(y,u)):Sd B s=u:=by
 unfold Sd;rw [aD (by rw [h];exact Bool.false_ne_true),←hn,h1,h2]
def FP (B:List U8) (s:RS):Nat→RS
 | 0=>s
 | i+1=>(vP B (FP B s i)).2
theorem c66 (G:A3) (a:Option Addr) (c:Nat) (B:List U8) (hA:Arr G a B) (hc:B.length≤c) (hB:C5 B) (hl:B.length≤65520) :
 Does Tryz.prog 66 [.slice a B.length c] G [] (fun v G' Ho=>∃ (u:UV) (t:RS),wB B=(u,t)∧t.k≤B.length∧Ho=[]∧(((t.wr=true∨t.k<B.length)∧v=.tuple #[FN 0 0 none 0 0 ⟨0,0,none,0,0,none,0,0⟩ ⟨0,0,none,0,0,none,0,0⟩ ⟨0,0,none,0,0,none,0,0⟩,.agg #[.int .i64 170,.int .i64 (t.k:Int)]])∨
  (t.wr=false∧t.k=B.length∧∃ (pa:Option Addr) (pc:Nat) (h0 h1 h2:PH),v=.tuple #[FN u.k1 u.k2 pa u.pl.length pc h0 h1 h2,.agg #[.int .i64 0,.int .i64 0]]∧u.pl.length≤pc∧Arr G' pa u.pl∧D6 G' u.x h0∧D6 G' u.y h1∧D6 G' u.z h2))):=by
 have hl0:=hl;replace hl:B.length≤1048576:=sW;refine D0 Tryz.func66 Tryz.ntmps66 fun w=>?_;refine aH 2 [] ?_;refine aM 0 F9 T.zero28 fun b1=>?_;refine aM 1 F9 T.zero42 fun b2=>?_;refine aL 5 [] ?_;refine aQ (bP (cs:=[_,_,_]) T.st198 F9 F9 F9) ?_;refine eC 2 fun b3=>?_;refine aL 6 [] ?_;refine cC (α:=U8) 3 [⟨65⟩,⟨78⟩,⟨86⟩,⟨49⟩] F9 T.sl38 T.el5 F9 F9 F9 F9 F9 fun b4=>?_;refine Wl.mark 3 F9 T.sl38.1 T.u5 F9 F9 ?_;refine lM 3 F9 fun G1 hle1 hm1=>?_;replace hA:=hA.up hle1;obtain ⟨M,hMe,hM⟩:∃ M:List U8,M=[(⟨65⟩:U8),⟨78⟩,⟨86⟩,⟨49⟩]∧Arr G1 (some ⟨b4,0,none⟩) M:=⟨_,F9,Jn hm1⟩
 have hM4:M.length=4:=by rw [hMe];rfl
 refine aZ 5 [] ?_;refine iP 16 F9 (show _=Value.slice (some ⟨b4,0,none⟩) M.length 4 by rw [hM4];rfl) ?_;refine Wc.lg (ι:=Nat×A3×RS) (fun (i,Gx,tm)=>([(18,.int .i64 (i:Int)),(17,.int .i64 4),(16,.slice (some ⟨b4,0,none⟩) M.length 4),(4,.pointer (some ⟨b3,0,none⟩)),(0,.slice a B.length c),(3,Go.Value.pointer (Option.some (Go.Addr.mk b2 0 Option.none))),(2,Go.Value.pointer (Option.some (Go.Addr.mk b1 0 Option.none)))],[(0,some b1,.cells #[.int .i64 0,.int .i64 0,.slice none 0 0,.int .i64 0,.int .i64 0,.slice none 0 0,.slice none 0 0,.int .i64 0,.int .i64 0,.slice none 0 0,.slice none 0 0,.int .i64 0,.int .i64 0,.slice none 0 0,.slice none 0 0] 28),(1,some b2,.cells #[.int .i64 0,.int .i64 0] 42),(2,some b3,Xr a B.length c tm)])) (fun (i,Gx,tm)=>Gx) (fun (i,Gx,tm)=>i≤4∧G1.le Gx∧tm=Tl B i∧tm.k≤B.length) (fun (i,Gx,tm)=>4 - i) ((0,G1,⟨0,false⟩)) (⟨aN _,bN _,F9,aN _⟩) fun ⟨i,Gx,tm⟩=>fun hk=>?_;obtain ⟨hi,hgx,ht0,hk0⟩:=hk;replace hA:=hA.up hgx;replace hM:=hM.up hgx;rcases aK i 4 with hi4 | hi4
 · refine aH 13 [1] ?_;refine fV (α:=U8) T.sl38 ?_;refine jG 0 T.one5 ?_;refine aL 6 [] ?_;refine aQ (cR F9 T.u3 F9) ?_;refine aC 1 [] ?_;refine aQ (cR F9 T.u3 F9) ?_;refine bS 2 F9 (Ci _ _ a c B _ _ _ hA hB sX hl) fun v2 G2 Ho2 hle2 hp=>?_;obtain ⟨x2,t2,ht2,hk2,hx2,rfl,rfl⟩:=hp;replace hA:=hA.up hle2;replace hM:=hM.up hle2;refine aS 7 [] ?_;refine cM ((i+1,G2,t2)) ?_ ?_
   · refine ⟨by omega,aO hgx hle2,?_,hk2⟩;refine (congrArg Prod.snd ht2).symm.trans ?_;rw [ht0,hMe];rcases (show i=0∨i=1∨i=2∨i=3 by omega) with rfl | rfl | rfl | rfl <;> rfl
   show 4 - (i+1)<4 - i;omega
 obtain rfl:i=4:=sW;refine aH 15 [0] ?_;refine bS 2 F9 (Ci _ _ a c B _ _ _ hA hB sX hl) fun v2 G2 Ho2 hle2 hp=>?_;obtain ⟨x2,t2,ht2,hk2,hx2,rfl,rfl⟩:=hp;replace hA:=hA.up hle2;replace hM:=hM.up hle2;refine aC 1 [] ?_;refine bS 2 F9 (Ci _ _ a c B _ _ _ hA hB sX hl) fun v3 G3 Ho3 hle3 hp=>?_;obtain ⟨x3,t3,ht3,hk3,hx3,rfl,rfl⟩:=hp;replace hA:=hA.up hle3;replace hM:=hM.up hle3;refine aQ (bP (cs:=[_,_,_,_,_,_,_,_,_,_,_,_,_,_,_]) T.st28 F9 F9 F9) ?_;refine aM 3 F9 T.zero28 fun b5=>?_;refine aL 7 [3] ?_;refine bS 2 F9 (Ci _ _ a c B _ _ _ hA hB sX hl) fun v4 G4 Ho4 hle4 hp=>?_;obtain ⟨x4,t4,ht4,hk4,hx4,rfl,rfl⟩:=hp;replace hA:=hA.up hle4;replace hM:=hM.up hle4;refine aZ 4 [] ?_;obtain ⟨N,hN,hN2⟩:∃ N:Nat,x4=(N:Int)∧N≤255:=⟨x4.toNat,by omega,by omega⟩
 refine iP 35 F9 (show _=Value.int .i64 (N:Int) by rw [hN]) ?_;refine eF 9 (Row 52 ([]:List R2) []) ?_;refine kE (ι:=Nat×A3×RS×List R2×(Option Addr×Nat×List Value)) (fun (i,Gx,t,r,(o,d,j))=>([(36,.int .i64 (i:Int)),(35,.int .i64 (N:Int)),(7,.pointer (some ⟨b5,0,none⟩)),(4,.pointer (some ⟨b3,0,none⟩)),(0,.slice a B.length c),(3,Go.Value.pointer (Option.some (Go.Addr.mk b2 0 Option.none))),(2,Go.Value.pointer (Option.some (Go.Addr.mk b1 0 Option.none)))],[(0,some b1,.cells #[.int .i64 0,.int .i64 0,.slice none 0 0,.int .i64 0,.int .i64 0,.slice none 0 0,.slice none 0 0,.int .i64 0,.int .i64 0,.slice none 0 0,.slice none 0 0,.int .i64 0,.int .i64 0,.slice none 0 0,.slice none 0 0] 28),(1,some b2,.cells #[.int .i64 0,.int .i64 0] 42),(2,some b3,Xr a B.length c t),(3,some b5,.cells #[.int .i64 x2,.int .i64 x3,.slice o r.length d,.int .i64 0,.int .i64 0,.slice none 0 0,.slice none 0 0,.int .i64 0,.int .i64 0,.slice none 0 0,.slice none 0 0,.int .i64 0,.int .i64 0,.slice none 0 0,.slice none 0 0] 28),(9,o.map (·.block),Row 52 r j)])) (fun (i,Gx,t,r,(o,d,j))=>Gx) (fun (i,Gx,t,r,(o,d,j))=>i≤N∧G4.le Gx∧Gg B N t4 []=Gg B (N - i) t r∧t.k≤B.length∧A4 o d r j∧r.length=i) (fun (i,Gx,t,r,(o,d,j))=>N - i) ((0,G4,t4,[],(none,0,[]))) (⟨aN _,bN _,F9,hk4,eG,F9⟩) F9 ⟨F9,F9,F9,F9,F9,F9,F9,H2⟩ ⟨F9,F9,F9,F9,F9,H2⟩ fun ⟨i,Gx,t,r,(o,d,j)⟩=>fun hk=>?_;obtain ⟨hi,hgy,hpts,hkt,hown,hri⟩:=hk;replace hA:=hA.up hgy;rcases aK i N with hiN | hiN
 · refine aH 14 [1] ?_;refine bS 2 F9 (cp _ _ a c B _ hA hB sX hl) fun v5 G5 Ho5 hle5 hp=>?_;obtain ⟨x5,t5,ht5,hk5,hx5,rfl,rfl⟩:=hp;replace hA:=hA.up hle5;refine aZ 3 [] ?_;refine dK [9,3,1,0,2] [(3,9),(9,7),(2,4)] T.mixed [[0],[1,3],[2],[3]] ?_;refine bE 4 ?_;refine bS 2 F9 (cp _ _ a c B _ hA hB sX hl) fun v6 G6 Ho6 hle6 hp=>?_;obtain ⟨x6,t6,ht6,hk6,hx6,rfl,rfl⟩:=hp;replace hA:=hA.up hle6;refine aT ?_;refine eD 5 [] F9 (bP (cs:=[_,_]) T.st52 F9 F9 F9) ?_;refine bE 6 ?_;refine cC (α:=R2) 10 [⟨x5,x6⟩] F9 T.sl22 T.el52 F9 F9 F9 F9 F9 fun b6=>?_;refine cX 7 ?_;refine kM (α:=R2) 9 T.sl22 T.el52 (cQ 10 F9) fun a1 c1 junk1 ho1=>?_;refine aT ?_;refine dP [[8]] ?_;refine bE 9 ?_;refine aC 1 [3] ?_;refine fJ ?_;refine dO 6 [] ?_;refine cE 36 F9 (show _=Value.int .i64 ((i+1:Nat):Int) from F9) ?_;refine cM ((i+1,G6,t6,r++[⟨x5,x6⟩],(a1,c1,junk1))) ?_ ?_
   · refine ⟨by omega,aO hgy (aO hle5 hle6),?_,hk6,ho1,by rw [aB,hri];rfl⟩;rw [hpts,show N - i=(N - (i+1))+1 by omega];exact UC ht5 ht6
   show N - (i+1)<N - i;omega
 have hz:N - i=0:=sW;rw [hz] at hpts;refine qL 9 F9 hown fun G5 hle5 hpl=>?_;replace hA:=hA.up hle5;refine aH 15 [0] ?_;refine cF F9 (jy _ _) ?_;refine aZ 4 [] ?_;refine Wc.lg (ι:=Nat×A3×RS×PH×PH×PH) (fun (i,Gx,s,h0,h1,h2)=>([(51,.int .i64 (i:Int)),(50,.agg #[.pointer (some ⟨b5,3,none⟩),.pointer (some ⟨b5,7,none⟩),.pointer (some ⟨b5,11,none⟩)]),(7,.pointer (some ⟨b5,0,none⟩)),(4,.pointer (some ⟨b3,0,none⟩)),(0,.slice a B.length c),(3,Go.Value.pointer (Option.some (Go.Addr.mk b2 0 Option.none))),(2,Go.Value.pointer (Option.some (Go.Addr.mk b1 0 Option.none)))],[(0,some b1,.cells #[.int .i64 0,.int .i64 0,.slice none 0 0,.int .i64 0,.int .i64 0,.slice none 0 0,.slice none 0 0,.int .i64 0,.int .i64 0,.slice none 0 0,.slice none 0 0,.int .i64 0,.int .i64 0,.slice none 0 0,.slice none 0 0] 28),(1,some b2,.cells #[.int .i64 0,.int .i64 0] 42),(2,some b3,Xr a B.length c s),(3,some b5,.cells #[.int .i64 x2,.int .i64 x3,.slice o r.length d,.int .i64 h0.ins,.int .i64 h0.regs,.slice h0.ac h0.cn h0.cc,.slice h0.ao h0.on h0.oc,.int .i64 h1.ins,.int .i64 h1.regs,.slice h1.ac h1.cn h1.cc,.slice h1.ao h1.on h1.oc,.int .i64 h2.ins,.int .i64 h2.regs,.slice h2.ac h2.cn h2.cc,.slice h2.ao h2.on h2.oc] 28)])) (fun (i,Gx,s,h0,h1,h2)=>Gx) (fun (i,Gx,s,h0,h1,h2)=>i≤3∧G5.le Gx∧s=FP B t i∧s.k≤B.length∧(0<i→D6 Gx (vP B (FP B t 0)).1 h0)∧(1<i→D6 Gx (vP B (FP B t 1)).1 h1)∧(2<i→D6 Gx (vP B (FP B t 2)).1 h2)) (fun (i,Gx,s,h0,h1,h2)=>3 - i) ((0,G5,t,⟨0,0,none,0,0,none,0,0⟩,⟨0,0,none,0,0,none,0,0⟩,⟨0,0,none,0,0,none,0,0⟩)) (⟨aN _,bN _,F9,hkt,fun h=>absurd h sW,fun h=>absurd h sW,fun h=>absurd h sW⟩) fun ⟨i,Gx,s,h0,h1,h2⟩=>fun hk=>?_;obtain ⟨hi3,hgz,hs,hks,hp0,hp1,hp2⟩:=hk;replace hA:=hA.up hgz;rcases aK i 3 with hi3' | hi3'
 · rcases (show i=0∨i=1∨i=2 by omega) with rfl | rfl | rfl
   · refine aH 13 [1] ?_;refine aQ (Ez.Qy.indexV (n:=3) (E:=85) sZ sZ sZ F9 F9 tG F9) ?_;refine aL 6 [] ?_;refine bS 2 F9 (YH _ _ a c B _ hA hB sX hl) fun v6 G6 Ho6 hle6 hp=>?_;obtain ⟨p6,t6,ac6,ao6,cc6,co6,ht6,hk6,rfl,hac6,hao6,hcn6,hon6,rfl⟩:=hp;replace hA:=hA.up hle6;refine aC 1 [] ?_;refine iM 3 T.size26 F9 F9 F9 F9 F9 F9 ?_;refine aS 7 [] ?_;have hq:vP B (FP B t 0)=(p6,t6):=by rw [←hs];exact ht6
     refine cM ((1,G6,t6,⟨p6.ins,p6.regs,ac6,p6.code.length,cc6,ao6,p6.outs.length,co6⟩,h1,h2)) ?_ ?_
     · exact ⟨by omega,aO hgz hle6,by show t6=(vP B (FP B t 0)).2;rw [hq],hk6,fun _=>by rw [hq];exact ⟨F9,F9,F9,F9,hac6,hao6⟩,fun h=>absurd h sW,fun h=>absurd h sW⟩
     show 3 - 1<3 - 0;omega
   · refine aH 13 [1] ?_;refine aQ (Ez.Qy.indexV (n:=3) (E:=85) sZ sZ sZ F9 F9 tG F9) ?_;refine aL 6 [] ?_;refine bS 2 F9 (YH _ _ a c B _ hA hB sX hl) fun v6 G6 Ho6 hle6 hp=>?_;obtain ⟨p6,t6,ac6,ao6,cc6,co6,ht6,hk6,rfl,hac6,hao6,hcn6,hon6,rfl⟩:=hp;replace hA:=hA.up hle6;refine aC 1 [] ?_;refine iM 3 T.size26 F9 F9 F9 F9 F9 F9 ?_;refine aS 7 [] ?_;have hq:vP B (FP B t 1)=(p6,t6):=by rw [←hs];exact ht6
     refine cM ((2,G6,t6,h0,⟨p6.ins,p6.regs,ac6,p6.code.length,cc6,ao6,p6.outs.length,co6⟩,h2)) ?_ ?_
     · exact ⟨by omega,aO hgz hle6,by show t6=(vP B (FP B t 1)).2;rw [hq],hk6,fun _=>(hp0 sW).up hle6,fun _=>by rw [hq];exact ⟨F9,F9,F9,F9,hac6,hao6⟩,fun h=>absurd h sW⟩
     show 3 - 2<3 - 1;omega
   refine aH 13 [1] ?_;refine aQ (Ez.Qy.indexV (n:=3) (E:=85) sZ sZ sZ F9 F9 tG F9) ?_;refine aL 6 [] ?_;refine bS 2 F9 (YH _ _ a c B _ hA hB sX hl) fun v6 G6 Ho6 hle6 hp=>?_;obtain ⟨p6,t6,ac6,ao6,cc6,co6,ht6,hk6,rfl,hac6,hao6,hcn6,hon6,rfl⟩:=hp;replace hA:=hA.up hle6;refine aC 1 [] ?_;refine iM 3 T.size26 F9 F9 F9 F9 F9 F9 ?_;refine aS 7 [] ?_;have hq:vP B (FP B t 2)=(p6,t6):=by rw [←hs];exact ht6
   refine cM ((3,G6,t6,h0,h1,⟨p6.ins,p6.regs,ac6,p6.code.length,cc6,ao6,p6.outs.length,co6⟩)) ?_ ?_
   · exact ⟨by omega,aO hgz hle6,by show t6=(vP B (FP B t 2)).2;rw [hq],hk6,fun _=>(hp0 sW).up hle6,fun _=>(hp1 sW).up hle6,fun _=>by rw [hq];exact ⟨F9,F9,F9,F9,hac6,hao6⟩⟩
   show 3 - 3<3 - 2;omega
 obtain rfl:i=3:=sW;refine bL 12 [0] ?_;refine Oz (ι:=A3×RS) (fun (Gy,u)=>([(7,.pointer (some ⟨b5,0,none⟩)),(4,.pointer (some ⟨b3,0,none⟩)),(0,.slice a B.length c),(3,.pointer (some ⟨b2,0,none⟩)),(2,.pointer (some ⟨b1,0,none⟩))],[(0,some b1,.cells #[.int .i64 0,.int .i64 0,.slice none 0 0,.int .i64 0,.int .i64 0,.slice none 0 0,.slice none 0 0,.int .i64 0,.int .i64 0,.slice none 0 0,.slice none 0 0,.int .i64 0,.int .i64 0,.slice none 0 0,.slice none 0 0] 28),(1,some b2,.cells #[.int .i64 0,.int .i64 0] 42),(2,some b3,Xr a B.length c u),(3,some b5,.cells #[.int .i64 x2,.int .i64 x3,.slice o r.length d,.int .i64 h0.ins,.int .i64 h0.regs,.slice h0.ac h0.cn h0.cc,.slice h0.ao h0.on h0.oc,.int .i64 h1.ins,.int .i64 h1.regs,.slice h1.ac h1.cn h1.cc,.slice h1.ao h1.on h1.oc,.int .i64 h2.ins,.int .i64 h2.regs,.slice h2.ac h2.cn h2.cc,.slice h2.ao h2.on h2.oc] 28)])) (fun (Gy,u)=>Gy) (fun (Gy,u)=>Gx.le Gy∧u=Sd B s∧u.k≤B.length) ?_ fun ⟨Gy,u⟩=>fun (hk:Gx.le Gy∧u=Sd B s∧u.k≤B.length)=>?_
 · refine bL 9 [2] ?_;refine lN F9 (fun hc1=>?_) fun hc1=>?_;refine aH 7 [2] ?_;refine aQ (Nl T.sl38 F9 F9 sW) ?_;rotate_left;refine kN ?_;rotate_left
   · refine fR 69 F9 (show _=Value.slice (C6 a c 0 1) (B.take s.k).length c by congr 1;rw [bH];omega) ?_;refine cF F9 (ct _ _ _ (B.take s.k) (Iv hA _) (hB.take _) (by rw [bH];omega)) ?_;refine aL 7 [] ?_;refine aQ (nW F9 F9 sW) ?_;refine aC 1 [] ?_;refine aQ (nW F9 F9 sW) ?_;refine bS 2 F9 (Ci _ _ a c B _ _ _ hA hB sX hl) fun v6 G6 Ho6 hle6 hp=>?_;obtain ⟨x6,t6,ht6,hk6,hx6,rfl,rfl⟩:=hp;replace hA:=hA.up hle6;refine aL 5 [] ?_;refine aQ (lS F9 F9) ?_;refine aC 1 [] ?_;refine aQ (lS F9 F9) ?_;refine bS 2 F9 (Ci _ _ a c B _ _ _ hA hB sX hl) fun v7 G7 Ho7 hle7 hp=>?_;obtain ⟨x7,t7,ht7,hk7,hx7,rfl,rfl⟩:=hp;replace hA:=hA.up hle7;refine eT ?_;have hcs:xC (List.take s.k B) (List.take s.k B).length=xC B s.k:=by rw [bH,cY hks];exact Tq s.k (aI _) hks
     rw [Zy,hcs] at ht6;rw [hcs,OM ⟨(Et _).1,by have:=(Et (B:=B) s.k).2;omega⟩] at ht7;refine mU ((G7,t7)) ?_;exact ⟨aO hle6 hle7,(UD (by have:=hc1;cases hw:s.wr <;> simp_all) rfl ht6 ht7).symm,hk7⟩
   refine mU ((Gx,s)) ?_;exact ⟨bN _,(FO (by have:=hc1;cases hw:s.wr <;> simp_all)).symm,hks⟩
 obtain ⟨hgw,hu,hku⟩:=hk;have hdec:wB B=(⟨x2,x3,r,(vP B (FP B t 0)).1,(vP B (FP B t 1)).1,(vP B (FP B t 2)).1⟩,u):=by
  unfold wB;rw [←ht0,ht2];dsimp only;rw [ht3];dsimp only;rw [ht4];dsimp only;rw [show x4.toNat=N by omega,hpts,hu,hs];rfl
 refine aH 8 [2] ?_;refine Sq 87 F9 (fun hg1=>?_) fun hg1=>?_;refine aZ 12 [1] ?_;refine fL [3,2,1,0] [(1,7),(0,6)] T.mixed F9 ?_;refine eD 0 [] F9 (bP (cs:=[_,_,_,_,_,_,_,_,_,_,_,_,_,_,_]) T.st28 F9 F9 F9) ?_;refine dP [[1],[2],[3],[4,2]] ?_;refine eD 5 [] F9 (bP (cs:=[_,_]) T.st42 F9 F9 F9) ?_;refine bE 6 ?_;refine aC 1 [0] ?_;refine cX 7 ?_;refine aC 1 [1] ?_;refine fJ ?_;refine dO 3 [] ?_;rotate_left;refine aZ 17 [2] ?_;refine dB (fun hc1=>?_) fun hc1=>?_;refine dN ?_;refine fL [3,2,1,0] [(1,7),(0,6)] T.mixed F9 ?_;refine eD 0 [] F9 (bP (cs:=[_,_,_,_,_,_,_,_,_,_,_,_,_,_,_]) T.st28 F9 F9 F9) ?_;refine dP [[1],[2],[3],[4,2]] ?_;refine eD 5 [] F9 (bP (cs:=[_,_]) T.st42 F9 F9 F9) ?_;refine bE 6 ?_;refine aC 1 [0] ?_;refine cX 7 ?_;refine aC 1 [1] ?_;refine fJ ?_;refine dO 3 [] ?_;rotate_left;refine aH 5 [3] ?_;refine aQ (bP (cs:=[_,_]) T.st42 F9 F9 F9) ?_;refine aS 5 [0,1] ?_;rotate_left
 · refine iC (.inr F9) (Ho:=Hp.only _ []) F9 (.agg 0 F9 F9 T.agg28) (.agg 1 F9 F9 T.agg42) (aU _ _) ?_;exact ⟨_,u,hdec,hku,F9,.inl ⟨.inl sX,F9⟩⟩
 · refine iC (.inr F9) (Ho:=Hp.only _ []) F9 (.agg 0 F9 F9 T.agg28) (.agg 1 F9 F9 T.agg42) (aU _ _) ?_;exact ⟨_,u,hdec,hku,F9,.inl ⟨.inr sW,F9⟩⟩
 refine iC (.inr F9) (Ho:=Hp.only _ []) F9 (.agg 0 F9 F9 T.agg28) (.agg 1 F9 F9 T.agg42) (aU _ _) ?_;exact ⟨_,u,hdec,hku,F9,.inr ⟨by assumption,by omega,o,d,h0,h1,h2,F9,hown.le,(hpl.up hgz).up hgw,(hp0 sW).up hgw,(hp1 sW).up hgw,(hp2 sW).up hgw⟩⟩
theorem YI {α β:Type} {p:α×β} {b:β} (h:p.2=b):p=(p.1,b):=by rw [←h]
theorem ON {B:List U8} {s:RS} (h:s.wr=true):(vP B s).2=s:=
 congrArg Prod.snd (Zx (Pt h) (Pt h) (Pu h) (Pu h) F9 (Zv _ _ _ h) (Pt h) F9 (YI (Pv _ _ _ h)))
theorem Px {B:List U8} {s t:RS} (h:(vP B s).2=t) (hw:t.wr=false):s.wr=false:=by
 cases hs:s.wr with
 | false=>rfl
 | true=>rw [ON hs] at h;rw [←h,hs] at hw;cases hw
theorem UE {B:List U8} {t1 t2 t3 t t4 t6 t7:RS} {k1 k2 n:Int} {N:Nat} {pl:List R2} {x y z:PV} (e1:wi B (Tl B 4) 1 8=(k1,t1)) (e2:wi B t1 1 8=(k2,t2)) (e3:wi B t2 0 255=(n,t3)) (hN:n.toNat=N) (e4:Gg B N t3 []=(pl,t)) (e5:vP B t=(x,t4)) (e6:vP B t4=(y,t6)) (e7:vP B t6=(z,t7)):wB B=(⟨k1,k2,pl,x,y,z⟩,Sd B t7):=by
 subst hN;unfold wB;rw [e1];dsimp only;rw [e2];dsimp only;rw [e3];dsimp only;rw [e4];dsimp only;rw [e5];dsimp only;rw [e6];dsimp only;rw [e7]
theorem fe {x:Int}:IntKind.u8.wrap x=x % 256:=by
 simp [IntKind.wrap,IntKind.bits,IntKind.signed]
theorem jz (G:A3) (n:Int) (hn:0≤n∧n≤65520):Does Tryz.prog 64 [.int .i64 n] G [] (fun v G' Ho=>∃ (a:Option Addr) (C:List U8),C=[⟨n / 256⟩,⟨n % 256⟩]∧C.length=2∧v=.slice a C.length 2∧Arr G' a C∧Ho=[]):=by
 refine D0 Tryz.func64 Tryz.ntmps64 fun w=>?_;refine aH 9 [] ?_;refine aQ (nI F9 F9 sW) ?_;refine aL 6 [] ?_;refine aQ (rO F9 F9 sW) ?_;refine aQ (cR F9 T.u5 F9) ?_;refine aC 1 [] ?_;refine aQ (nI F9 F9 sW) ?_;refine aQ (cR F9 T.u5 F9) ?_;refine fR 8 F9 (show _=Value.int .u8 (n / 256) by rw [fe];congr 1;omega) ?_;refine fR 11 F9 (show _=Value.int .u8 (n % 256) by rw [fe];congr 1;omega) ?_;refine cC (α:=U8) 0 [⟨n / 256⟩,⟨n % 256⟩] F9 T.sl38 T.el5 F9 F9 F9 F9 F9 fun b1=>?_;refine aS 4 [] ?_;refine dD 0 F9 (fP (xs:=[(⟨n / 256⟩:U8),⟨n % 256⟩]) Dv) fun G9 hle9 hA=>?_;refine dA ?_;exact ⟨_,_,F9,F9,F9,hA,F9⟩
section
attribute [local irreducible] vK uP tL sY uG
theorem ZL (G:A3) (k1 k2:Int) (pl:List R2) (pa:Option Addr) (pc:Nat) (xp yp zp:PV) (xac xao yac yao zac zao:Option Addr) (xcc xoc ycc yoc zcc zoc:Nat) (hpa:Arr G pa pl) (hpc:pl.length≤pc) (hpl:pl.length≤1048576) (hxc:Arr G xac xp.code) (hxo:Arr G xao xp.outs) (hx1:xp.code.length≤16384) (hx2:xp.outs.length≤1048576) (hyc:Arr G yac yp.code) (hyo:Arr G yao yp.outs) (hy1:yp.code.length≤16384) (hy2:yp.outs.length≤1048576) (hzc:Arr G zac zp.code) (hzo:Arr G zao zp.outs) (hz1:zp.code.length≤16384) (hz2:zp.outs.length≤1048576) :
 Does Tryz.prog 13 [.agg #[.int .i64 k1,.int .i64 k2,.slice pa pl.length pc,.int .i64 xp.ins,.int .i64 xp.regs,.slice xac xp.code.length xcc,.slice xao xp.outs.length xoc,.int .i64 yp.ins,.int .i64 yp.regs,.slice yac yp.code.length ycc,.slice yao yp.outs.length yoc,.int .i64 zp.ins,.int .i64 zp.regs,.slice zac zp.code.length zcc,.slice zao zp.outs.length zoc]] G [] (fun v G' Ho=>v=.tuple #[.int .i64 (tW k1 k2 pl xp yp zp).1,.int .i64 (tW k1 k2 pl xp yp zp).2]∧Ho=[]):=by
 refine D0 Tryz.func13 Tryz.ntmps13 fun w=>?_;by_cases hW:tL k1 k2 pl=0
 case neg =>
  refine aH 2 [] ?_;refine eC 0 fun b1=>?_;refine aL 12 [0,0,0] ?_;refine bS 1 F9 (fd _ _ _ _ _ _ sX sW sW) fun v1 G1 Ho1 hle1 hp=>?_;obtain ⟨pv1,rfl,rfl⟩:=hp;replace hpa:=hpa.up hle1;replace hxc:=hxc.up hle1;replace hxo:=hxo.up hle1;replace hyc:=hyc.up hle1;replace hyo:=hyo.up hle1;replace hzc:=hzc.up hle1;replace hzo:=hzo.up hle1;refine aS 24 [1] ?_;refine iB ?_;exact ⟨by rw [YD hW],F9⟩
 obtain ⟨hP1,hP2,hL,hRL⟩:=vH hW;obtain ⟨n1,rfl⟩:∃ n:Nat,k1=(n:Int):=⟨k1.toNat,by have:=hP1.1;omega⟩
 obtain ⟨n2,rfl⟩:∃ n:Nat,k2=(n:Int):=⟨k2.toNat,by have:=hP2.1;omega⟩
 have hn1:1≤n1∧n1≤8:=by have:=hP1.1;have:=hP1.2;omega
 have hn2:1≤n2∧n2≤8:=by have:=hP2.1;have:=hP2.2;omega
 refine aH 2 [] ?_;refine eC 0 fun b1=>?_;refine aL 12 [0,0,0] ?_;refine bS 1 F9 (fd _ _ _ _ _ _ sX sW sW) fun v1 G1 Ho1 hle1 hp=>?_;obtain ⟨pv1,rfl,rfl⟩:=hp;replace hpa:=hpa.up hle1;replace hxc:=hxc.up hle1;replace hxo:=hxo.up hle1;replace hyc:=hyc.up hle1;replace hyo:=hyo.up hle1;replace hzc:=hzc.up hle1;replace hzo:=hzo.up hle1;refine aL 21 [0,0] ?_;refine bS 1 F9 (c55 _ _ _ _ _ _ xp yp zp _ _ _ _ _ _ _ _ _ _ _ _) fun v2 G2 Ho2 hle2 hp=>?_;obtain ⟨sp2,bp2,rfl,hpA2,hpB2,rfl⟩:=hp;replace hpa:=hpa.up hle2;replace hxc:=hxc.up hle2;replace hxo:=hxo.up hle2;replace hyc:=hyc.up hle2;replace hyo:=hyo.up hle2;replace hzc:=hzc.up hle2;replace hzo:=hzo.up hle2;refine aZ 5 [] ?_;refine Wc.lg (ι:=Nat×A3) (fun (i,Gx)=>([(27,.int .i64 (i:Int)),(26,.int .i64 3),(25,.slice sp2 (List.length [PF.mk (PH.mk xp.ins xp.regs xac xp.code.length xcc xao xp.outs.length xoc) 107 bp2,PF.mk (PH.mk yp.ins yp.regs yac yp.code.length ycc yao yp.outs.length yoc) 109 bp2,PF.mk (PH.mk zp.ins zp.regs zac zp.code.length zcc zao zp.outs.length zoc) 110 bp2]) 3)],[(0,some b1,.cells #[.int .i64 (↑n1:Int),.int .i64 (↑n2:Int),.slice pa (List.length pl) pc,.int .i64 xp.ins,.int .i64 xp.regs,.slice xac xp.code.length xcc,.slice xao xp.outs.length xoc,.int .i64 yp.ins,.int .i64 yp.regs,.slice yac yp.code.length ycc,.slice yao yp.outs.length yoc,.int .i64 zp.ins,.int .i64 zp.regs,.slice zac zp.code.length zcc,.slice zao zp.outs.length zoc] 28)])) (fun (i,Gx)=>Gx) (fun (i,Gx)=>i≤3∧G2.le Gx∧(0<i→sY xp=true∧vK xp (n1:Int) pl)∧(1<i→sY yp=true∧vK yp (n2:Int) pl)∧(2<i→sY zp=true∧uP zp pl)) (fun (i,Gx)=>3 - i) ((0,G2)) (⟨aN _,bN _,fun h=>absurd h sW,fun h=>absurd h sW,fun h=>absurd h sW⟩) fun ⟨i,Gx⟩=>fun hk=>?_;obtain ⟨hi0,hgx,hx9,hy9,hz9⟩:=hk;have hB:=hgx _ _ hpB2;replace hpA2:=hpA2.up hgx;replace hpa:=hpa.up hgx;replace hxc:=hxc.up hgx;replace hxo:=hxo.up hgx;replace hyc:=hyc.up hgx;replace hyo:=hyo.up hgx;replace hzc:=hzc.up hgx;replace hzo:=hzo.up hgx;have hi4:i=0∨i=1∨i=2∨i=3:=sW;rcases hi4 with rfl | rfl | rfl | rfl
 · refine aH 14 [1] ?_;refine aQ (iQ (α:=PF) T.sl96 F9 F9 hpA2 (show 0≤((0:Nat):Int)∧((0:Nat):Int)<((3:Nat):Int) by omega)) ?_;refine aQ (fY T.agg100 F9 (lJ hpA2 (show 0≤((0:Nat):Int)∧((0:Nat):Int)<((3:Nat):Int) by omega)) F9) ?_;refine fR 31 F9 (show _=Value.agg #[.int .i64 xp.ins,.int .i64 xp.regs,.slice xac xp.code.length xcc,.slice xao xp.outs.length xoc,.func (.func 107) #[] #[.pointer (some ⟨bp2,0,none⟩)]] from F9) ?_;by_cases hr:sY xp=true
   · skip;refine aM 1 F9 T.zero100 fun b2=>?_;refine aL 7 [1] ?_;refine aQ (eL 1 T.agg26 F9 F9 F9 F9) ?_;refine cF F9 (Ni _ xp _ _ _ _ sX sX sW sW hr) ?_;refine aL 22 [0,1] ?_;refine aQ (eL 1 T.agg26 F9 F9 F9 F9) ?_;refine fA (fst:=[]) (cap:=[.pointer (some ⟨bp2,0,none⟩)]) 2 F9 T.fn107 F9 F9 (jm _ n1 bp2 _ _ _ xp xac xao pa xcc xoc pc pl hB F9 F9 hxc hxo hpa hpc hpl hx1 sW hRL hr sW sW) (tC H2) fun v9 G9 Ho9 hle9 hp=>?_;obtain ⟨rfl,rfl⟩:=hp;refine aL 12 [] ?_;refine nF 53 ?_;refine aC 3 [] ?_;refine aQ (fS F9) ?_;refine aZ 3 [] ?_;refine dB (fun hc1=>?_) fun hc1=>?_;refine bG 14 [] ?_;rotate_left;refine bG 7 [] ?_;rotate_left
     · refine iB ?_;exact ⟨by rw [TT hW hr sX];rfl,F9⟩
     refine cE 27 F9 (show _=Value.int .i64 ((1:Nat):Int) from F9) ?_;refine cM ((1,G9)) ?_ ?_
     · exact ⟨by omega,aO hgx hle9,fun _=>⟨hr,fT.1 sX⟩,fun h=>absurd h sW,fun h=>absurd h sW⟩
     show 3 - 1<3 - 0;omega
   skip;refine aM 1 F9 T.zero100 fun b2=>?_;refine aL 7 [1] ?_;refine aQ (eL 1 T.agg26 F9 F9 F9 F9) ?_;refine cF F9 (YC _ xp _ _ _ _ sX sX sW sW hr) ?_;refine aS 31 [1] ?_;refine iB ?_;exact ⟨by rw [TS hW sX];rfl,F9⟩
 · refine aH 14 [1] ?_;refine aQ (iQ (α:=PF) T.sl96 F9 F9 hpA2 (show 0≤((1:Nat):Int)∧((1:Nat):Int)<((3:Nat):Int) by omega)) ?_;refine aQ (fY T.agg100 F9 (lJ hpA2 (show 0≤((1:Nat):Int)∧((1:Nat):Int)<((3:Nat):Int) by omega)) F9) ?_;refine fR 31 F9 (show _=Value.agg #[.int .i64 yp.ins,.int .i64 yp.regs,.slice yac yp.code.length ycc,.slice yao yp.outs.length yoc,.func (.func 109) #[] #[.pointer (some ⟨bp2,0,none⟩)]] from F9) ?_;by_cases hr:sY yp=true
   · skip;refine aM 1 F9 T.zero100 fun b2=>?_;refine aL 7 [1] ?_;refine aQ (eL 1 T.agg26 F9 F9 F9 F9) ?_;refine cF F9 (Ni _ yp _ _ _ _ sX sX sW sW hr) ?_;refine aL 22 [0,1] ?_;refine aQ (eL 1 T.agg26 F9 F9 F9 F9) ?_;refine fA (fst:=[]) (cap:=[.pointer (some ⟨bp2,0,none⟩)]) 2 F9 T.fn109 F9 F9 (jn _ n2 bp2 _ _ _ yp yac yao pa ycc yoc pc pl hB F9 F9 hyc hyo hpa hpc hpl hy1 sW hRL hr sW sW) (tC H2) fun v9 G9 Ho9 hle9 hp=>?_;obtain ⟨rfl,rfl⟩:=hp;refine aL 12 [] ?_;refine nF 53 ?_;refine aC 3 [] ?_;refine aQ (fS F9) ?_;refine aZ 3 [] ?_;refine dB (fun hc1=>?_) fun hc1=>?_;refine bG 14 [] ?_;rotate_left;refine bG 7 [] ?_;rotate_left
     · refine iB ?_;exact ⟨by rw [TV hW (hx9 sW).1 (hx9 sW).2 hr sX];rfl,F9⟩
     refine cE 27 F9 (show _=Value.int .i64 ((2:Nat):Int) from F9) ?_;refine cM ((2,G9)) ?_ ?_
     · exact ⟨by omega,aO hgx hle9,fun _=>hx9 sW,fun _=>⟨hr,fT.1 sX⟩,fun h=>absurd h sW⟩
     show 3 - 2<3 - 1;omega
   skip;refine aM 1 F9 T.zero100 fun b2=>?_;refine aL 7 [1] ?_;refine aQ (eL 1 T.agg26 F9 F9 F9 F9) ?_;refine cF F9 (YC _ yp _ _ _ _ sX sX sW sW hr) ?_;refine aS 31 [1] ?_;refine iB ?_;exact ⟨by rw [TU hW (hx9 sW).1 (hx9 sW).2 sX];rfl,F9⟩
 · refine aH 14 [1] ?_;refine aQ (iQ (α:=PF) T.sl96 F9 F9 hpA2 (show 0≤((2:Nat):Int)∧((2:Nat):Int)<((3:Nat):Int) by omega)) ?_;refine aQ (fY T.agg100 F9 (lJ hpA2 (show 0≤((2:Nat):Int)∧((2:Nat):Int)<((3:Nat):Int) by omega)) F9) ?_;refine fR 31 F9 (show _=Value.agg #[.int .i64 zp.ins,.int .i64 zp.regs,.slice zac zp.code.length zcc,.slice zao zp.outs.length zoc,.func (.func 110) #[] #[.pointer (some ⟨bp2,0,none⟩)]] from F9) ?_;by_cases hr:sY zp=true
   · skip;refine aM 1 F9 T.zero100 fun b2=>?_;refine aL 7 [1] ?_;refine aQ (eL 1 T.agg26 F9 F9 F9 F9) ?_;refine cF F9 (Ni _ zp _ _ _ _ sX sX sW sW hr) ?_;refine aL 22 [0,1] ?_;refine aQ (eL 1 T.agg26 F9 F9 F9 F9) ?_;refine fA (fst:=[]) (cap:=[.pointer (some ⟨bp2,0,none⟩)]) 2 F9 T.fn110 F9 F9 (jq _ bp2 _ _ _ zp zac zao pa zcc zoc pc pl hB F9 hzc hzo hpa hpc hpl hz1 sW hRL hr) (tC H2) fun v9 G9 Ho9 hle9 hp=>?_;obtain ⟨rfl,rfl⟩:=hp;refine aL 12 [] ?_;refine nF 53 ?_;refine aC 3 [] ?_;refine aQ (fS F9) ?_;refine aZ 3 [] ?_;refine dB (fun hc1=>?_) fun hc1=>?_;refine bG 14 [] ?_;rotate_left;refine bG 7 [] ?_;rotate_left
     · refine iB ?_;exact ⟨by rw [TX hW (hx9 sW).1 (hx9 sW).2 (hy9 sW).1 (hy9 sW).2 hr sX];rfl,F9⟩
     refine cE 27 F9 (show _=Value.int .i64 ((3:Nat):Int) from F9) ?_;refine cM ((3,G9)) ?_ ?_
     · exact ⟨by omega,aO hgx hle9,fun _=>hx9 sW,fun _=>hy9 sW,fun _=>⟨hr,fT.1 sX⟩⟩
     show 3 - 3<3 - 2;omega
   skip;refine aM 1 F9 T.zero100 fun b2=>?_;refine aL 7 [1] ?_;refine aQ (eL 1 T.agg26 F9 F9 F9 F9) ?_;refine cF F9 (YC _ zp _ _ _ _ sX sX sW sW hr) ?_;refine aS 31 [1] ?_;refine iB ?_;exact ⟨by rw [TW hW (hx9 sW).1 (hx9 sW).2 (hy9 sW).1 (hy9 sW).2 sX];rfl,F9⟩
 refine bG 19 [0] ?_;refine iB ?_;exact ⟨by rw [Jm hW (hx9 sW).1 (hx9 sW).2 (hy9 sW).1 (hy9 sW).2 (hz9 sW).1 (hz9 sW).2],F9⟩
end
theorem Ha {α:Type} [Inhabited α] {l m:List α} {k:Nat} (hl:k<l.length) (hm:k<m.length) (h:l.take k=m.take k) (he:l[((k:Nat):Int).toNat]?.getD default=m[((k:Nat):Int).toNat]?.getD default):l.take (k+1)=m.take (k+1):=by
 rw [aF,aA hl,aA hm] at he;rw [cG,cG,h,aA hl,aA hm];simp only [eH] at he;rw [he]
theorem kc (G:A3) (p q:PV) (ac ao bc bo:Option Addr) (cc co dc do_:Nat) (hc:Arr G ac p.code) (ho:Arr G ao p.outs) (hc':Arr G bc q.code) (ho':Arr G bo q.outs) (h1:p.code.length≤1099511627776) (h2:p.outs.length≤1099511627776) :
 Does Tryz.prog 60 [.agg (I0 p ac cc ao co),.agg #[.int .i64 q.ins,.int .i64 q.regs,.slice bc q.code.length dc,.slice bo q.outs.length do_]] G []
  (fun v G' Ho=>v=.bool (decide (p=q))∧G'=G∧Ho=[]):=by
 refine D0 Tryz.func60 Tryz.ntmps60 fun w=>?_;refine aH 2 [] ?_;refine eC 0 fun b1=>?_;refine eC 1 fun b2=>?_;refine aL 12 [0,1] ?_;apply dZ 6 12 18 F9;intro hg1;refine aC 11 [0,1] ?_;exact dI 6 0;intro hg1;refine aC 6 [] ?_;exact dI 6 0;refine aC 1 [] ?_;apply dZ 8 19 27 F9;intro hg1;refine aC 15 [0,1] ?_;exact dI 8 0;intro hg1;refine aC 8 [] ?_;exact dI 8 0;refine aC 1 [] ?_;apply dZ 8 28 36 F9;intro hg1;refine aC 15 [0,1] ?_;exact dI 8 0;intro hg1;refine aC 8 [] ?_;exact dI 8 0;refine aZ 2 [] ?_;refine dB (fun hc1=>?_) fun hc1=>?_;refine bG 7 [] ?_;refine dA ?_;rotate_left;refine bL 9 [] ?_;rotate_left
 · refine ⟨?_,F9,F9⟩;have:p≠q:=by rintro rfl;omega
   simp [this]
 simp only [not_or,ne_eq,fT] at hc1;obtain ⟨⟨⟨e1,e2⟩,e3⟩,e4⟩:=hc1;refine iA (ι:=Nat) (fun k=>([(5,.int .i64 (k:Int)),(3,.pointer (some ⟨b2,0,none⟩)),(2,.pointer (some ⟨b1,0,none⟩))],[(1,some b2,.cells #[.int .i64 q.ins,.int .i64 q.regs,.slice bc q.code.length dc,.slice bo q.outs.length do_] 26),(0,some b1,.cells (I0 p ac cc ao co) 26)])) (fun k=>k≤p.code.length∧p.code.take k=q.code.take k) (fun k=>p.code.length - k) (0) (⟨aN _,F9⟩) fun k=>fun hk=>?_;obtain ⟨hk1,hk2⟩:=hk;refine bL 10 [0] ?_;refine dB (fun hc1=>?_) fun hc1=>?_;refine bL 5 [] ?_;refine dK [0,1] [] T.mixed [[0],[1,0],[2]] ?_;refine mT (α:=Sl.Instr) 3 T.sl23 ?_;refine rT 4 T.agg91 ?_;refine dP [[5],[6,1],[7]] ?_;refine mT (α:=Sl.Instr) 8 T.sl23 ?_;refine rT 9 T.agg91 ?_;refine eD 10 [] F9 (Ml T.ai91 F9 F9) ?_;refine cT ?_;refine cN ?_;refine dB (fun hc2=>?_) fun hc2=>?_;refine bG 11 [] ?_;refine dA ?_;rotate_left;refine bG 8 [] ?_;rotate_left;refine bL 12 [] ?_;rotate_left
 · refine ⟨?_,F9,F9⟩;have:p≠q:=by rintro rfl;exact hc2 F9
   simp [this]
 · refine cM (k+1) ?_ ?_
   · exact ⟨by omega,Ha sW sW hk2 (fT.1 hc2)⟩
   omega
 have hcode:p.code=q.code:=by
  have:k=p.code.length:=sW;subst this;rw [bD,fM sW] at hk2;exact hk2
 clear hk1 hk2 hc1;refine iA (ι:=Nat) (fun k=>([(6,.int .i64 (k:Int)),(3,.pointer (some ⟨b2,0,none⟩)),(2,.pointer (some ⟨b1,0,none⟩))],[(1,some b2,.cells #[.int .i64 q.ins,.int .i64 q.regs,.slice bc q.code.length dc,.slice bo q.outs.length do_] 26),(0,some b1,.cells (I0 p ac cc ao co) 26)])) (fun k=>k≤p.outs.length∧p.outs.take k=q.outs.take k) (fun k=>p.outs.length - k) (0) (⟨aN _,F9⟩) fun k=>fun hk=>?_;obtain ⟨hk1,hk2⟩:=hk;refine bL 10 [0] ?_;refine dB (fun hc1=>?_) fun hc1=>?_;refine bL 5 [] ?_;refine dK [0,1] [] T.mixed [[0],[1,0],[2]] ?_;refine mT (α:=Int) 3 T.sl24 ?_;refine rJ 4 [0] 0 T.one3 ?_;refine dP [[5],[6,1],[7]] ?_;refine mT (α:=Int) 8 T.sl24 ?_;refine rJ 9 [0] 0 T.one3 ?_;refine dP [[10]] ?_;refine cT ?_;refine cN ?_;refine dB (fun hc2=>?_) fun hc2=>?_;refine bG 11 [] ?_;refine dA ?_;rotate_left;refine bG 8 [] ?_;rotate_left;refine bG 11 [] ?_;refine dA ?_;rotate_left
 · refine ⟨?_,F9,F9⟩;have:p≠q:=by rintro rfl;exact hc2 F9
   simp [this]
 · refine cM (k+1) ?_ ?_
   · exact ⟨by omega,Ha sW sW hk2 (fT.1 hc2)⟩
   omega
 refine ⟨?_,F9,F9⟩;have houts:p.outs=q.outs:=by
  have:k=p.outs.length:=sW;subst this;rw [bD,fM sW] at hk2;exact hk2
 have:p=q:=by cases p;cases q;simp_all
 simp [this]
theorem c15 (G:A3) (k1 k2:Int) (pl:List R2) (pa qa:Option Addr) (pc qc:Nat) (xp yp zp:PV) (xac xao yac yao zac zao uac uao vac vao wac wao:Option Addr) (xcc xoc ycc yoc zcc zoc ucc uoc vcc voc wcc woc:Nat) (hpa:Arr G pa pl) (hqa:Arr G qa pl) (hpl:pl.length≤1048576) (hxc:Arr G xac xp.code) (hxo:Arr G xao xp.outs) (hyc:Arr G yac yp.code) (hyo:Arr G yao yp.outs) (hzc:Arr G zac zp.code) (hzo:Arr G zao zp.outs) (huc:Arr G uac xp.code) (huo:Arr G uao xp.outs) (hvc:Arr G vac yp.code) (hvo:Arr G vao yp.outs) (hwc:Arr G wac zp.code) (hwo:Arr G wao zp.outs) (hx1:xp.code.length≤1048576) (hx2:xp.outs.length≤1048576) (hy1:yp.code.length≤1048576) (hy2:yp.outs.length≤1048576) (hz1:zp.code.length≤1048576) (hz2:zp.outs.length≤1048576) :
 Does Tryz.prog 15 [.agg #[.int .i64 k1,.int .i64 k2,.slice pa pl.length pc,.int .i64 xp.ins,.int .i64 xp.regs,.slice xac xp.code.length xcc,.slice xao xp.outs.length xoc,.int .i64 yp.ins,.int .i64 yp.regs,.slice yac yp.code.length ycc,.slice yao yp.outs.length yoc,.int .i64 zp.ins,.int .i64 zp.regs,.slice zac zp.code.length zcc,.slice zao zp.outs.length zoc],.agg #[.int .i64 k1,.int .i64 k2,.slice qa pl.length qc,.int .i64 xp.ins,.int .i64 xp.regs,.slice uac xp.code.length ucc,.slice uao xp.outs.length uoc,.int .i64 yp.ins,.int .i64 yp.regs,.slice vac yp.code.length vcc,.slice vao yp.outs.length voc,.int .i64 zp.ins,.int .i64 zp.regs,.slice wac zp.code.length wcc,.slice wao zp.outs.length woc]] G []
  (fun v G' Ho=>v=.bool (decide (1=1))∧G'=G∧Ho=[]):=by
 refine D0 Tryz.func15 Tryz.ntmps15 fun w=>?_;refine aH 2 [] ?_;refine eC 0 fun b1=>?_;refine eC 1 fun b2=>?_;refine aL 12 [0,1] ?_;refine nF 11 ?_;refine aC 12 [0,1] ?_;refine nF 18 ?_;refine aZ 27 [0,1,0] ?_;refine iA (ι:=Nat) (fun k=>([(5,.int .i64 (k:Int)),(3,.pointer (some ⟨b2,0,none⟩)),(2,.pointer (some ⟨b1,0,none⟩))],[(1,some b2,.cells #[.int .i64 k1,.int .i64 k2,.slice qa (List.length pl) qc,.int .i64 xp.ins,.int .i64 xp.regs,.slice uac xp.code.length ucc,.slice uao xp.outs.length uoc,.int .i64 yp.ins,.int .i64 yp.regs,.slice vac yp.code.length vcc,.slice vao yp.outs.length voc,.int .i64 zp.ins,.int .i64 zp.regs,.slice wac zp.code.length wcc,.slice wao zp.outs.length woc] 28),(0,some b1,.cells #[.int .i64 k1,.int .i64 k2,.slice pa (List.length pl) pc,.int .i64 xp.ins,.int .i64 xp.regs,.slice xac xp.code.length xcc,.slice xao xp.outs.length xoc,.int .i64 yp.ins,.int .i64 yp.regs,.slice yac yp.code.length ycc,.slice yao yp.outs.length yoc,.int .i64 zp.ins,.int .i64 zp.regs,.slice zac zp.code.length zcc,.slice zao zp.outs.length zoc] 28)])) (fun k=>k≤pl.length) (fun k=>pl.length - k) (0) (aN _) fun k=>fun (hk:k≤pl.length)=>?_;refine bL 10 [0] ?_;refine dB (fun hc1=>?_) fun hc1=>?_;refine bL 5 [] ?_;refine dK [0,1] [] T.mixed [[0],[1,0],[2]] ?_;refine mT (α:=R2) 3 T.sl22 ?_;refine rT 4 T.agg52 ?_;refine dP [[5],[6,1],[7]] ?_;refine mT (α:=R2) 8 T.sl22 ?_;refine rT 9 T.agg52 ?_;refine eD 10 [] F9 (Vg [_,_] [_,_] T.ai52 F9 F9 F9 F9) ?_;refine cT ?_;refine cN ?_;refine dB (fun hc2=>?_) fun hc2=>?_;refine bG 11 [] ?_;refine dA ?_;rotate_left;refine bG 8 [] ?_;rotate_left;refine aH 8 [] ?_;refine aQ (eL 0 T.agg26 F9 F9 F9 F9) ?_;refine aC 1 [] ?_;refine aQ (eL 1 T.agg26 F9 F9 F9 F9) ?_;refine cF F9 (kc _ _ _ _ _ _ _ _ _ _ _ sX sX sX sX sW sW) ?_;refine aC 1 [] ?_;apply bW 6 50 56 F9;intro hg1;refine aC 3 [] ?_;refine aQ (eL 0 T.agg26 F9 F9 F9 F9) ?_;refine aC 3 [] ?_;refine aQ (eL 1 T.agg26 F9 F9 F9 F9) ?_;refine aC 1 [] ?_;refine cF F9 (kc _ _ _ _ _ _ _ _ _ _ _ sX sX sX sX sW sW) ?_;refine aC 1 [] ?_;exact dI 6 0;intro hg1;refine aC 6 [] ?_;exact dI 6 0;refine aC 1 [] ?_;apply bW 6 57 63 F9;intro hg1;refine aC 3 [] ?_;refine aQ (eL 0 T.agg26 F9 F9 F9 F9) ?_;refine aC 3 [] ?_;refine aQ (eL 1 T.agg26 F9 F9 F9 F9) ?_;refine aC 1 [] ?_;refine cF F9 (kc _ _ _ _ _ _ _ _ _ _ _ sX sX sX sX sW sW) ?_;refine aC 1 [] ?_;exact dI 6 0;intro hg1;refine aC 6 [] ?_;exact dI 6 0;refine aS 4 [] ?_;refine dA ?_;rotate_left
 · exact absurd F9 sX
 · refine cM (k+1) ?_ ?_
   · omega
   omega
 exact ⟨by simp,rfl,rfl⟩
theorem Tr {B:List U8} {regs:Int}:∀ (n:Nat) (s:RS) (acc:List Sl.Instr),(yL B regs n s acc).1.length≤acc.length+n
 | 0,s,acc=>aI _
 | n+1,s,acc=>by
   rw [yL];cases Pn B s regs with
   | mk i t =>
     dsimp only;split
     · show acc.length≤_;omega
     have:=Tr (B:=B) (regs:=regs) n t (acc++[i]);rw [aB] at this;have e:[i].length=1:=rfl;omega
theorem Ts {B:List U8} {regs:Int}:∀ (n:Nat) (s:RS) (acc:List Int),(Aj B regs n s acc).1.length≤acc.length+n
 | 0,s,acc=>aI _
 | n+1,s,acc=>by
   rw [Aj];cases wi B s 0 (regs - 1) with
   | mk i t =>
     dsimp only;have:=Ts (B:=B) (regs:=regs) n t (acc++[i]);rw [aB] at this;have e:[i].length=1:=rfl;omega
theorem Zz {B:List U8}:∀ (n:Nat) (s:RS) (acc:List R2),(Gg B n s acc).1.length≤acc.length+n
 | 0,s,acc=>aI _
 | n+1,s,acc=>by
   rw [Gg];cases sg B s with
   | mk i t =>
     dsimp only;cases sg B t with
     | mk j u =>
       dsimp only;have:=Zz (B:=B) n u (acc++[⟨i,j⟩]);rw [aB] at this;have e:[(⟨i,j⟩:R2)].length=1:=rfl;omega
def Hn (p:PV):Prop:=p.code.length≤16384∧p.outs.length≤255
theorem Lf {B:List U8} {s:RS} (h:(vP B s).2.wr=false):Hn (vP B s).1:=by
 obtain ⟨ins,t1,e1⟩:∃ x t,wi B s 1 128=(x,t):=⟨_,_,F9⟩
 obtain ⟨regs,t2,e2⟩:∃ x t,wi B t1 ins 128=(x,t):=⟨_,_,F9⟩
 obtain ⟨x,t3,e3⟩:∃ x t,nx B t2 (fun x=>decide (x*256≤16384))=(x,t):=⟨_,_,F9⟩
 obtain ⟨l,t4,e4⟩:∃ y t,nx B t3 (fun y=>decide (x*256+y≤16384))=(y,t):=⟨_,_,F9⟩
 obtain ⟨r,t5,e5⟩:∃ r t,yL B regs (x*256+l).toNat t4 []=(r,t):=⟨_,_,F9⟩
 obtain ⟨n,t6,e6⟩:∃ x t,wi B t5 1 128=(x,t):=⟨_,_,F9⟩
 obtain ⟨q,t7,e7⟩:∃ r t,Aj B regs n.toNat t6 []=(r,t):=⟨_,_,F9⟩
 rw [Zx e1 e2 e3 e4 rfl e5 e6 rfl e7] at h ⊢;replace h:t7.wr=false:=h;have h6:t6.wr=false:=by
  cases hw:t6.wr with
  | false=>rfl
  | true =>
    have e:=Pv (B:=B) (regs:=regs) n.toNat t6 [] hw;rw [e7] at e;replace e:t7=t6:=e;rw [e,hw] at h;cases h
 have h5:=OC e6 h6;have h4:t4.wr=false:=by
  cases hw:t4.wr with
  | false=>rfl
  | true =>
    rw [Zv _ _ _ hw] at e5;have e:=(Prod.mk.inj e5).2;have:=h5.2.2;rw [←e,hw] at this;cases this
 have h3:=FH (B:=B) (s:=t3) (g:=fun y=>decide (x*256+y≤16384)) (by rw [e4];exact h4);have e9:=h3.2.2.2;rw [e4] at e9;have h9:=fQ h3.2.2.1;have hl:=(Prod.mk.inj e9).1;rw [←hl] at h9;have l1:=Tr (B:=B) (regs:=regs) (x*256+l).toNat t4 [];have l2:=Ts (B:=B) (regs:=regs) n.toNat t6 [];rw [e5] at l1;rw [e7] at l2;refine ⟨?_,?_⟩
 · show r.length≤16384;have:r.length≤0+(x*256+l).toNat:=l1;omega
 show q.length≤255;have:q.length≤0+n.toNat:=l2;omega
theorem UF {B:List U8} (h:(wB B).2.wr=false):(wB B).1.pl.length≤255∧Hn (wB B).1.x∧Hn (wB B).1.y∧Hn (wB B).1.z:=by
 obtain ⟨k1,t1,e1⟩:∃ x t,wi B (Tl B 4) 1 8=(x,t):=⟨_,_,F9⟩
 obtain ⟨k2,t2,e2⟩:∃ x t,wi B t1 1 8=(x,t):=⟨_,_,F9⟩
 obtain ⟨n,t3,e3⟩:∃ x t,wi B t2 0 255=(x,t):=⟨_,_,F9⟩
 obtain ⟨pl,t,e4⟩:∃ x u,Gg B n.toNat t3 []=(x,u):=⟨_,_,F9⟩
 obtain ⟨x,t4,e5⟩:∃ x u,vP B t=(x,u):=⟨_,_,F9⟩
 obtain ⟨y,t6,e6⟩:∃ x u,vP B t4=(x,u):=⟨_,_,F9⟩
 obtain ⟨z,t7,e7⟩:∃ x u,vP B t6=(x,u):=⟨_,_,F9⟩
 rw [UE e1 e2 e3 rfl e4 e5 e6 e7] at h ⊢;replace h:(Sd B t7).wr=false:=h;have h7:t7.wr=false:=by
  cases hw:t7.wr with
  | false=>rfl
  | true=>rw [FO hw,hw] at h;cases h
 have h6:=Px (congrArg Prod.snd e7) h7;have h4:=Px (congrArg Prod.snd e6) h6;have h3:=Px (congrArg Prod.snd e5) h4;have hn:t3.wr=false:=by
  cases hw:t3.wr with
  | false=>rfl
  | true =>
    have e:=FL (B:=B) n.toNat t3 [] hw;rw [e4] at e;replace e:t=t3:=e;rw [e,hw] at h3;cases h3
 have hn2:=OC e3 hn;have l1:=Zz (B:=B) n.toNat t3 [];rw [e4] at l1;have px:=Lf (B:=B) (s:=t) (by rw [e5];exact h4);have py:=Lf (B:=B) (s:=t4) (by rw [e6];exact h6);have pz:=Lf (B:=B) (s:=t6) (by rw [e7];exact h7);rw [e5] at px;rw [e6] at py;rw [e7] at pz;refine ⟨?_,px,py,pz⟩;show pl.length≤255;have:pl.length≤0+n.toNat:=l1;omega
def cu:UV:=⟨0,0,[],⟨0,0,[],[]⟩,⟨0,0,[],[]⟩,⟨0,0,[],[]⟩⟩
def Hq (B:List U8):UV×Int×Int:=
 if (wB B).2.wr=true∨(wB B).2.k<B.length then (cu,170,(wB B).2.k)
 else if (tW (wB B).1.k1 (wB B).1.k2 (wB B).1.pl (wB B).1.x (wB B).1.y (wB B).1.z).2≠0 then (cu,(tW (wB B).1.k1 (wB B).1.k2 (wB B).1.pl (wB B).1.x (wB B).1.y (wB B).1.z).2,(tW (wB B).1.k1 (wB B).1.k2 (wB B).1.pl (wB B).1.x (wB B).1.y (wB B).1.z).1)
 else ((wB B).1,0,0)
def D3 (G:A3) (u:UV) (pa:Option Addr) (pc:Nat) (x y z:PH):Prop:=u.pl.length≤pc∧Arr G pa u.pl∧D6 G u.x x∧D6 G u.y y∧D6 G u.z z
theorem D3.up {G G':A3} {u:UV} {pa:Option Addr} {pc:Nat} {x y z:PH} (h:D3 G u pa pc x y z) (hle:G.le G'):D3 G' u pa pc x y z:=⟨h.1,h.2.1.up hle,h.2.2.1.up hle,h.2.2.2.1.up hle,h.2.2.2.2.up hle⟩
theorem D3.no (G:A3):D3 G cu none 0 ⟨0,0,none,0,0,none,0,0⟩ ⟨0,0,none,0,0,none,0,0⟩ ⟨0,0,none,0,0,none,0,0⟩:=
 ⟨aI _,kG _,⟨F9,F9,F9,F9,kG _,kG _⟩,⟨F9,F9,F9,F9,kG _,kG _⟩,F9,F9,F9,F9,kG _,kG _⟩
def UG (B:List U8) (v:Value) (G':A3):Prop:=∃ (pa:Option Addr) (pc:Nat) (x y z:PH),v=.tuple #[FN (Hq B).1.k1 (Hq B).1.k2 pa (Hq B).1.pl.length pc x y z,.agg #[.int .i64 (Hq B).2.1,.int .i64 (Hq B).2.2]]∧D3 G' (Hq B).1 pa pc x y z
def OO (u:UV):Prop:=u.pl.length≤255∧Hn u.x∧Hn u.y∧Hn u.z
theorem kd (G:A3) (u:UV) (pa:Option Addr) (pc:Nat) (x y z:PH) (h:D3 G u pa pc x y z) (hs:OO u) :
 Does Tryz.prog 13 [FN u.k1 u.k2 pa u.pl.length pc x y z] G [] (fun v G' Ho=>v=.tuple #[.int .i64 (tW u.k1 u.k2 u.pl u.x u.y u.z).1,.int .i64 (tW u.k1 u.k2 u.pl u.x u.y u.z).2]∧Ho=[]):=by
 obtain ⟨k1,k2,pl,xp,yp,zp⟩:=u;obtain ⟨hpc,hpa,⟨e1,e2,e3,e4,hxc,hxo⟩,⟨f1,f2,f3,f4,hyc,hyo⟩,g1,g2,g3,g4,hzc,hzo⟩:=h;obtain ⟨h1,⟨h2,h3⟩,⟨h4,h5⟩,h6,h7⟩:=hs;dsimp only at *;obtain ⟨xi,xr,xac,xcn,xcc,xao,xon,xoc⟩:=x;obtain ⟨yi,yr,yac,ycn,ycc,yao,yon,yoc⟩:=y;obtain ⟨zi,zr,zac,zcn,zcc,zao,zon,zoc⟩:=z;dsimp only at *;subst e1 e2 e3 e4 f1 f2 f3 f4 g1 g2 g3 g4;exact ZL G k1 k2 pl pa pc xp yp zp xac xao yac yao zac zao xcc xoc ycc yoc zcc zoc hpa hpc sW hxc hxo h2 sW hyc hyo h4 sW hzc hzo h6 sW
theorem UI {B:List U8} (h:(wB B).2.wr=true∨(wB B).2.k<B.length):Hq B=(cu,170,((wB B).2.k:Int)):=aE h
theorem YJ {B:List U8} {u:UV} {t:RS} (e:wB B=(u,t)) (h1:t.wr=false) (h2:t.k=B.length) (h3:(tW u.k1 u.k2 u.pl u.x u.y u.z).2≠0):Hq B=(cu,(tW u.k1 u.k2 u.pl u.x u.y u.z).2,(tW u.k1 u.k2 u.pl u.x u.y u.z).1):=by
 unfold Hq;rw [e,aD (fun h=>h.elim (fun h=>absurd (h1.symm.trans h) tG) (fun h=>absurd h2 (Nat.ne_of_lt h))),aE h3]
theorem DP {B:List U8} {u:UV} {t:RS} (e:wB B=(u,t)) (h1:t.wr=false) (h2:t.k=B.length) (h3:(tW u.k1 u.k2 u.pl u.x u.y u.z).2=0):Hq B=(u,0,0):=by
 unfold Hq;rw [e,aD (fun h=>h.elim (fun h=>absurd (h1.symm.trans h) tG) (fun h=>absurd h2 (Nat.ne_of_lt h))),aD (not_not_intro h3)]
section
attribute [local irreducible] tW wB
theorem c17 (G:A3) (a:Option Addr) (c:Nat) (B:List U8) (hA:Arr G a B) (hc:B.length≤c) (hB:C5 B) (hl:B.length≤65520) :
 Does Tryz.prog 17 [.slice a B.length c] G [] (fun v G' Ho=>UG B v G'∧Ho=[]):=by
 refine D0 Tryz.func17 Tryz.ntmps17 fun w=>?_;refine aH 2 [] ?_;refine aM 0 F9 T.zero28 fun b1=>?_;refine aM 1 F9 T.zero42 fun b2=>?_;refine aL 5 [] ?_;refine bS 9 F9 (c66 _ a c B hA hc hB hl) fun v1 G1 Ho1 hle1 hp=>?_;obtain ⟨u,t,hd,htk,rfl,⟨hbad,rfl⟩ | ⟨hw,hte,pa,pc,h0,h1,h2,rfl,hpc,hpa,hx,hy,hz⟩⟩:=hp
 · refine aC 3 [] ?_;refine aM 2 F9 T.zero28 fun b3=>?_;refine aM 3 F9 T.zero42 fun b4=>?_;refine aZ 14 [2,3,3,1] ?_;refine fL [0,1,2,3] [(1,3),(0,2)] T.mixed F9 ?_;refine eD 0 [] F9 (bP (cs:=[_,_,_,_,_,_,_,_,_,_,_,_,_,_,_]) T.st28 F9 F9 F9) ?_;refine dP [[1,3]] ?_;refine bE 2 ?_;refine aC 1 [0] ?_;refine cX 3 ?_;refine aC 1 [1] ?_;refine fJ ?_;refine dO 3 [] ?_;refine iC (.inr F9) (Ho:=Hp.only _ []) F9 (.agg 0 F9 F9 T.agg28) (.agg 1 F9 F9 T.agg42) (aU _ _) ?_;refine ⟨?_,F9⟩;unfold UG;rw [UI (by rw [hd];exact hbad),hd];exact ⟨none,0,_,_,_,F9,D3.no _⟩
 have hU:D3 G1 u pa pc h0 h1 h2:=⟨hpc,hpa,hx,hy,hz⟩
 have hsh:OO u:=by have:=UF (B:=B) (by rw [hd];exact hw);rw [hd] at this;exact this
 refine aC 3 [] ?_;refine aM 2 F9 T.zero28 fun b3=>?_;refine aM 3 F9 T.zero42 fun b4=>?_;refine aL 18 [2,3,3,0,2] ?_;refine bS 4 F9 (kd _ u pa pc h0 h1 h2 sX hsh) fun v2 G2 Ho2 hle2 hp=>?_;obtain ⟨rfl,rfl⟩:=hp;replace hpa:=hpa.up hle2;refine aZ 14 [] ?_;refine dB (fun hc1=>?_) fun hc1=>?_;refine aH 2 [] ?_;refine aQ (bP (cs:=[_,_,_,_,_,_,_,_,_,_,_,_,_,_,_]) T.st28 F9 F9 F9) ?_;refine aC 2 [] ?_;refine aQ (bP (cs:=[_,_]) T.st42 F9 F9 F9) ?_;refine aS 6 [0,1] ?_;rotate_left;refine aH 5 [2] ?_;refine aQ (bP (cs:=[_,_]) T.st42 F9 F9 F9) ?_;refine aS 5 [0,1] ?_;rotate_left
 · refine iC (.inr F9) (Ho:=Hp.only _ []) F9 (.agg 0 F9 F9 T.agg28) (.agg 1 F9 F9 T.agg42) (aU _ _) ?_;refine ⟨?_,F9⟩;unfold UG;rw [YJ hd hw hte sX];exact ⟨none,0,_,_,_,F9,D3.no _⟩
 refine iC (.inr F9) (Ho:=Hp.only _ []) F9 (.agg 0 F9 F9 T.agg28) (.agg 1 F9 F9 T.agg42) (aU _ _) ?_;refine ⟨?_,F9⟩;unfold UG;rw [DP hd hw hte (fT.1 sX)];exact ⟨pa,pc,h0,h1,h2,F9,hU.up hle2⟩
end
def wb (x:Int):U8:=⟨IntKind.u8.wrap x⟩
def YK (n:Int):List U8:=[⟨n / 256⟩,⟨n % 256⟩]
def RL (i:Sl.Instr):List U8:=[wb i.op,wb i.to,wb i.a,wb i.b]++YK i.c
def Sf (p:PV):List U8:=[wb p.ins,wb p.regs]++YK p.code.length++p.code.flatMap RL++[wb p.outs.length]++p.outs.map wb
theorem UJ (i:Sl.Instr):(RL i).length=6:=rfl
theorem AA (l:List Sl.Instr):(l.flatMap RL).length=6*l.length:=by
 induction l with
 | nil=>rfl
 | cons i l ih=>rw [hJ,aB,ih,UJ,aY];omega
theorem JJ {l:List Sl.Instr} {i:Nat} (h:i<l.length):(l.take (i+1)).flatMap RL=(l.take i).flatMap RL++RL (l[((i:Nat):Int).toNat]?.getD default):=by
 rw [cG,oS,aF,aA h];show _++([l[i]].flatMap RL)=_;rw [hJ,gC,bB];rfl
theorem Nt {l:List Int} {i:Nat} (h:i<l.length):(l.take (i+1)).map wb=(l.take i).map wb++[wb (l[((i:Nat):Int).toNat]?.getD default)]:=by
 rw [cG,iG,aF,aA h];rfl
theorem ke (G:A3) (p:PV) (ac ao:Option Addr) (cc co:Nat) (hc:Arr G ac p.code) (ho:Arr G ao p.outs) (h1:p.code.length≤16384) (h2:p.outs.length≤1048576) (hi:∀ i∈p.code,0≤i.c∧i.c≤65520) :
 Does Tryz.prog 68 [.agg (I0 p ac cc ao co)] G [] (fun v G' Ho=>∃ a c,v=.slice a (Sf p).length c∧Arr G' a (Sf p)∧Ho=[]):=by
 have hn64:0≤(p.code.length:Int)∧(p.code.length:Int)≤65520:=sW;refine gM Tryz.func68 F9 Tryz.ntmps68 F9 fun w=>?_;refine aH 2 [] ?_;refine oJ 0 F9 F9 F9 fun b1=>?_;refine aL 7 [0] ?_;refine bX F9 (cR F9 T.u5 F9) ?_;refine aC 2 [0] ?_;refine bX F9 (cR F9 T.u5 F9) ?_;refine cC (α:=U8) 1 [wb p.ins,wb p.regs] F9 T.sl38 T.el5 F9 F9 F9 F9 F9 fun b2=>?_;have ho0:A4 (some ⟨b2,0,none⟩) 2 [wb p.ins,wb p.regs] []:=fP Dv;refine aL 9 [0] ?_;refine bS 2 F9 (jz _ _ (by first | exact hn64 | exact hn65)) fun v1 G1 Ho1 hle1 hp=>?_;obtain ⟨ta1,tC1,htC1,htl1,rfl,htA1,rfl⟩:=hp;replace hc:=hc.up hle1;replace ho:=ho.up hle1;refine cP (α:=U8) 1 F9 T.sl38 T.el5 F9 F9 F9 vU (lQ sX) tT tT fun a1 c1 junk1 ho1=>?_;refine aZ 10 [] ?_;subst htC1;refine kE (ι:=Nat×A3×List U8×(Option Addr×Nat×List Value)) (fun (i,Gx,r,(o,d,j))=>([(4,.int .i64 (i:Int)),(3,.slice o r.length d),(2,Go.Value.slice Option.none 0 0),(1,Go.Value.pointer (Option.some (Go.Addr.mk b1 0 Option.none)))],[(1,o.map (·.block),Row 5 r j),(0,Option.some b1,Go.Obj.cells #[Go.Value.int Go.IntKind.i64 p.ins,Go.Value.int Go.IntKind.i64 p.regs,Go.Value.slice ac p.code.length cc,Go.Value.slice ao p.outs.length co] 26)])) (fun (i,Gx,r,(o,d,j))=>Gx) (fun (i,Gx,r,(o,d,j))=>i≤p.code.length∧G1.le Gx∧r=[wb p.ins,wb p.regs]++YK p.code.length++(p.code.take i).flatMap RL∧A4 o d r j) (fun (i,Gx,r,(o,d,j))=>p.code.length - i) ((0,G1,[wb p.ins,wb p.regs]++YK p.code.length,(a1,c1,junk1))) (⟨aN _,bN _,by rw [bQ,gC,bB],ho1⟩) F9 ⟨F9,F9,F9,F9,H2⟩ ⟨F9,F9,H2⟩ fun ⟨i,Gx,r,(o,d,j)⟩=>fun hk=>?_;obtain ⟨hi0,hgx,hr,hob⟩:=hk;replace hc:=hc.up hgx;replace ho:=ho.up hgx;have hrl:r.length=4+6*i:=by
  rw [hr,aB,AA,bH,cY hi0];rfl
 rcases aK i p.code.length with hil | hil
 · have hn65:0≤(p.code[(i:Int).toNat]?.getD default).c∧(p.code[(i:Int).toNat]?.getD default).c≤65520:=by
    rw [aF,aA hil];exact hi _ (bZ hil)
   refine aH 20 [0,1,0] ?_;refine bX F9 (iQ (α:=Sl.Instr) T.sl23 F9 F9 sX sW) ?_;refine bX F9 (fY T.agg91 F9 (lJ sX sW) F9) ?_;refine aM 2 F9 T.zero91 fun b3=>?_;refine aL 8 [2,2] ?_;refine bX F9 (cR F9 T.u5 F9) ?_;refine aC 2 [2] ?_;refine bX F9 (cR F9 T.u5 F9) ?_;refine aC 2 [2] ?_;refine bX F9 (cR F9 T.u5 F9) ?_;refine aC 2 [2] ?_;refine bX F9 (cR F9 T.u5 F9) ?_;refine cC (α:=U8) 3 [wb (p.code[(i:Int).toNat]?.getD default).op,wb (p.code[(i:Int).toNat]?.getD default).to,wb (p.code[(i:Int).toNat]?.getD default).a,wb (p.code[(i:Int).toNat]?.getD default).b] F9 T.sl38 T.el5 F9 F9 F9 F9 F9 fun b4=>?_;refine cP (α:=U8) 1 F9 T.sl38 T.el5 F9 F9 F9 vU (cQ 3 F9) tT tT fun a2 c2 junk2 ho2=>?_;refine aL 7 [2] ?_;refine bS 4 F9 (jz _ _ (by first | exact hn64 | exact hn65)) fun v2 G2 Ho2 hle2 hp=>?_;obtain ⟨ta2,tC2,htC2,htl2,rfl,htA2,rfl⟩:=hp;replace hc:=hc.up hle2;replace ho:=ho.up hle2;refine cP (α:=U8) 1 F9 T.sl38 T.el5 F9 F9 F9 vU (lQ sX) tT tT fun a3 c3 junk3 ho3=>?_;refine aS 9 [] ?_;refine eX ((i+1,G2,r++[wb (p.code[(i:Int).toNat]?.getD default).op,wb (p.code[(i:Int).toNat]?.getD default).to,wb (p.code[(i:Int).toNat]?.getD default).a,wb (p.code[(i:Int).toNat]?.getD default).b]++tC2,(a3,c3,junk3))) ?_ ?_ F9 ⟨F9,F9,F9,F9,H2⟩ ⟨F9,F9,H2⟩
   · exact ⟨by omega,aO hgx hle2,by rw [htC2,hr,JJ hil];simp only [aR,RL,YK],ho3⟩
   show p.code.length - (i+1)<p.code.length - i;omega
 have hii:i=p.code.length:=sW;subst hii;rw [bD] at hr;refine aH 22 [0,0,0] ?_;refine bX F9 (cR F9 T.u5 F9) ?_;refine cC (α:=U8) 2 [wb p.outs.length] F9 T.sl38 T.el5 F9 F9 F9 F9 F9 fun b3=>?_;refine cP (α:=U8) 1 F9 T.sl38 T.el5 F9 F9 F9 vU (cQ 2 F9) tT tT fun a2 c2 junk2 ho2=>?_;refine aZ 10 [] ?_;refine kE (ι:=Nat×A3×List U8×(Option Addr×Nat×List Value)) (fun (i,Gy,r2,(o,d,j))=>([(6,.int .i64 (i:Int)),(3,.slice o r2.length d),(2,Go.Value.slice Option.none 0 0),(1,Go.Value.pointer (Option.some (Go.Addr.mk b1 0 Option.none)))],[(1,o.map (·.block),Row 5 r2 j),(2,Option.some b3,Go.Sl.Row (α:=Go.Proofs.YtkdelpdbjfpgmaaGreatDoor.U8) 5 ([Go.Proofs.YtkdelpdbjfpgmaaGreatDoor.wb (↑p.outs.length:Int)]) ([])),(0,Option.some b1,Go.Obj.cells #[Go.Value.int Go.IntKind.i64 p.ins,Go.Value.int Go.IntKind.i64 p.regs,Go.Value.slice ac p.code.length cc,Go.Value.slice ao p.outs.length co] 26)])) (fun (i,Gy,r2,(o,d,j))=>Gy) (fun (i,Gy,r2,(o,d,j))=>i≤p.outs.length∧Gx.le Gy∧r2=r++[wb p.outs.length]++(p.outs.take i).map wb∧A4 o d r2 j) (fun (i,Gy,r2,(o,d,j))=>p.outs.length - i) ((0,Gx,r++[wb p.outs.length],(a2,c2,junk2))) (⟨aN _,bN _,by rw [bQ,mQ,bB],ho2⟩) F9 ⟨F9,F9,F9,F9,H2⟩ ⟨F9,F9,F9,H2⟩ fun ⟨i,Gy,r2,(o,d,j)⟩=>fun hk=>?_;obtain ⟨hi0,hgy,hr2,hob⟩:=hk;replace ho:=ho.up hgy;have hrl2:r2.length=r.length+1+i:=by
  rw [hr2,aB,aB,aP,bH,cY hi0];rfl
 rcases aK i p.outs.length with hil | hil
 · refine aH 20 [0,1,0] ?_;refine bX F9 (iQ (α:=Int) T.sl24 F9 F9 sX sW) ?_;refine bX F9 (bV T.one3 F9 (gI sX sW 0 F9 F9)) ?_;refine bX F9 (cR F9 T.u5 F9) ?_;refine cC (α:=U8) 3 [wb (p.outs[(i:Int).toNat]?.getD default)] F9 T.sl38 T.el5 F9 F9 F9 F9 F9 fun b3=>?_;refine cP (α:=U8) 1 F9 T.sl38 T.el5 F9 F9 F9 vU (cQ 3 F9) tT tT fun a3 c3 junk3 ho3=>?_;refine aS 9 [] ?_;refine eX ((i+1,Gy,r2++[wb (p.outs[(i:Int).toNat]?.getD default)],(a3,c3,junk3))) ?_ ?_ F9 ⟨F9,F9,F9,F9,H2⟩ ⟨F9,F9,F9,H2⟩
   · exact ⟨by omega,hgy,by rw [hr2,Nt hil,aR _ _ [_]],ho3⟩
   show p.outs.length - (i+1)<p.outs.length - i;omega
 have hii:i=p.outs.length:=sW;subst hii;rw [bD] at hr2;refine bG 23 [0,0] ?_;refine dD 1 F9 hob fun G9 hle9 hA=>?_;refine cK (.inr F9) (Ho:=[]) F9 (.tmp F9) H2 ?_;have e:r2=Sf p:=by rw [hr2,hr];rfl
 rw [←e];exact ⟨_,_,F9,hA,F9⟩
def UK (l:List Int) (n:Nat):List R2:=(List.range n).map fun j=>⟨l[2*j]?.getD 0,l[2*j+1]?.getD 0⟩
theorem UL (l:List Int) (n:Nat):(UK l n).length=n:=by unfold UK;rw [aP,cB]
theorem OP (l:List Int) (n:Nat):UK l (n+1)=UK l n++[⟨l[2*n]?.getD 0,l[2*n+1]?.getD 0⟩]:=by
 unfold UK;rw [oM,iG];rfl
theorem c21 (G:A3) (a:Option Addr) (c:Nat) (l:List Int) (n:Nat) (ha:Arr G a l) (hn:l.length=2*n) (h1:n≤100) :
 Does Tryz.prog 21 [.slice a l.length c] G [] (fun v G' Ho=>∃ b d,v=.slice b (UK l n).length d∧Arr G' b (UK l n)∧(UK l n).length≤d∧Ho=[]):=by
 refine gM Tryz.func21 F9 Tryz.ntmps21 F9 fun w=>?_;refine eF 9 (Row 52 ([]:List R2) []) ?_;refine bL 17 [] ?_;refine fX (ι:=Nat×List R2×(Option Addr×Nat×List Value)) (fun (i,r,(o,d,j))=>([(4,.int .i64 ((2*i:Nat):Int)),(3,.slice o r.length d),(2,Go.Value.slice Option.none 0 0),(0,Go.Value.slice a (List.length l) c)],[(9,o.map (·.block),Row 52 r j)])) (fun (i,r,(o,d,j))=>i≤n∧r=UK l i∧A4 o d r j) (fun (i,r,(o,d,j))=>n - i) ((0,[],(none,0,[]))) (⟨aN _,F9,eG⟩) ⟨F9,F9,F9,F9,H2⟩ ⟨F9,H2⟩ fun ⟨i,r,(o,d,j)⟩=>fun hk=>?_;obtain ⟨hi,hr,hob⟩:=hk;have hrl:r.length=i:=by rw [hr,UL]
 rcases aK i n with hin | hin
 · refine bL 15 [1] ?_;refine fL [9] [(9,12)] T.mixed F9 ?_;refine eK 0 [] [] ?_;refine eK 1 [] [] ?_;refine eK 2 [] [] ?_;refine eD 3 [] F9 (iQ (α:=Int) T.sl24 F9 F9 sX sW) ?_;refine eD 4 [] F9 (bV T.one3 F9 (gI sX sW 0 F9 F9)) ?_;refine eK 5 [] [] ?_;refine eK 6 [] [] ?_;refine eK 7 [] [] ?_;refine eD 8 [] F9 (iQ (α:=Int) T.sl24 F9 F9 sX sW) ?_;refine eD 9 [] F9 (bV T.one3 F9 (gI sX sW 0 F9 F9)) ?_;refine eD 10 [] F9 (bP (cs:=[_,_]) T.st52 F9 F9 F9) ?_;refine bE 11 ?_;refine cC (α:=R2) 10 [⟨Option.getD l[Int.toNat (↑(2*i):Int)]? Inhabited.default,Option.getD l[Int.toNat ((↑(2*i):Int)+1)]? Inhabited.default⟩] F9 T.sl22 T.el52 F9 F9 F9 F9 F9 fun b1=>?_;refine aT ?_;refine bE 12 ?_;refine cP (α:=R2) 9 F9 T.sl22 T.el52 F9 F9 F9 vU (cQ 10 F9) tT tT fun a1 c1 junk1 ho1=>?_;refine aT ?_;refine eK 13 [] [] ?_;refine iF sZ H2 wF ?_;refine dO 7 [] ?_;refine cE 4 F9 (show _=Value.int .i64 ((2*(i+1):Nat):Int) by congr 1) ?_;refine eX ((i+1,r++[⟨l[((2*i:Nat):Int).toNat]?.getD default,l[(((2*i:Nat):Int)+1).toNat]?.getD default⟩],(a1,c1,junk1))) ?_ ?_ F9 ⟨F9,F9,F9,F9,H2⟩ ⟨F9,H2⟩
   · exact ⟨by omega,by rw [hr,OP,aF,show (((2*i:Nat):Int)+1).toNat=2*i+1 by omega];rfl,ho1⟩
   show n - (i+1)<n - i;omega
 have hii:i=n:=sW;subst hii;refine bG 23 [0] ?_;refine dD 9 F9 hob fun G9 hle9 hA=>?_;refine cK (.inr F9) (Ho:=[]) F9 (.tmp F9) H2 ?_;rw [←hr];exact ⟨_,_,F9,hA,hob.le,F9⟩
def WN (q:R2):List U8:=[wb ((q.a+256) % 256),wb ((q.b+256) % 256)]
def kf (u:UV):List U8:=[⟨65⟩,⟨78⟩,⟨86⟩,⟨49⟩,wb u.k1,wb u.k2,wb u.pl.length]++u.pl.flatMap WN++Sf u.x++Sf u.y++Sf u.z
def JK (u:UV):List U8:=kf u++YK (xC (kf u) (kf u).length)
def E3 (B:List U8):Prop:=∀ b∈B,0≤b.v∧b.v≤255
theorem E3.bytes {B:List U8} (h:E3 B):C5 B:=fun i hi=>by
 rw [aA hi];exact h _ (bZ hi)
theorem E3.app {A B:List U8} (h:E3 A) (k:E3 B):E3 (A++B):=fun b hb=>by
 rcases gW.1 hb with g | g
 · exact h b g
 exact k b g
theorem E3.nil:E3 []:=fun b hb=>by cases hb
theorem E3.cons {b:U8} {B:List U8} (h:0≤b.v∧b.v≤255) (k:E3 B):E3 (b :: B):=fun c hc=>by
 rcases iU.1 hc with rfl | g
 · exact h
 exact k c g
theorem xD (x:Int):0≤(wb x).v∧(wb x).v≤255:=by
 show 0≤IntKind.u8.wrap x∧IntKind.u8.wrap x≤255;rw [fe];omega
theorem FQ {n:Int} (h:0≤n∧n≤65535):E3 (YK n):=.cons (by show 0≤n / 256∧n / 256≤255;omega) (.cons (by show 0≤n % 256∧n % 256≤255;omega) .nil)
theorem OQ {l:List Sl.Instr} (h:∀ i∈l,0≤i.c∧i.c≤65520):E3 (l.flatMap RL):=fun b hb=>by
 obtain ⟨i,hi,hb⟩:=qE.1 hb;have:=h i hi;exact (E3.app (.cons (xD _) (.cons (xD _) (.cons (xD _) (.cons (xD _) .nil)))) (FQ sW)) b hb
theorem FR (l:List Int):E3 (l.map wb):=fun b hb=>by
 obtain ⟨i,_,rfl⟩:=dY.1 hb;exact xD i
theorem Wb {p:PV} (h1:p.code.length≤16384) (h:∀ i∈p.code,0≤i.c∧i.c≤65520):E3 (Sf p):=
 ((((E3.cons (xD _) (.cons (xD _) .nil)).app (FQ sW)).app (OQ h)).app (.cons (xD _) .nil)).app (FR _)
theorem Wd (p:PV):(Sf p).length=5+6*p.code.length+p.outs.length:=by
 unfold Sf;rw [aB,aB,aB,aB,AA,aP];show 2+2+6*p.code.length+1+p.outs.length=_;omega
theorem OR (l:List R2):(l.flatMap WN).length=2*l.length:=by
 induction l with
 | nil=>rfl
 | cons i l ih=>rw [hJ,aB,ih,aY];show 2+2*l.length=_;omega
theorem OS (l:List R2):E3 (l.flatMap WN):=fun b hb=>by
 obtain ⟨i,hi,hb⟩:=qE.1 hb;exact (E3.cons (xD _) (.cons (xD _) .nil)) b hb
theorem OT {l:List R2} {i:Nat} (h:i<l.length):(l.take (i+1)).flatMap WN=(l.take i).flatMap WN++WN (l[((i:Nat):Int).toNat]?.getD default):=by
 rw [cG,oS,aF,aA h];show _++([l[i]].flatMap WN)=_;rw [hJ,gC,bB];rfl
def JL (k1 k2 n:Int):List U8:=[⟨65⟩,⟨78⟩,⟨86⟩,⟨49⟩,wb k1,wb k2,wb n]
theorem FS (k1 k2 n:Int):E3 (JL k1 k2 n):=.cons tG (.cons tG (.cons tG (.cons tG (.cons (xD _) (.cons (xD _) (.cons (xD _) .nil))))))
theorem c32 (G:A3) (k1 k2:Int) (l:List R2) (pa:Option Addr) (pc:Nat) (x y z:PV) (xac xao yac yao zac zao:Option Addr) (xcc xoc ycc yoc zcc zoc:Nat) (hl:Arr G pa l) (hl1:l.length≤300) (hin:∀ i:Nat,i<l.length→near (l[i]?.getD default).a (l[i]?.getD default).b) (hxc:Arr G xac x.code) (hxo:Arr G xao x.outs) (hx1:x.code.length≤16384) (hx2:x.outs.length≤16384) (hxi:∀ i∈x.code,0≤i.c∧i.c≤65520) (hyc:Arr G yac y.code) (hyo:Arr G yao y.outs) (hy1:y.code.length≤16384) (hy2:y.outs.length≤16384) (hyi:∀ i∈y.code,0≤i.c∧i.c≤65520) (hzc:Arr G zac z.code) (hzo:Arr G zao z.outs) (hz1:z.code.length≤16384) (hz2:z.outs.length≤16384) (hzi:∀ i∈z.code,0≤i.c∧i.c≤65520) :
 Does Tryz.prog 32 [.agg #[.int .i64 k1,.int .i64 k2,.slice pa l.length pc,.int .i64 x.ins,.int .i64 x.regs,.slice xac x.code.length xcc,.slice xao x.outs.length xoc,.int .i64 y.ins,.int .i64 y.regs,.slice yac y.code.length ycc,.slice yao y.outs.length yoc,.int .i64 z.ins,.int .i64 z.regs,.slice zac z.code.length zcc,.slice zao z.outs.length zoc]] G [] (fun v G' Ho=>∃ a c,v=.slice a (JK ⟨k1,k2,l,x,y,z⟩).length c∧Arr G' a (JK ⟨k1,k2,l,x,y,z⟩)∧(JK ⟨k1,k2,l,x,y,z⟩).length≤c∧Ho=[]):=by
 refine gM Tryz.func32 F9 Tryz.ntmps32 F9 fun w=>?_;refine aH 2 [] ?_;refine oJ 0 F9 F9 F9 fun b1=>?_;refine aL 7 [0] ?_;refine bX F9 (cR F9 T.u5 F9) ?_;refine aC 2 [0] ?_;refine bX F9 (cR F9 T.u5 F9) ?_;refine aC 3 [0] ?_;refine bX F9 (cR F9 T.u5 F9) ?_;refine cC (α:=U8) 1 (JL k1 k2 l.length) F9 T.sl38 T.el5 F9 F9 F9 F9 F9 fun b2=>?_;have ho0:A4 (some ⟨b2,0,none⟩) 7 (JL k1 k2 l.length) []:=fP (by simp [maxLen,JL]);refine aZ 10 [] ?_;refine fX (ι:=Nat×List U8×(Option Addr×Nat×List Value)) (fun (i,r,(o,d,j))=>([(4,.int .i64 (i:Int)),(3,.slice o r.length d),(2,Go.Value.slice Option.none 0 0),(1,Go.Value.pointer (Option.some (Go.Addr.mk b1 0 Option.none)))],[(1,o.map (·.block),Row 5 r j),(0,Option.some b1,Go.Obj.cells #[Go.Value.int Go.IntKind.i64 k1,Go.Value.int Go.IntKind.i64 k2,Go.Value.slice pa (List.length l) pc,Go.Value.int Go.IntKind.i64 x.ins,Go.Value.int Go.IntKind.i64 x.regs,Go.Value.slice xac x.code.length xcc,Go.Value.slice xao x.outs.length xoc,Go.Value.int Go.IntKind.i64 y.ins,Go.Value.int Go.IntKind.i64 y.regs,Go.Value.slice yac y.code.length ycc,Go.Value.slice yao y.outs.length yoc,Go.Value.int Go.IntKind.i64 z.ins,Go.Value.int Go.IntKind.i64 z.regs,Go.Value.slice zac z.code.length zcc,Go.Value.slice zao z.outs.length zoc] 28)])) (fun (i,r,(o,d,j))=>i≤l.length∧r=JL k1 k2 l.length++(l.take i).flatMap WN∧A4 o d r j) (fun (i,r,(o,d,j))=>l.length - i) ((0,JL k1 k2 l.length,(some ⟨b2,0,none⟩,7,[]))) (⟨aN _,by rw [bQ,gC,bB],ho0⟩) ⟨F9,F9,F9,F9,H2⟩ ⟨F9,F9,H2⟩ fun ⟨i,r,(o,d,j)⟩=>fun hk=>?_;obtain ⟨hi0,hr,hob⟩:=hk;have hrl:r.length=7+2*i:=by
  rw [hr,aB,OR,bH,cY hi0];rfl
 rcases aK i l.length with hil | hil
 · have hq:=hin i hil;unfold near at hq;have hq9:-16≤(l[(i:Int).toNat]?.getD default).a∧-16≤(l[(i:Int).toNat]?.getD default).b∧(l[(i:Int).toNat]?.getD default).a≤16∧(l[(i:Int).toNat]?.getD default).b≤16:=by
    rw [aF];omega
   refine bL 15 [0,1] ?_;refine fL [0,1] [(1,20)] T.mixed F9 ?_;refine eK 0 [] [] ?_;refine eK 1 [] [] ?_;refine eK 2 [0] [0] ?_;refine eK 3 [] [] ?_;refine eD 4 [] F9 (iQ (α:=R2) T.sl22 F9 F9 sX sW) ?_;refine eK 5 [] [] ?_;refine eD 6 [0] F9 (bV T.one3 F9 (gI sX sW 0 F9 F9)) ?_;refine eK 7 [] [] ?_;refine eD 8 [] F9 (nI F9 F9 sW) ?_;refine eD 9 [] F9 (cR F9 T.u5 F9) ?_;refine eK 10 [] [] ?_;refine eK 11 [0] [0] ?_;refine eK 12 [] [] ?_;refine eD 13 [] F9 (iQ (α:=R2) T.sl22 F9 F9 sX sW) ?_;refine eK 14 [] [] ?_;refine eD 15 [] F9 (bV T.one3 F9 (gI sX sW 1 F9 F9)) ?_;refine eK 16 [] [] ?_;refine eD 17 [] F9 (nI F9 F9 sW) ?_;refine eD 18 [] F9 (cR F9 T.u5 F9) ?_;refine bE 19 ?_;refine cC (α:=U8) 2 [wb (((l[(i:Int).toNat]?.getD default).a+256) % 256),wb (((l[(i:Int).toNat]?.getD default).b+256) % 256)] F9 T.sl38 T.el5 F9 F9 F9 F9 F9 fun b3=>?_;refine aT ?_;refine bE 20 ?_;refine cP (α:=U8) 1 F9 T.sl38 T.el5 F9 F9 F9 vU (cQ 2 F9) tT tT fun a1 c1 junk1 ho1=>?_;refine aT ?_;refine eK 21 [] [] ?_;refine cT ?_;refine dO 7 [] ?_;refine eX ((i+1,r++[wb (((l[(i:Int).toNat]?.getD default).a+256) % 256),wb (((l[(i:Int).toNat]?.getD default).b+256) % 256)],(a1,c1,junk1))) ?_ ?_ F9 ⟨F9,F9,F9,F9,H2⟩ ⟨F9,F9,H2⟩
   · exact ⟨by omega,by rw [hr,OT hil,aR];rfl,ho1⟩
   show l.length - (i+1)<l.length - i;omega
 have hii:i=l.length:=sW;subst hii;rw [bD] at hr;have hry:E3 r:=by rw [hr];exact (FS _ _ _).app (OS l)
 refine aH 20 [0,0] ?_;refine bX F9 (eL 0 T.agg26 F9 F9 F9 F9) ?_;refine bS 9 F9 (ke _ x xac xao xcc xoc hxc hxo hx1 sW hxi) fun v1 G1 Ho1 hle1 hp=>?_;obtain ⟨s1,d1,rfl,hs1,rfl⟩:=hp;have hn1:=Wd x;replace hyc:=hyc.up hle1;replace hyo:=hyo.up hle1;replace hzc:=hzc.up hle1;replace hzo:=hzo.up hle1;refine cP (α:=U8) 1 F9 T.sl38 T.el5 F9 F9 F9 vU (lQ sX) tT tT fun a1 c1 junk1 ho1=>?_;refine aL 7 [] ?_;refine bX F9 (eL 0 T.agg26 F9 F9 F9 F9) ?_;refine bS 9 F9 (ke _ y yac yao ycc yoc hyc hyo hy1 sW hyi) fun v2 G2 Ho2 hle2 hp=>?_;obtain ⟨s2,d2,rfl,hs2,rfl⟩:=hp;have hn2:=Wd y;replace hzc:=hzc.up hle2;replace hzo:=hzo.up hle2;refine cP (α:=U8) 1 F9 T.sl38 T.el5 F9 F9 F9 vU (lQ sX) tT tT fun a2 c2 junk2 ho2=>?_;refine aL 7 [] ?_;refine bX F9 (eL 0 T.agg26 F9 F9 F9 F9) ?_;refine bS 9 F9 (ke _ z zac zao zcc zoc hzc hzo hz1 sW hzi) fun v3 G3 Ho3 hle3 hp=>?_;obtain ⟨s3,d3,rfl,hs3,rfl⟩:=hp;have hn3:=Wd z;have hBy:C5 (r++Sf x++Sf y++Sf z):=(((hry.app (Wb hx1 hxi)).app (Wb hy1 hyi)).app (Wb hz1 hzi)).bytes;have hln:(r++Sf x++Sf y++Sf z).length≤1048576:=by
  rw [aB,aB,aB];omega
 refine cP (α:=U8) 1 F9 T.sl38 T.el5 F9 F9 F9 vU (lQ sX) tT tT fun a3 c3 junk3 ho3=>?_;refine aL 7 [] ?_;refine Ot 2 F9 T.fn65 F9 (fun Gx hGx hgx=>(c65 _ _ _ (r++Sf x++Sf y++Sf z) (by first | exact Arr.up sX hGx | exact kG _ | exact rQ hgx 1 rfl KV) hBy hln)) fun v1 Gx1 G1 Ho1 hlx1 hp=>?_;obtain ⟨rfl,rfl,rfl⟩:=hp;refine bS 2 F9 (jz _ _ ⟨(Et _).1,(Et _).2⟩) fun v4 G4 Ho4 hle4 hp=>?_;obtain ⟨ta4,tC4,htC4,htl4,rfl,htA4,rfl⟩:=hp;replace hs3:=hs3.up hle4;refine cP (α:=U8) 1 F9 T.sl38 T.el5 F9 F9 F9 vU (lQ sX) tT tT fun a4 c4 junk4 ho4=>?_;refine aS 4 [] ?_;refine dD 1 F9 ho4 fun G9 hle9 hA=>?_;refine cK (.inr F9) (Ho:=[]) F9 (.tmp F9) H2 ?_;have e:r++Sf x++Sf y++Sf z++tC4=JK ⟨k1,k2,l,x,y,z⟩:=by rw [htC4,hr];rfl
 rw [←e];exact ⟨_,_,F9,hA,ho4.le,F9⟩
def ev:List Int→Int→Int→Int
 | [],_,_=>0
 | c :: f,a,b=>c*b ^ f.length+a*ev f a b
theorem AB (g a b:Int):∀ f:List Int,ev f (g*a) (g*b)*g=g ^ f.length*ev f a b
 | []=>by simp [ev]
 | c :: f=>by
   have ih:=AB g a b f;show (c*(g*b) ^ f.length+g*a*ev f (g*a) (g*b))*g=g ^ (f.length+1)*(c*b ^ f.length+a*ev f a b);rw [Int.mul_pow,gU,mH,cZ];congr 1
   · ac_rfl
   calc g*a*ev f (g*a) (g*b)*g=g*a*(ev f (g*a) (g*b)*g):=by ac_rfl
    _=g*a*(g ^ f.length*ev f a b):=by rw [ih]
    _=g ^ f.length*g*(a*ev f a b):=by ac_rfl
theorem UM {g:Int} (a b:Int) (c:Int) (f:List Int) (hg:g≠0):ev (c :: f) (g*a) (g*b)=g ^ f.length*ev (c :: f) a b:=by
 have h:=AB g a b (c :: f);refine pF hg ?_;rw [h,aY,gU]
 ac_rfl
def zV (p q:Int):Int→List Int→List Int
 | last,[]=>[-(q*last)]
 | last,c :: f=>(p*c - q*last) :: zV p q c f
theorem Lg (p q:Int):∀ (last:Int) (f:List Int),(zV p q last f).length=f.length+1
 | _,[]=>rfl
 | _,c :: f=>by show (zV p q c f).length+1=f.length+1+1;rw [Lg]
theorem Py (p q a b:Int):∀ (last:Int) (f:List Int),ev (zV p q last f) a b=(p*b - q*a)*ev f a b - q*last*b ^ f.length
 | last,[]=>by
   show -(q*last)*b ^ 0+a*0=(p*b - q*a)*0 - q*last*b ^ 0;rw [bR,bR,fN,gR];omega
 | last,c :: f=>by
   show (p*c - q*last)*b ^ (zV p q c f).length+a*ev (zV p q c f) a b=(p*b - q*a)*(c*b ^ f.length+a*ev f a b) - q*last*b ^ (f.length+1);rw [Lg,Py p q a b c f,gU];generalize b ^ f.length=B;generalize ev f a b=E;have h1:(p*c - q*last)*(B*b)=p*c*(B*b) - q*last*(B*b):=kU ..;have h2:a*((p*b - q*a)*E - q*c*B)=a*((p*b - q*a)*E) - a*(q*c*B):=kV ..;have h3:(p*b - q*a)*(c*B+a*E)=(p*b - q*a)*(c*B)+(p*b - q*a)*(a*E):=cZ ..;have h4:(p*b - q*a)*(c*B)=p*b*(c*B) - q*a*(c*B):=kU ..;have h5:a*((p*b - q*a)*E)=(p*b - q*a)*(a*E):=by ac_rfl
   have h6:p*c*(B*b)=p*b*(c*B):=by ac_rfl
   have h7:a*(q*c*B)=q*a*(c*B):=by ac_rfl
   rw [h1,h2,h3,h4,h5,h6,h7];omega
theorem UN {p q x:Int} (hc:Int.gcd p q=1) (k:Nat) (h:p ∣ x*q ^ k):p ∣ x:=by
 have h1:p.natAbs ∣ x.natAbs*q.natAbs ^ k:=by rw [←pC,←gG];exact Int.natAbs_dvd_natAbs.mpr h
 exact Int.natAbs_dvd_natAbs.mp ((Nat.Coprime.pow_right k (show Nat.Coprime p.natAbs q.natAbs from hc)).dvd_of_dvd_mul_right h1)
theorem FT {p q:Int} (hc:Int.gcd p q=1):∀ (F:List Int) (last:Int) (m:Nat),F.length=m+1→ev F p q=-(q*last)*q ^ m→∃ f:List Int,f.length=m∧F=zV p q last f
 | [],_,_,h,_=>by simp at h
 | [c],last,m,h,he=>by
   have hm:m=0:=by simpa using h.symm
   subst hm;refine ⟨[],F9,?_⟩;have e:c*q ^ 0+p*0=-(q*last)*q ^ 0:=he;rw [lC,gZ,bR,fN,gZ] at e;rw [e];rfl
 | c :: c' :: F,last,m,h,he=>by
   obtain ⟨k,rfl⟩:∃ k,m=k+1:=⟨F.length,by simp at h;omega⟩
   have hl:(c' :: F).length=k+1:=by simp at h ⊢;omega
   have e:c*q ^ (c' :: F).length+p*ev (c' :: F) p q=-(q*last)*q ^ (k+1):=he;rw [hl] at e;have e1:(c+q*last)*q ^ (k+1)=p*(-ev (c' :: F) p q):=by
    rw [mH,iZ];rw [gR] at e;omega
   have hd:∃ d:Int,c=p*d - q*last∧ev (c' :: F) p q=-(q*d)*q ^ k:=by
    by_cases hp:p=0
    · subst hp;have hq:q.natAbs=1:=by simpa [Int.gcd] using hc
      have hq2:q*q=1:=by
       rcases Int.natAbs_eq q with h | h <;> rw [hq] at h <;> rw [h] <;> rfl
      have hqk:∀ n:Nat,q ^ n*q ^ n=1:=fun n=>by
       induction n with
       | zero=>simp
       | succ n ih=>rw [gU,show q ^ n*q*(q ^ n*q)=(q ^ n*q ^ n)*(q*q) by ac_rfl,ih,hq2];rfl
      refine ⟨-(ev (c' :: F) 0 q*q ^ (k+1)),?_,?_⟩
      · rw [eV] at e1;have:c+q*last=0:=by
         rcases Int.mul_eq_zero.mp e1 with h | h
         · exact h
         have:=hqk (k+1);rw [h] at this;simp at this
        rw [eV];omega
      have h2:-(q * -(ev (c' :: F) 0 q*q ^ (k+1)))*q ^ k=ev (c' :: F) 0 q*(q ^ (k+1)*q ^ (k+1)):=by
       rw [iZ,Int.neg_neg,gU];ac_rfl
      rw [h2,hqk,gZ]
    obtain ⟨d,hd⟩:=UN (x:=c+q*last) hc (k+1) ⟨_,e1⟩;refine ⟨d,by omega,?_⟩;refine Int.eq_of_mul_eq_mul_left hp ?_;rw [hd] at e1;have h3:p*(-(q*d)*q ^ k)=-(p*d*q ^ (k+1)):=by
     rw [gU,gR,iZ];congr 1;ac_rfl
    rw [h3,e1,iZ,Int.neg_neg]
   obtain ⟨d,hd1,hd2⟩:=hd;obtain ⟨f,hf1,hf2⟩:=FT hc (c' :: F) d k hl hd2;refine ⟨d :: f,by rw [aY,hf1],?_⟩;show c :: c' :: F=(p*d - q*last) :: zV p q d f;rw [←hf2,←hd1]
def wT (u v:Int):Nat→List Int
 | 0=>[1]
 | e+1=>zV v (-u) 0 (wT u v e)
theorem Dk (u v:Int):∀ e,(wT u v e).length=e+1
 | 0=>rfl
 | e+1=>by show (zV v (-u) 0 (wT u v e)).length=_;rw [Lg,Dk]
theorem Lh (u v a b:Int):∀ e,ev (wT u v e) a b=(u*a+v*b) ^ e
 | 0=>by show (1:Int)*b ^ 0+a*0=_;simp
 | e+1=>by
   show ev (zV v (-u) 0 (wT u v e)) a b=_;rw [Py,Lh,bR,eV,lB,gU,gR,Int.sub_neg,cJ,sL (v*b)]
def Eu (t:Int) (F G:List Int):List Int:=List.zipWith (fun x y=>x - t*y) F G
theorem Pz (t a b:Int):∀ F G:List Int,F.length=G.length→ev (Eu t F G) a b=ev F a b - t*ev G a b
 | [],[],_=>by show (0:Int)=0 - t*0;simp
 | x :: F,y :: G,h=>by
   have hl:F.length=G.length:=by simpa using h
   show (x - t*y)*b ^ (Eu t F G).length+a*ev (Eu t F G) a b=(x*b ^ F.length+a*ev F a b) - t*(y*b ^ G.length+a*ev G a b);have hz:(Eu t F G).length=G.length:=by unfold Eu;rw [iX,hl,qM]
   rw [hz,Pz t a b F G hl,hl,kU,kV,cZ];have h1:t*y*b ^ G.length=t*(y*b ^ G.length):=by ac_rfl
   have h2:a*(t*ev G a b)=t*(a*ev G a b):=by ac_rfl
   rw [h1,h2];omega
theorem JM {p q u v:Int} (hc:Int.gcd p q=1) (h1:u*p+v*q=1) (F:List Int) (e:Nat) (hF:F.length=e+1) :
 ∃ f:List Int,f.length=e∧Eu (ev F p q) F (wT u v e)=zV p q 0 f∧∀ a b:Int,ev F a b - ev F p q*(u*a+v*b) ^ e=(p*b - q*a)*ev f a b:=by
 have hl:F.length=(wT u v e).length:=by rw [hF,Dk]
 have hz:(Eu (ev F p q) F (wT u v e)).length=e+1:=by unfold Eu;rw [iX,Dk,hF,qM]
 obtain ⟨f,hf1,hf2⟩:=FT hc (Eu (ev F p q) F (wT u v e)) 0 e hz (by
  rw [Pz _ _ _ _ _ hl,Lh,h1,Int.one_pow,gZ,sH];simp)
 refine ⟨f,hf1,hf2,fun a b=>?_⟩;have h3:=Py p q a b 0 f;rw [←hf2,Pz _ _ _ _ _ hl,Lh,bR,eV,lB] at h3;exact h3
theorem AC (a b:Int):∀ n:Nat,ev (List.replicate n 0) a b=0
 | 0=>rfl
 | n+1=>by
   show (0:Int)*b ^ (List.replicate n (0:Int)).length+a*ev (List.replicate n 0) a b=0;rw [AC,eV,bR];rfl
theorem FU (a b:Int):∀ (n j:Nat),j<n→ev ((List.replicate n (0:Int)).set j 1) a b=a ^ j*b ^ (n - 1 - j)
 | n+1,0,_=>by
   show (1:Int)*b ^ (List.replicate n (0:Int)).length+a*ev (List.replicate n 0) a b=a ^ 0*b ^ (n+1 - 1 - 0);rw [AC,aJ,bR,fN,lC];rfl
 | n+1,j+1,h=>by
   show (0:Int)*b ^ ((List.replicate n (0:Int)).set j 1).length+a*ev ((List.replicate n (0:Int)).set j 1) a b=a ^ (j+1)*b ^ (n+1 - 1 - (j+1));rw [FU a b n j sW,eV,lA,gU,show n+1 - 1 - (j+1)=n - 1 - j by omega]
   ac_rfl
def idx (n:Nat):List Int:=(List.range n).map fun (k:Nat)=>(k:Int)
theorem Nu (n:Nat):(idx n).length=n:=by unfold idx;rw [aP,cB]
theorem Qa (n:Nat):idx (n+1)=idx n++[(n:Int)]:=by unfold idx;rw [oM,iG];rfl
theorem c92 (G:A3) (n:Nat) (hn:n≤1048576) :
 Does Tryz.prog 92 [.int .i64 (n:Int)] G [] (fun v G' Ho=>∃ (s:Option Addr) (c:Nat),v=.slice s (idx n).length c∧Arr G' s (idx n)∧(idx n).length≤c∧Ho=[]):=by
 refine D0 Tryz.func92 Tryz.ntmps92 fun w=>?_;refine eF 9 (Row 3 ([]:List Int) []) ?_;refine bL 18 [] ?_;refine fX (ι:=Nat×(Option Addr×Nat×List Value)) (fun (k,(o,d,j))=>([(6,.int .i64 (k:Int)),(3,.slice o (idx k).length d),(5,Go.Value.int Go.IntKind.i64 (↑n:Int)),(2,Go.Value.slice Option.none 0 0)],[(9,o.map (·.block),Row 3 (idx k) j)])) (fun (k,(o,d,j))=>k≤n∧A4 o d (idx k) j) (fun (k,(o,d,j))=>n - k) ((0,(none,0,[]))) (⟨aN _,eG⟩) ⟨F9,F9,F9,F9,H2⟩ ⟨F9,H2⟩ fun ⟨k,(o,d,j)⟩=>fun hk=>?_;obtain ⟨hk1,hk2⟩:=hk;have hkl:=Nu k;rcases aK k n with hke | hke
 · refine aH 20 [1] ?_;refine cC (α:=Int) 10 [((↑k:Int))] F9 T.sl24 T.el3 F9 F9 F9 F9 F9 fun b1=>?_;refine kM (α:=Int) 9 T.sl24 T.el3 (cQ 10 F9) fun a1 c1 junk1 ho1=>?_;refine aS 8 [] ?_;refine cE 6 F9 (show _=Value.int .i64 ((k+1:Nat):Int) from F9) ?_;refine cE 3 F9 (show _=Value.slice a1 (idx (k+1)).length c1 by rw [Qa]) ?_;refine gJ 9 (Row 3 (idx (k+1)) junk1) F9 (by rw [Qa]) ?_;refine cM ((k+1,(a1,c1,junk1))) ?_ ?_
   · exact ⟨hke,by rw [Qa];exact ho1⟩
   show n - (k+1)<n - k;omega
 have hke:k=n:=sW;subst hke;refine bG 19 [0] ?_;refine dD 9 F9 hk2 fun G8 hle8 hA8=>?_;refine dA ?_;exact ⟨_,_,F9,hA8,hk2.le,F9⟩
def Li (l:List R2):Nat:=(l.filter fun p=>decide (Int.gcd p.a p.b≠1)).length
def AD (i:Sl.Instr):Prop:=i.op=6∨i.op=8
instance (i:Sl.Instr):Decidable (AD i):=inferInstanceAs (Decidable (_∨_))
def cx (i:Sl.Instr):Prop:=(i.op=6∨i.op=5)∧(512<i.c∨i.c < -512)
instance (i:Sl.Instr):Decidable (cx i):=inferInstanceAs (Decidable (_∧_))
def We (c:List Sl.Instr):Nat:=(c.filter fun i=>decide (AD i)).length
def kg (p:PV) (l:List R2):Prop:=(∀ i∈p.code,¬cx i)∧(We p.code:Int)≤(l.length:Int)*((l.length:Int) - 1) / 2+((l.length:Int) - 1)*(Li l:Int)
instance (p:PV) (l:List R2):Decidable (kg p l):=inferInstanceAs (Decidable (_∧_))
def Ev (a b s:Int):Bool:=((Int.gcd a b:Int) - s*a).tmod b == 0
def OU (a b:Int):Nat→Nat→Nat
 | 0,k=>k
 | n+1,k=>if Ev a b (k:Int) || Ev a b (-(k:Int)) then k else OU a b n (k+1)
def Cv (a b:Int):Nat:=OU a b 16 0
def bezS (a b:Int):Int:=if b=0 then a.tdiv (Int.gcd a b) else if Ev a b (Cv a b:Int) then (Cv a b:Int) else -(Cv a b:Int)
def bezT (a b:Int):Int:=if b=0 then 0 else ((Int.gcd a b:Int) - bezS a b*a).tdiv b
def OV (a b:Int):Bool:=(a == 0 && b == 0) || (bezS a b*a+bezT a b*b == (Int.gcd a b:Int) && decide ((bezS a b).natAbs+(bezT a b).natAbs≤17) && decide (Cv a b≤15) && (b == 0 || Ev a b (Cv a b:Int) || Ev a b (-(Cv a b:Int))))
theorem UO:((List.range 33).all fun i=>(List.range 33).all fun j=>OV ((i:Int) - 16) ((j:Int) - 16))=true:=Mh
theorem YL {a b:Int} (h:near a b):OV a b=true:=by
 have h1:=List.all_eq_true.mp UO (a+16).toNat (List.mem_range.mpr (by unfold near at h;omega));have h2:=List.all_eq_true.mp h1 (b+16).toNat (List.mem_range.mpr (by unfold near at h;omega));rw [show (((a+16).toNat:Nat):Int) - 16=a by unfold near at h;omega,show (((b+16).toNat:Nat):Int) - 16=b by unfold near at h;omega] at h2;exact h2
theorem Fq {a b:Int} (h:near a b) (h0:¬(a=0∧b=0)):bezS a b*a+bezT a b*b=Int.gcd a b∧(bezS a b).natAbs+(bezT a b).natAbs≤17∧Cv a b≤15∧(b=0∨Ev a b (Cv a b:Int)=true∨Ev a b (-(Cv a b:Int))=true):=by
 have h1:=YL h;unfold OV at h1;simp only [Bool.or_eq_true,aW,beq_iff_eq,aV] at h1;rcases h1 with h1 | ⟨⟨⟨e1,e2⟩,e3⟩,e4⟩
 · exact absurd h1 h0
 exact ⟨e1,e2,e3,e4.elim (fun h=>h.elim .inl (fun h=>.inr (.inl h))) (fun h=>.inr (.inr h))⟩
theorem Sg (G:A3) (b:Nat) (n:Int) (ac:Option Addr) (cc:Nat) (code:List Sl.Instr) (j:List Value) (wa:Option Addr) (wn wc:Nat) (op to x y c:Int) (ho:A4 ac cc code j) (hl:code.length≤1048576) :
 Does Tryz.prog 228 [.pointer (some ⟨b,0,none⟩),.int .i64 op,.int .i64 to,.int .i64 x,.int .i64 y,.int .i64 c] G [(0,some b,.cells #[.int .i64 n,.slice ac code.length cc,.slice wa wn wc] 267),(1,ac.map (·.block),Row 91 code j)]
  (fun v G' Ho=>v=.tuple #[]∧G'=G∧∃ (a':Option Addr) (c':Nat) (j':List Value),A4 a' c' (code++[⟨op,to,x,y,c⟩]) j'∧Ho=[(0,some b,.cells #[.int .i64 n,.slice a' (code++[(⟨op,to,x,y,c⟩:Sl.Instr)]).length c',.slice wa wn wc] 267),(1,a'.map (·.block),Row 91 (code++[⟨op,to,x,y,c⟩]) j')]):=by
 refine D0 Tryz.func228 Tryz.ntmps228 fun w=>?_;refine aH 11 [0] ?_;refine aQ (bP (cs:=[_,_,_,_,_]) T.st91 F9 F9 F9) ?_;refine cC (α:=Sl.Instr) 2 [⟨op,to,x,y,c⟩] F9 T.sl23 T.el91 F9 F9 F9 F9 F9 fun b1=>?_;refine kM (α:=Sl.Instr) 1 T.sl23 T.el91 (cQ 2 F9) fun a1 c1 junk1 ho1=>?_;refine aS 4 [0] ?_;refine kH (.inl F9) (Ho:=[(0,some b,.cells #[.int .i64 n,.slice a1 (code++[(⟨op,to,x,y,c⟩:Sl.Instr)]).length c1,.slice wa wn wc] 267),(1,a1.map (·.block),Row 91 (code++[⟨op,to,x,y,c⟩]) junk1)]) F9 ⟨F9,F9,H2⟩ ?_;exact ⟨F9,F9,a1,c1,junk1,ho1,F9⟩
def xW (to c:Int):List Sl.Instr:=if c=1 then [] else if c=-1 then [⟨2,to,to,0,0⟩] else [⟨6,to,to,0,c⟩]
theorem YM (G:A3) (b:Nat) (n:Int) (ac:Option Addr) (cc:Nat) (code:List Sl.Instr) (j:List Value) (wa:Option Addr) (wn wc:Nat) (to c:Int) (ho:A4 ac cc code j) (hl:code.length≤1048576) :
 Does Tryz.prog 193 [.pointer (some ⟨b,0,none⟩),.int .i64 to,.int .i64 c] G [(0,some b,.cells #[.int .i64 n,.slice ac code.length cc,.slice wa wn wc] 267),(1,ac.map (·.block),Row 91 code j)]
  (fun v G' Ho=>v=.tuple #[]∧G'=G∧∃ (a':Option Addr) (c':Nat) (j':List Value),A4 a' c' (code++xW to c) j'∧Ho=[(0,some b,.cells #[.int .i64 n,.slice a' (code++xW to c).length c',.slice wa wn wc] 267),(1,a'.map (·.block),Row 91 (code++xW to c) j')]):=by
 refine D0 Tryz.func193 Tryz.ntmps193 fun w=>?_;refine bL 12 [] ?_;refine dB (fun hc1=>?_) fun hc1=>?_;refine bG 2 [] ?_;rotate_left;refine bL 6 [] ?_;refine dB (fun hc2=>?_) fun hc2=>?_;refine aH 4 [] ?_;refine eO 0 F9 T.fn228 F9 (Sg _ b n ac cc code j wa wn wc _ _ _ _ _ ho hl) (tC ⟨F9,F9,H2⟩) fun v1 G1 Ho1 hle1 hp=>?_;obtain ⟨rfl,rfl,a1,d1,j1,ho1,rfl⟩:=hp;refine aS 2 [] ?_;rotate_left;refine aH 5 [] ?_;refine eO 0 F9 T.fn228 F9 (Sg _ b n ac cc code j wa wn wc _ _ _ _ _ ho hl) (tC ⟨F9,F9,H2⟩) fun v1 G1 Ho1 hle1 hp=>?_;obtain ⟨rfl,rfl,a1,d1,j1,ho1,rfl⟩:=hp;refine aS 2 [] ?_;rotate_left
 · have e:xW to c=[]:=by unfold xW;rw [aE hc1]
   rw [e,bB];refine kH zS (Ho:=[(0,some b,.cells #[.int .i64 n,.slice ac code.length cc,.slice wa wn wc] 267),(1,ac.map (·.block),Row 91 code j)]) F9 ⟨F9,F9,H2⟩ ?_;exact ⟨F9,F9,ac,cc,j,ho,F9⟩
 · have e:xW to c=[⟨2,to,to,0,0⟩]:=by unfold xW;rw [aD hc1,aE hc2]
   rw [e];refine kH zS (Ho:=[(0,some b,.cells #[.int .i64 n,.slice a1 (code++[(⟨2,to,to,0,0⟩:Sl.Instr)]).length d1,.slice wa wn wc] 267),(1,a1.map (·.block),Row 91 (code++[⟨2,to,to,0,0⟩]) j1)]) F9 ⟨F9,F9,H2⟩ ?_;exact ⟨F9,F9,a1,d1,j1,ho1,F9⟩
 have e:xW to c=[⟨6,to,to,0,c⟩]:=by unfold xW;rw [aD hc1,aD hc2]
 rw [e];refine kH zS (Ho:=[(0,some b,.cells #[.int .i64 n,.slice a1 (code++[(⟨6,to,to,0,c⟩:Sl.Instr)]).length d1,.slice wa wn wc] 267),(1,a1.map (·.block),Row 91 (code++[⟨6,to,to,0,c⟩]) j1)]) F9 ⟨F9,F9,H2⟩ ?_;exact ⟨F9,F9,a1,d1,j1,ho1,F9⟩
def tE (to x c:Int):List Sl.Instr:=if c=0 then [⟨4,to,x,x,0⟩] else if c=1∧to=x then [] else if c=1 then [⟨1,to,x,0,0⟩] else if c=-1 then [⟨2,to,x,0,0⟩] else [⟨5,to,x,0,c⟩]
theorem Gi (G:A3) (b:Nat) (n:Int) (ac:Option Addr) (cc:Nat) (code:List Sl.Instr) (j:List Value) (wa:Option Addr) (wn wc:Nat) (to x c:Int) (ho:A4 ac cc code j) (hl:code.length≤1048576) :
 Does Tryz.prog 195 [.pointer (some ⟨b,0,none⟩),.int .i64 to,.int .i64 x,.int .i64 c] G [(0,some b,.cells #[.int .i64 n,.slice ac code.length cc,.slice wa wn wc] 267),(1,ac.map (·.block),Row 91 code j)]
  (fun v G' Ho=>v=.tuple #[]∧G'=G∧∃ (a':Option Addr) (c':Nat) (j':List Value),A4 a' c' (code++tE to x c) j'∧Ho=[(0,some b,.cells #[.int .i64 n,.slice a' (code++tE to x c).length c',.slice wa wn wc] 267),(1,a'.map (·.block),Row 91 (code++tE to x c) j')]):=by
 refine D0 Tryz.func195 Tryz.ntmps195 fun w=>?_;refine bL 8 [] ?_;refine dB (fun hc1=>?_) fun hc1=>?_;refine aH 5 [] ?_;refine eO 0 F9 T.fn228 F9 (Sg _ b n ac cc code j wa wn wc _ _ _ _ _ ho hl) (tC ⟨F9,F9,H2⟩) fun v1 G1 Ho1 hle1 hp=>?_;obtain ⟨rfl,rfl,a1,d1,j1,ho1,rfl⟩:=hp;refine aS 2 [] ?_;rotate_left;refine aH 5 [] ?_;apply bW 4 24 28 F9;intro hg1;refine aC 7 [] ?_;exact dI 4 0;intro hg1;refine aC 4 [] ?_;exact dI 4 0;refine aZ 3 [] ?_;refine dB (fun hc2=>?_) fun hc2=>?_;refine bG 2 [] ?_;rotate_left;refine bL 7 [] ?_;refine dB (fun hc3=>?_) fun hc3=>?_;refine aH 4 [] ?_;refine eO 0 F9 T.fn228 F9 (Sg _ b n ac cc code j wa wn wc _ _ _ _ _ ho hl) (tC ⟨F9,F9,H2⟩) fun v1 G1 Ho1 hle1 hp=>?_;obtain ⟨rfl,rfl,a1,d1,j1,ho1,rfl⟩:=hp;refine aS 2 [] ?_;rotate_left;refine bL 7 [] ?_;refine dB (fun hc4=>?_) fun hc4=>?_;refine aH 4 [] ?_;refine eO 0 F9 T.fn228 F9 (Sg _ b n ac cc code j wa wn wc _ _ _ _ _ ho hl) (tC ⟨F9,F9,H2⟩) fun v1 G1 Ho1 hle1 hp=>?_;obtain ⟨rfl,rfl,a1,d1,j1,ho1,rfl⟩:=hp;refine aS 2 [] ?_;rotate_left;refine aH 5 [] ?_;refine eO 0 F9 T.fn228 F9 (Sg _ b n ac cc code j wa wn wc _ _ _ _ _ ho hl) (tC ⟨F9,F9,H2⟩) fun v1 G1 Ho1 hle1 hp=>?_;obtain ⟨rfl,rfl,a1,d1,j1,ho1,rfl⟩:=hp;refine aS 2 [] ?_;rotate_left
 · have e:tE to x c=[⟨4,to,x,x,0⟩]:=by unfold tE;rw [aE hc1]
   rw [e];refine kH zS (Ho:=[(0,some b,.cells #[.int .i64 n,.slice a1 (code++[(⟨4,to,x,x,0⟩:Sl.Instr)]).length d1,.slice wa wn wc] 267),(1,a1.map (·.block),Row 91 (code++[⟨4,to,x,x,0⟩]) j1)]) F9 ⟨F9,F9,H2⟩ ?_;exact ⟨F9,F9,a1,d1,j1,ho1,F9⟩
 · have e:tE to x c=[]:=by unfold tE;rw [aD hc1,aE hc2]
   rw [e,bB];refine kH zS (Ho:=[(0,some b,.cells #[.int .i64 n,.slice ac code.length cc,.slice wa wn wc] 267),(1,ac.map (·.block),Row 91 code j)]) F9 ⟨F9,F9,H2⟩ ?_;exact ⟨F9,F9,ac,cc,j,ho,F9⟩
 · have e:tE to x c=[⟨1,to,x,0,0⟩]:=by unfold tE;rw [aD hc1,aD hc2,aE hc3]
   rw [e];refine kH zS (Ho:=[(0,some b,.cells #[.int .i64 n,.slice a1 (code++[(⟨1,to,x,0,0⟩:Sl.Instr)]).length d1,.slice wa wn wc] 267),(1,a1.map (·.block),Row 91 (code++[⟨1,to,x,0,0⟩]) j1)]) F9 ⟨F9,F9,H2⟩ ?_;exact ⟨F9,F9,a1,d1,j1,ho1,F9⟩
 · have e:tE to x c=[⟨2,to,x,0,0⟩]:=by unfold tE;rw [aD hc1,aD hc2,aD hc3,aE hc4]
   rw [e];refine kH zS (Ho:=[(0,some b,.cells #[.int .i64 n,.slice a1 (code++[(⟨2,to,x,0,0⟩:Sl.Instr)]).length d1,.slice wa wn wc] 267),(1,a1.map (·.block),Row 91 (code++[⟨2,to,x,0,0⟩]) j1)]) F9 ⟨F9,F9,H2⟩ ?_;exact ⟨F9,F9,a1,d1,j1,ho1,F9⟩
 have e:tE to x c=[⟨5,to,x,0,c⟩]:=by unfold tE;rw [aD hc1,aD hc2,aD hc3,aD hc4]
 rw [e];refine kH zS (Ho:=[(0,some b,.cells #[.int .i64 n,.slice a1 (code++[(⟨5,to,x,0,c⟩:Sl.Instr)]).length d1,.slice wa wn wc] 267),(1,a1.map (·.block),Row 91 (code++[⟨5,to,x,0,c⟩]) j1)]) F9 ⟨F9,F9,H2⟩ ?_;exact ⟨F9,F9,a1,d1,j1,ho1,F9⟩
end Go.Proofs.YtkdelpdbjfpgmaaGreatDoor
end
