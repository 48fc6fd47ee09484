/- wG of the proof (part 8): what the rows' text needs of the texts that lead to it. -/
import Derived.Test.YtngphgeghfdjbaaGreatDoorMDg
set_option linter.unusedVariables false
set_option linter.unusedSimpArgs false
set_option linter.unusedSectionVars false
set_option maxHeartbeats 4000000
set_option maxRecDepth 100000
namespace Go.Proofs.YtngphgeghfdjbaaGreatDoor
open Go Go.Sl
theorem FP {a x:List Int} {f:Int→Int} (hl:x.length=a.length) (h:∀ k:Nat,k<a.length→x[k]?.getD 0=f (a[k]?.getD 0)):a.map f=x:=by
 refine dW fun k=>?_;rcases aK k a.length with hk | hk
 · have:=h k hk;rw [aA uJ,aA hk] at this;rw [bJ,aA hk,aA (by omega:k<x.length)];exact congrArg some this.symm
 rw [bF (by rw [aW];exact hk),bF uJ]
theorem SM {a b x:List Int} {f:Int→Int→Int} (hb:b.length=a.length) (hl:x.length=a.length) (h:∀ k:Nat,k<a.length→x[k]?.getD 0=f (a[k]?.getD 0) (b[k]?.getD 0)):List.zipWith f a b=x:=by
 refine dW fun k=>?_;rcases aK k a.length with hk | hk
 · have:=h k hk;rw [aA uJ,aA hk,aA (by omega:k<b.length)] at this;rw [List.getElem?_zipWith,aA hk,aA (by omega:k<x.length),aA (by omega:k<b.length)];exact congrArg some this.symm
 rw [bF (by rw [jA];omega),bF uJ]
theorem XY {i:Sl.Instr} {rs:List (List Int)} {x:List Int} (hb:(rs[i.b.toNat]?.getD []).length=(rs[i.a.toNat]?.getD []).length) (hl:x.length=(rs[i.a.toNat]?.getD []).length)
 (h:∀ k:Nat,k<(rs[i.a.toNat]?.getD []).length→Ht i ((rs[i.a.toNat]?.getD [])[k]?.getD 0) ((rs[i.b.toNat]?.getD [])[k]?.getD 0)=some (x[k]?.getD 0)):zP i rs=some x:=by
 unfold Ht at h;unfold zP;generalize rs[i.a.toNat]?.getD []=a at *;generalize rs[i.b.toNat]?.getD []=b at *;by_cases h2:i.op=2
 · simp only [aM h2] at h ⊢;rw [FP hl fun k hk=>(gH (h k hk)).symm]
 by_cases h3:i.op=3
 · simp only [aE h2,aM h3] at h ⊢;rw [SM hb hl fun k hk=>(gH (h k hk)).symm]
 by_cases h4:i.op=4
 · simp only [aE h2,aE h3,aM h4] at h ⊢;rw [SM hb hl fun k hk=>(gH (h k hk)).symm]
 by_cases h5:i.op=5∨i.op=7
 · simp only [aE h2,aE h3,aE h4,aM h5] at h ⊢;rw [FP hl fun k hk=>(gH (h k hk)).symm]
 by_cases h6:i.op=6∨i.op=8
 · simp only [aE h2,aE h3,aE h4,aE h5,aM h6] at h ⊢;have hd:xN (cst i) a:=fun k hk=>by
    have:=h k hk;refine gC fun hn=>?_;rw [aE hn] at this;cases this
   rw [aM hd,FP hl fun k hk=>?_];have:=h k hk;rw [aM (hd k hk)] at this;exact (gH this).symm
 simp only [aE h2,aE h3,aE h4,aE h5,aE h6] at h ⊢;refine congrArg some (dW fun k=>?_);rcases aK k a.length with hk | hk
 · have:=h k hk;rw [aA uJ,aA (by omega:k<x.length)] at this;rw [aA uJ,aA (by omega:k<x.length)];exact this
 rw [bF hk,bF uJ]
theorem ct {i:Sl.Instr} {rs:List (List Int)} {k:Nat} (hk:k<(rs[i.a.toNat]?.getD []).length) (h:Ht i ((rs[i.a.toNat]?.getD [])[k]?.getD 0) ((rs[i.b.toNat]?.getD [])[k]?.getD 0)=none):zP i rs=none:=by
 unfold Ht at h;unfold zP;generalize rs[i.a.toNat]?.getD []=a at *;generalize rs[i.b.toNat]?.getD []=b at *;by_cases h2:i.op=2
 · simp only [aM h2] at h;cases h
 by_cases h3:i.op=3
 · simp only [aE h2,aM h3] at h;cases h
 by_cases h4:i.op=4
 · simp only [aE h2,aE h3,aM h4] at h;cases h
 by_cases h5:i.op=5∨i.op=7
 · simp only [aE h2,aE h3,aE h4,aM h5] at h;cases h
 by_cases h6:i.op=6∨i.op=8
 · simp only [aE h2,aE h3,aE h4,aE h5,aM h6] at h ⊢;refine aE fun hd=>?_;rw [aM (hd k hk)] at h;cases h
 simp only [aE h2,aE h3,aE h4,aE h5,aE h6] at h;cases h
section
attribute [local irreducible] uM pb vJ uZ Ht
theorem kg (G:A3) (bm:Nat) (p:PV) (ac ao ro:Option Addr) (cc co rn rd:Nat) :
 Does Tryz.prog 182 [.pointer (some ⟨bm,0,none⟩)] G [(0,some bm,.cells #[.int .i64 p.ins,.int .i64 p.regs,.slice ac p.code.length cc,.slice ao p.outs.length co,.slice ro rn rd,.int .i64 ((p.code.length:Nat):Int)] 267)]
  (fun v G' Ho=>v=.int .i64 4∧G'=G∧Ho=[(0,some bm,.cells #[.int .i64 p.ins,.int .i64 p.regs,.slice ac p.code.length cc,.slice ao p.outs.length co,.slice ro rn rd,.int .i64 ((p.code.length:Nat):Int)] 267)]):=by
 refine bU Tryz.func182 U Tryz.ntmps182 U fun w=>?_;refine aL 10 [] ?_;refine aU U (Qy.eqlPtrNil uO U U) ?_;refine bY 3 [] ?_;refine jF U (fun hc1=>?_) fun hc1=>?_;refine cJ 8 [] ?_;refine cP (.inr U) (Ho:=Hp.only _ [0]) U (.tmp U) (aV _ _) ?_;rotate_left;refine bP ?_;refine gV [0] [] T.mixed U ?_;refine bO 0 [] [] ?_;refine bO 1 [] [] ?_;refine bO 2 [] [] ?_;refine bO 3 [0] [0] ?_;refine bO 4 [] [] ?_;refine bO 5 [] [] ?_;refine bO 6 [] [] ?_;refine bO 7 [] [] ?_;refine bO 8 [0] [0] ?_;refine bO 9 [] [] ?_;refine bO 10 [] [] ?_;refine bO 11 [] [] ?_;refine eI ?_;refine iN 10 [1] ?_;refine cP (.inr U) (Ho:=Hp.only _ [0]) U (.tmp U) (aV _ _) ?_;rotate_left
 · cases hc1
 exact ⟨U,U,U⟩
theorem ug (G:A3) (hT:C6 G) (bm:Nat) (p:PV) (ac ao ro:Option Addr) (cc co rd k:Nat) (r:List SV) (j:List Value) (rs:List (List Int)) (m N:Nat) (hc:Arr G ac p.code) (hob:A5 ro rd r j) (hg:B5 G r rs) (hm:C1 m N rs) (hN:N≤1048576) (hm2:m≤268435456)
 (hk:k<p.code.length) (hcl:p.code.length≤16384) (hr:(r.length:Int)=p.regs) (hok:yM (p.code[((k:Nat):Int).toNat]?.getD default) p.regs=true) :
 Does Tryz.prog 182 [.pointer (some ⟨bm,0,none⟩)] G [(0,some bm,.cells #[.int .i64 p.ins,.int .i64 p.regs,.slice ac p.code.length cc,.slice ao p.outs.length co,.slice ro r.length rd,.int .i64 (k:Int)] 267),(1,ro.map (·.block),Row 39 r j)]
  (fun v G' Ho=>(zP (p.code[((k:Nat):Int).toNat]?.getD default) rs=none∧v=.int .i64 20∧Ho=[(0,some bm,.cells #[.int .i64 p.ins,.int .i64 p.regs,.slice ac p.code.length cc,.slice ao p.outs.length co,.slice ro r.length rd,.int .i64 (k:Int)] 267),(1,ro.map (·.block),Row 39 r j)])∨
   ∃ (x:List Int) (s:SV),zP (p.code[((k:Nat):Int).toNat]?.getD default) rs=some x∧C8 G' s x∧v=.int .i64 0∧Ho=[(0,some bm,.cells #[.int .i64 p.ins,.int .i64 p.regs,.slice ac p.code.length cc,.slice ao p.outs.length co,.slice ro r.length rd,.int .i64 ((k:Int)+1)] 267),(1,ro.map (·.block),Row 39 (r.set (p.code[((k:Nat):Int).toNat]?.getD default).to.toNat s) j)]):=by
 obtain ⟨m1,m2,m3,m4,m5,m6,m7,m8⟩:=Fy hok;have hrl:=hg.1;have hbz:(p.code[(k:Int).toNat]?.getD default).op=3∨(p.code[(k:Int).toNat]?.getD default).op=4∨(p.code[(k:Int).toNat]?.getD default).b=0:=by
  have hmi:=hok;unfold yM at hmi;rw [aB,aB,aY] at hmi;exact hmi.1.1.2.2.2.2
 have mb:0≤(p.code[(k:Int).toNat]?.getD default).b∧(p.code[(k:Int).toNat]?.getD default).b<r.length:=by
  rcases hbz with h | h | h
  · have:=m4 (.inl h);omega
  · have:=m4 (.inr h);omega
  omega
 have mt:0≤(p.code[(k:Int).toNat]?.getD default).to∧(p.code[(k:Int).toNat]?.getD default).to<r.length:=uJ;have ma:0≤(p.code[(k:Int).toNat]?.getD default).a∧(p.code[(k:Int).toNat]?.getD default).a<r.length:=uJ;refine bU Tryz.func182 U Tryz.ntmps182 U fun w=>?_;refine aL 10 [] ?_;refine aU U (Qy.eqlPtrNil uO U U) ?_;refine bY 3 [] ?_;refine jF U (fun hc1=>?_) fun hc1=>?_;refine cJ 8 [] ?_;refine cP (.inr U) (Ho:=Hp.only _ [0,1]) U (.tmp U) (aV _ _) ?_;rotate_left;refine bP ?_;refine gV [1,0] [] T.mixed U ?_;refine bO 0 [] [] ?_;refine bO 1 [] [] ?_;refine bO 2 [] [] ?_;refine bO 3 [0] [0] ?_;refine bO 4 [] [] ?_;refine bO 5 [] [] ?_;refine bO 6 [] [] ?_;refine bO 7 [] [] ?_;refine bO 8 [0] [0] ?_;refine bO 9 [] [] ?_;refine bO 10 [] [] ?_;refine bO 11 [] [] ?_;refine eI ?_;refine rI 6 [0] ?_;refine gV [1,0] [] T.mixed U ?_;refine bO 0 [] [] ?_;refine bO 1 [] [] ?_;refine bO 2 [] [] ?_;refine bO 3 [] [] ?_;refine bO 4 [0] [0] ?_;refine bO 5 [] [] ?_;refine bO 6 [] [] ?_;refine bO 7 [] [] ?_;refine bO 8 [0] [0] ?_;refine eP 9 [] U (jH (α:=Sl.Instr) T.sl23 U U uK uJ) ?_;refine eP 10 [] U (gB T.agg211 U (jV uK uJ) U) ?_;refine fC 11 ?_;refine bB 2 U T.zero211 fun b1=>?_;refine dG ?_;refine fC 12 ?_;refine aF 1 [2] ?_;refine dG ?_;refine eI ?_;refine rH 4 [2] ?_;refine cQ 3 U (uf _ hT _ _ hok) fun v1 G1 Ho1 hle1 hp=>?_;obtain ⟨g,cp,rfl,hD,rfl⟩:=hp;replace hc:=hc.up hle1;replace hg:=hg.up hle1;refine bY 4 [] ?_;refine gV [1,0,2] [] T.mixed U ?_;refine bO 0 [] [] ?_;refine bO 1 [] [] ?_;refine bO 2 [] [] ?_;refine bO 3 [0] [0] ?_;refine bO 4 [] [] ?_;refine bO 5 [2] [2] ?_;refine eP 6 [] U (dJ (α:=SV) T.sl86 U U uK uJ) ?_;refine eP 7 [1,0] U (nI 1 0 T.one39 U U uK uJ U U) ?_;refine bO 8 [] [] ?_;refine bO 9 [] [] ?_;refine bO 10 [] [] ?_;refine bO 11 [0] [0] ?_;refine bO 12 [] [] ?_;refine bO 13 [2] [2] ?_;refine eP 14 [] U (dJ (α:=SV) T.sl86 U U uK uJ) ?_;refine eP 15 [1,0] U (nI 1 0 T.one39 U U uK uJ U U) ?_;refine bO 16 [] [] ?_;refine bO 17 [] [] ?_;refine eI ?_;refine bE ?_;rotate_left
 · cases hc1
 obtain ⟨la,hla,hlac,hAa,hBa⟩:=hg.2 (p.code[(k:Int).toNat]?.getD default).a.toNat uJ;obtain ⟨lb,hlb,hlbc,hAb,hBb⟩:=hg.2 (p.code[(k:Int).toNat]?.getD default).b.toNat uJ;have hea:=hm.at (show (p.code[(k:Int).toNat]?.getD default).a.toNat<rs.length by omega);have heb:=hm.at (show (p.code[(k:Int).toNat]?.getD default).b.toNat<rs.length by omega);have hda:=fun (x:List Int)=>XY (i:=p.code[(k:Int).toNat]?.getD default) (rs:=rs) (x:=x);have hdn:=fun (t:Nat)=>ct (i:=p.code[(k:Int).toNat]?.getD default) (rs:=rs) (k:=t);generalize rs[(p.code[((k:Nat):Int).toNat]?.getD default).a.toNat]?.getD []=xa at hda hdn hBa hea;generalize rs[(p.code[((k:Nat):Int).toNat]?.getD default).b.toNat]?.getD []=xb at hda hdn hBb heb;have hna:la.length=N:=by rw [hBa.1];exact hea.1
 have hnb:lb.length=N:=by rw [hBb.1];exact heb.1
 refine iD 5 U (show _=Value.slice (r[(p.code[(k:Int).toNat]?.getD default).a.toNat]?.getD default).a la.length (r[(p.code[(k:Int).toNat]?.getD default).a.toNat]?.getD default).c by rw [hla]) ?_;refine iD 6 U (show _=Value.slice (r[(p.code[(k:Int).toNat]?.getD default).b.toNat]?.getD default).a lb.length (r[(p.code[(k:Int).toNat]?.getD default).b.toNat]?.getD default).c by rw [hlb]) ?_;generalize (r[(p.code[((k:Nat):Int).toNat]?.getD default).a.toNat]?.getD default).a=aa at *;generalize (r[(p.code[((k:Nat):Int).toNat]?.getD default).b.toNat]?.getD default).a=ba at *;have hla1:la.length≤1048576:=uJ;refine aL 4 [] ?_;refine jL (α:=IV) 3 U T.sl39 T.el89 U U uJ uJ fun b2=>?_;refine bY 12 [] ?_;rw [show ((la.length:Nat):Int).toNat=N by omega];obtain ⟨X,hX⟩:∃ X:Nat→Int,X=fun t=>(Ht (p.code[(k:Int).toNat]?.getD default) (xa[t]?.getD 0) (xb[t]?.getD 0)).getD 0:=⟨_,U⟩
 have hown:∀ q:List IV,q.length=N→A5 (some ⟨b2,0,none⟩) N q []:=fun q hq=>.inr ⟨b2,U,by rw [hq];rfl,by omega,by simp only [maxLen];omega⟩;refine iD 7 U (show _=Value.slice (some ⟨b2,0,none⟩) (List.replicate N (default:IV)).length N by rw [aC]) ?_;refine iD 59 U (show _=Value.int .i64 (N:Int) by rw [aC]) ?_;refine fX (ι:=Nat×A3×List IV) (fun (t,Gx,q)=>([(60,.int .i64 (t:Int)),(7,.slice (some ⟨b2,0,none⟩) q.length N),(59,Go.Value.int Go.IntKind.i64 (↑N:Int)),(6,Go.Value.slice ba (List.length lb) (Go.Sl.SV.c (Option.getD r[Int.toNat (Go.Sl.Instr.b (Option.getD p.code[Int.toNat (↑k:Int)]? Inhabited.default))]? Inhabited.default))),(5,Go.Value.slice aa (List.length la) (Go.Sl.SV.c (Option.getD r[Int.toNat (Go.Sl.Instr.a (Option.getD p.code[Int.toNat (↑k:Int)]? Inhabited.default))]? Inhabited.default))),(4,Go.Value.func (Go.Fn.func g) #[] (List.toArray cp)),(3,Go.Value.pointer (Option.some (Go.Addr.mk b1 0 Option.none))),(0,Go.Value.pointer (Option.some (Go.Addr.mk bm 0 Option.none)))],[(3,some b2,Row 89 q []),(2,Option.some b1,Go.Obj.cells (List.toArray (Go.Sl.A2.enc (Option.getD p.code[Int.toNat (↑k:Int)]? Inhabited.default))) 211),(0,Option.some bm,Go.Obj.cells #[Go.Value.int Go.IntKind.i64 p.ins,Go.Value.int Go.IntKind.i64 p.regs,Go.Value.slice ac p.code.length cc,Go.Value.slice ao p.outs.length co,Go.Value.slice ro (List.length r) rd,Go.Value.int Go.IntKind.i64 (↑k:Int)] 267),(1,Option.map (fun x=>Go.Addr.block x) ro,Go.Sl.Row (α:=Go.Sl.SV) 39 (r) (j))])) (fun (t,Gx,q)=>Gx) (fun (t,Gx,q)=>t≤N∧G1.le Gx∧q.length=N∧∀ s:Nat,s<t→Ht (p.code[(k:Int).toNat]?.getD default) (xa[s]?.getD 0) (xb[s]?.getD 0)=some (X s)∧B9 Gx (q[s]?.getD default) (X s)) (fun (t,Gx,q)=>N - t) ((0,G1,List.replicate N (default:IV))) (⟨aS _,cC _,aC,fun s h=>absurd h uJ⟩) U ⟨U,U,U,U,U,U,U,U,I8⟩ ⟨U,U,U,U,I8⟩ fun ⟨t,Gx,q⟩=>fun hk=>?_;obtain ⟨ht,hgx,hqn,hq⟩:=hk;have hor:=hown q hqn;replace hAa:=hAa.up hgx;replace hAb:=hAb.up hgx;replace hc:=hc.up hgx;rcases aK t N with htn | htn
 · have hxa:B9 Gx (la[(t:Int).toNat]?.getD default) (xa[t]?.getD 0):=by rw [aH];exact (hBa.2 t uJ).up hgx
   have hxb:B9 Gx (lb[(t:Int).toNat]?.getD default) (xb[t]?.getD 0):=by rw [aH];exact (hBb.2 t uJ).up hgx
   have hsa:(la[(t:Int).toNat]?.getD default).n≤268435456:=by rw [aH];exact aP (Ea hBa hea.2 (show t<la.length by omega)) hm2
   have hsb:(lb[(t:Int).toNat]?.getD default).n≤268435456:=by rw [aH];exact aP (Ea hBb heb.2 (show t<lb.length by omega)) hm2
   by_cases hf:Ht (p.code[((k:Nat):Int).toNat]?.getD default) (xa[t]?.getD 0) (xb[t]?.getD 0)=none
   · have hf2:¬Ht (p.code[(k:Int).toNat]?.getD default) (xa[t]?.getD 0) (xb[t]?.getD 0)≠none:=fun h=>h hf;refine dN 18 [1] ?_;refine gV [1,0,2,3] [(3,9),(2,9),(0,9),(1,9)] T.mixed U ?_;refine bO 0 [] [] ?_;refine bO 1 [] [] ?_;refine bO 2 [] [] ?_;refine eP 3 [] U (jH (α:=IV) T.sl39 U U uK uJ) ?_;refine eP 4 [] U (gB T.agg89 U (jV uK uJ) U) ?_;refine bO 5 [] [] ?_;refine bO 6 [] [] ?_;refine eP 7 [] U (jH (α:=IV) T.sl39 U U uK uJ) ?_;refine eP 8 [] U (gB T.agg89 U (jV uK uJ) U) ?_;refine Gm.o2 9 13 ?_ ?_;rotate_left;refine bB 4 U T.zero89 fun b3=>?_;refine dG ?_;refine fC 9 ?_;rotate_left
     · refine fM (fst:=[]) (cap:=cp) 20 U hD.1 U U (hD.2 _ hgx _ _ _ _ hxa hxb hsa hsb) (vA I8) fun v2 G2 Ho2 hle2 hp=>?_;obtain ⟨y,rfl,hy,rfl⟩:=hp;replace hc:=hc.up hle2;replace hAa:=hAa.up hle2;replace hAb:=hAb.up hle2;refine dG ?_;refine bO 10 [] [] ?_;refine bO 11 [] [] ?_;refine bO 12 [] [] ?_;refine rB 13 I8 Cl uO U ?_;refine bB 4 U T.zero89 fun b3=>?_;refine dG ?_;refine rB 14 I8 Cl uO U ?_;refine aF 1 [4] ?_;refine dG ?_;refine bO 15 [] [] ?_;refine mU uO I8 Cl ?_;refine rH 5 [] ?_;refine aU U (gF U) ?_;refine bA 15 [1] ?_;refine cP (.inr U) (Ho:=Hp.only _ [0,1]) U (.tmp U) (aV _ _) ?_;exact .inl ⟨hdn t uJ hf,U,U⟩
     refine fM (fst:=[]) (cap:=cp) 20 U hD.1 U U (hD.2 _ hgx _ _ _ _ hxa hxb hsa hsb) (vA I8) fun v2 G2 Ho2 hle2 hp=>?_;obtain ⟨y,rfl,hy,rfl⟩:=hp;replace hc:=hc.up hle2;replace hAa:=hAa.up hle2;replace hAb:=hAb.up hle2;refine dG ?_;refine bO 10 [] [] ?_;refine bO 11 [] [] ?_;refine bO 12 [] [] ?_;refine rB 14 I8 Cl uO U ?_;refine aF 1 [4] ?_;refine dG ?_;refine bO 15 [] [] ?_;refine mU uO I8 Cl ?_;refine rH 5 [] ?_;refine aU U (gF U) ?_;refine bA 15 [1] ?_;refine cP (.inr U) (Ho:=Hp.only _ [0,1]) U (.tmp U) (aV _ _) ?_;exact .inl ⟨hdn t uJ hf,U,U⟩
   obtain ⟨z,hz⟩:=Option.ne_none_iff_exists'.1 hf;have hf2:Ht (p.code[(k:Int).toNat]?.getD default) (xa[t]?.getD 0) (xb[t]?.getD 0)≠none:=hf;have hf3:¬¬Ht (p.code[(k:Int).toNat]?.getD default) (xa[t]?.getD 0) (xb[t]?.getD 0)≠none:=fun h=>h hf;have hXz:X t=z:=by rw [hX];simp only [hz];rfl
   have hnext:∀ (G2:A3) (y:IV),A3.le Gx G2→B9 G2 y z→t+1≤N∧G1.le G2∧(q.set t y).length=N∧∀ s:Nat,s<t+1→Ht (p.code[(k:Int).toNat]?.getD default) (xa[s]?.getD 0) (xb[s]?.getD 0)=some (X s)∧B9 G2 ((q.set t y)[s]?.getD default) (X s):=by
    refine fun G2 y hle2 hy=>⟨by omega,bH hgx hle2,by rw [aJ];exact hqn,fun s hs=>?_⟩
    by_cases hst:s=t
    · subst hst;rw [hXz,List.getElem?_set_self uJ];exact ⟨hz,hy⟩
    rw [sH uJ];have h:=hq s uJ;exact ⟨h.1,h.2.up hle2⟩
   refine dN 18 [1] ?_;refine gV [1,0,2,3] [(3,9),(2,9),(0,9),(1,9)] T.mixed U ?_;refine bO 0 [] [] ?_;refine bO 1 [] [] ?_;refine bO 2 [] [] ?_;refine eP 3 [] U (jH (α:=IV) T.sl39 U U uK uJ) ?_;refine eP 4 [] U (gB T.agg89 U (jV uK uJ) U) ?_;refine bO 5 [] [] ?_;refine bO 6 [] [] ?_;refine eP 7 [] U (jH (α:=IV) T.sl39 U U uK uJ) ?_;refine eP 8 [] U (gB T.agg89 U (jV uK uJ) U) ?_;refine Gm.o2 9 13 ?_ ?_;rotate_left;refine bB 4 U T.zero89 fun b3=>?_;refine dG ?_;refine fC 9 ?_;rotate_left
   · refine fM (fst:=[]) (cap:=cp) 20 U hD.1 U U (hD.2 _ hgx _ _ _ _ hxa hxb hsa hsb) (vA I8) fun v2 G2 Ho2 hle2 hp=>?_;obtain ⟨y,rfl,hy,rfl⟩:=hp;replace hc:=hc.up hle2;replace hAa:=hAa.up hle2;replace hAb:=hAb.up hle2;refine dG ?_;refine bO 10 [] [] ?_;refine bO 11 [] [] ?_;refine bO 12 [] [] ?_;refine rB 13 I8 Cl uO U ?_;refine bB 4 U T.zero89 fun b3=>?_;refine dG ?_;refine rB 14 I8 Cl uO U ?_;refine aF 1 [4] ?_;refine dG ?_;refine bO 15 [] [] ?_;refine mU uO I8 Cl ?_;refine rH 5 [] ?_;refine aU U (gF U) ?_;refine aN 9 [0,4] ?_;refine aU U (dJ (α:=IV) T.sl39 U U uK uJ) ?_;refine fL (z:=y) 3 T.size89 U U U uK uJ U fun h7=>?_;refine bA 7 [] ?_;refine jW 3 (Row 89 (q.set t y) []) U Od ?_;refine dH 7 U (show _=Value.slice (some ⟨b2,0,none⟩) (q.set t y).length N by rw [aJ]) ?_;refine eK ((t+1,G2,q.set t y)) ?_ ?_ U ⟨U,U,U,U,U,U,U,U,I8⟩ ⟨U,U,U,U,I8⟩
     · exact hnext G2 y hle2 (hy _ hz)
     show N - (t+1)<N - t;omega
   refine fM (fst:=[]) (cap:=cp) 20 U hD.1 U U (hD.2 _ hgx _ _ _ _ hxa hxb hsa hsb) (vA I8) fun v2 G2 Ho2 hle2 hp=>?_;obtain ⟨y,rfl,hy,rfl⟩:=hp;replace hc:=hc.up hle2;replace hAa:=hAa.up hle2;replace hAb:=hAb.up hle2;refine dG ?_;refine bO 10 [] [] ?_;refine bO 11 [] [] ?_;refine bO 12 [] [] ?_;refine rB 14 I8 Cl uO U ?_;refine aF 1 [4] ?_;refine dG ?_;refine bO 15 [] [] ?_;refine mU uO I8 Cl ?_;refine rH 5 [] ?_;refine aU U (gF U) ?_;refine aN 9 [0,4] ?_;refine aU U (dJ (α:=IV) T.sl39 U U uK uJ) ?_;refine fL (z:=y) 3 T.size89 U U U uK uJ U fun h7=>?_;refine bA 7 [] ?_;refine jW 3 (Row 89 (q.set t y) []) U Od ?_;refine dH 7 U (show _=Value.slice (some ⟨b2,0,none⟩) (q.set t y).length N by rw [aJ]) ?_;refine eK ((t+1,G2,q.set t y)) ?_ ?_ U ⟨U,U,U,U,U,U,U,U,I8⟩ ⟨U,U,U,U,I8⟩
   · exact hnext G2 y hle2 (hy _ hz)
   show N - (t+1)<N - t;omega
 have htt:t=N:=uJ;subst htt;have hxa:(Vo X t).length=t:=XN X t;have hxv:∀ i:Nat,i<t→(Vo X t)[i]?.getD 0=X i:=fun i hi=>by unfold Vo;rw [bJ,dP hi];rfl
 have hdoi:zP (p.code[(k:Int).toNat]?.getD default) rs=some (Vo X t):=hda _ (by rw [heb.1,hea.1]) (by rw [hxa,hea.1]) (fun i hi=>by rw [hxv i (by rw [hea.1] at hi;exact hi)];exact (hq i (by rw [hea.1] at hi;exact hi)).1);refine dN 12 [0] ?_;refine oG 3 U hor fun G9 hle9 hA=>?_;refine bP ?_;refine gV [1,0,2] [(2,8),(0,8),(1,8)] T.mixed U ?_;refine bO 0 [] [] ?_;refine bO 1 [] [] ?_;refine bO 2 [] [] ?_;refine bO 3 [0] [0] ?_;refine bO 4 [] [] ?_;refine bO 5 [2] [2] ?_;refine bO 6 [] [] ?_;refine eP 7 [] U (dJ (α:=SV) T.sl86 U U uK uJ) ?_;refine fC 8 ?_;refine fL (z:=(⟨some ⟨b2,0,none⟩,q.length,t⟩:SV)) 1 T.size39 U U U uK uJ U fun h7=>?_;refine dG ?_;refine mU uO I8 Cl ?_;refine iN 19 [0,0] ?_;refine cP (.inr U) (Ho:=Hp.only _ [0,1]) U (.tmp U) (aV _ _) ?_;exact .inr ⟨_,⟨some ⟨b2,0,none⟩,q.length,t⟩,hdoi,⟨q,U,by show q.length≤t;omega,hA,by rw [hxa,hqn],fun i hi=>by rw [hxv i uJ];exact (hq i uJ).2.up hle9⟩,U,U⟩
end
theorem kh (G:A3) (a:Option Addr) (c:Nat) (xs:List Int) (hx:Arr G a xs) (hl:xs.length≤1099511627776) :
 Does Tryz.prog 175 [.slice a xs.length c] G [] (fun v G' Ho=>∃ b d j,v=.slice b xs.length d∧A5 b d xs j∧Ho=[(0,b.map (·.block),Row 3 xs j)]∧G'=G):=by
 refine D0 Tryz.func175 Tryz.ntmps175 fun w=>?_;refine aL 9 [] ?_;refine aT (iG T.sl24 U U) ?_;refine bY 2 [] ?_;refine hZ (fun hc1=>?_) fun hc1=>?_;refine cJ 7 [] ?_;rotate_left;refine aL 4 [] ?_;refine sS 0 U T.sl24 fun b1=>?_;refine aF 1 [] ?_;rotate_left
 · subst hc1;have hn:xs=[]:=by
    rcases hx.2 with h | ⟨b,o,h,_⟩
    · exact bS h
    cases h
   subst hn;refine Kr 0 (Row 3 ([]:List Int) []) ?_;refine rT [0] ?_;exact ⟨none,0,[],U,fN,U,U⟩
 refine oF 0 (Row 3 ([]:List Int) []) U U ?_;refine fZ (α:=Int) 0 U T.sl24 T.el3 U U U (kW vL) (mX uK) GX (by simp only [cR,maxLen];omega) fun a1 c1 junk1 ho1=>?_;refine bA 4 [] ?_;refine rT [0] ?_;exact ⟨_,_,_,U,ho1,U,U⟩
theorem kj (G:A3) (a:Option Addr) (c:Nat) (xs:List Sl.Instr) (hx:Arr G a xs) (hl:xs.length≤1099511627776) :
 Does Tryz.prog 174 [.slice a xs.length c] G [] (fun v G' Ho=>∃ b d j,v=.slice b xs.length d∧A5 b d xs j∧Ho=[(0,b.map (·.block),Row 211 xs j)]∧G'=G):=by
 refine D0 Tryz.func174 Tryz.ntmps174 fun w=>?_;refine aL 9 [] ?_;refine aT (iG T.sl23 U U) ?_;refine bY 2 [] ?_;refine hZ (fun hc1=>?_) fun hc1=>?_;refine cJ 7 [] ?_;rotate_left;refine aL 4 [] ?_;refine sS 0 U T.sl23 fun b1=>?_;refine aF 1 [] ?_;rotate_left
 · subst hc1;have hn:xs=[]:=by
    rcases hx.2 with h | ⟨b,o,h,_⟩
    · exact bS h
    cases h
   subst hn;refine Kr 0 (Row 211 ([]:List Sl.Instr) []) ?_;refine rT [0] ?_;exact ⟨none,0,[],U,fN,U,U⟩
 refine oF 0 (Row 211 ([]:List Sl.Instr) []) U U ?_;refine fZ (α:=Sl.Instr) 0 U T.sl23 T.el211 U U U (kW vL) (mX uK) GX (by simp only [cR,maxLen];omega) fun a1 c1 junk1 ho1=>?_;refine bA 4 [] ?_;refine rT [0] ?_;exact ⟨_,_,_,U,ho1,U,U⟩
theorem IX (G:A3) (p:PV) (ac ao:Option Addr) (cc co:Nat) (hc:Arr G ac p.code) (ho:Arr G ao p.outs) (h1:p.code.length≤1099511627776) (h2:p.outs.length≤1099511627776) :
 Does Tryz.prog 125 [.agg (J6 p ac cc ao co)] G [] (fun v G' Ho=>∃ bc bo dc do_ j1 j2,v=.agg #[.int .i64 p.ins,.int .i64 p.regs,.slice bc p.code.length dc,.slice bo p.outs.length do_]∧
  A5 bc dc p.code j1∧A5 bo do_ p.outs j2∧Ho=[(0,bc.map (·.block),Row 211 p.code j1),(1,bo.map (·.block),Row 3 p.outs j2)]∧G'=G):=by
 refine D0 Tryz.func125 Tryz.ntmps125 fun w=>?_;refine aL 2 [] ?_;refine fK 0 fun b1=>?_;refine bB 1 U T.zero26 fun b2=>?_;refine bY 3 [] ?_;refine gK [0,1] [(0,9),(0,7)] T.mixed [[0],[1,0],[3],[4,0]] ?_;refine fC 2 ?_;refine cQ 2 U (kj _ _ _ _ uK uJ) fun v1 G1 Ho1 hle1 hp=>?_;obtain ⟨lb1,ld1,lj1,rfl,hlb1,rfl,rfl⟩:=hp;refine dG ?_;refine gS [[6]] ?_;refine fC 5 ?_;refine cQ 3 U (kh _ _ _ _ uK uJ) fun v2 G2 Ho2 hle2 hp=>?_;obtain ⟨lb2,ld2,lj2,rfl,hlb2,rfl,rfl⟩:=hp;refine eD 7 ?_;refine aF 1 [0] ?_;refine dG ?_;refine gS [[8]] ?_;refine fC 9 ?_;refine aF 1 [0] ?_;refine lC ?_;refine iN 8 [0,1] ?_;refine iY [2,3,1] uR (cP (.inr U) (Ho:=Hp.only _ [0,1]) U (.agg 2 U U T.agg26) (aV _ _) ?_);exact ⟨_,_,_,_,_,_,U,hlb1,hlb2,U,U⟩
theorem ko (G:A3) (p:PV) (ac ao:Option Addr) (cc co:Nat) (hc:Arr G ac p.code) (ho:Arr G ao p.outs) (h1:p.code.length≤1099511627776) (h2:p.outs.length≤1099511627776) :
 Does Tryz.prog 125 [.agg (J6 p ac cc ao co)] G [] (fun v G' Ho=>∃ bc bo dc do_,v=.agg #[.int .i64 p.ins,.int .i64 p.regs,.slice bc p.code.length dc,.slice bo p.outs.length do_]∧Arr G' bc p.code∧Arr G' bo p.outs∧Ho=[]):=
 (IX G p ac ao cc co hc ho h1 h2).frzAll.mono fun v G' Ho _ ⟨G0,Ho0,⟨bc,bo,dc,do_,j1,j2,e,o1,o2,e2,e3⟩,hle,hB,e4⟩=>by
  subst e2;exact ⟨bc,bo,dc,do_,e,qV hB 0 U o1,qV hB 1 U o2,e4⟩
section
attribute [local irreducible] uM pb vJ uZ Ht zP cst wW
theorem uh (G:A3) (p:PV) (ac ao ga:Option Addr) (cc co gc:Nat) (gl:List SV) (gs:List (List Int)) (m N:Nat) (hc:Arr G ac p.code) (ho:Arr G ao p.outs) (hga:Arr G ga gl) (hgg:B5 G gl gs) (hev:C1 m N gs) (hN:N≤4096) (hR:uY p=true) (hgi:(gl.length:Int)=p.ins) :
 Does Tryz.prog 181 [.agg (J6 p ac cc ao co),.slice ga gl.length gc] G []
  (fun v G' Ho=>∃ (b:Nat) (bc bo ro:Option Addr) (dc do_ rd:Nat) (r:List SV) (j:List Value),v=.tuple #[.pointer (some ⟨b,0,none⟩),.int .i64 0]∧Arr G' bc p.code∧Arr G' bo p.outs∧A5 ro rd r j∧B5 G' r (wW p gs)∧r.length=p.regs.toNat∧
   Ho=[(1,some b,.cells #[.int .i64 p.ins,.int .i64 p.regs,.slice bc p.code.length dc,.slice bo p.outs.length do_,.slice ro r.length rd,.int .i64 0] 267),(2,ro.map (·.block),Row 39 r j)]):=by
 obtain ⟨f1,f2,f3,f4,f5,f6,f7,f8⟩:=vW hR;have h1:p.code.length≤1099511627776:=uJ;have h2:p.outs.length≤1099511627776:=uJ;have hgl:=hgg.1;have hcp:(yU p).2=false:=by unfold uY at hR;simpa using hR
 obtain ⟨R,hRR⟩:∃ R:Nat,p.regs=(R:Int):=⟨p.regs.toNat,by omega⟩
 have hM:p.regs.toNat=R:=uJ;have hrl0:=Bg p gs;rw [hM] at hrl0;have hgl0:0<gl.length:=uJ;obtain ⟨h0L,h0B⟩:=hev.at (k:=0) uJ;obtain ⟨l0,e1,e2,e3,e4⟩:=hgg.2 0 uJ;have h0n:(gl[(0:Int).toNat]?.getD default).n=N:=by
  show (gl[0]?.getD default).n=N;rw [←e1,e4.1,h0L]
 have hok:¬(if (yU p).2=true then (80:Int) else 0)≠0:=by rw [hcp];simp
 refine bU Tryz.func181 U Tryz.ntmps181 U fun w=>?_;refine aL 2 [] ?_;refine gU 0 U U U fun b1=>?_;refine aN 7 [0] ?_;refine dC U (aw _ p _ _ _ _ uK uK h1 h2) ?_;refine aN 33 [0,0,0] ?_;refine aU U (jH (α:=SV) T.sl86 U U uK uJ) ?_;refine aU U (cS T.one39 U (gZ uK uJ 0 U U)) ?_;refine aN 7 [0] ?_;refine cQ 1 U (ko _ p _ _ _ _ uK uK h1 h2) fun v1 G1 Ho1 hle1 hp=>?_;obtain ⟨bc,bo,dc,do_,rfl,hbc,hbo,rfl⟩:=hp;replace hc:=hc.up hle1;replace ho:=ho.up hle1;replace hga:=hga.up hle1;replace hgg:=hgg.up hle1;replace e3:=e3.up hle1;replace e4:=e4.up hle1;refine aU U (fY (cs:=[_,_,_,_,_,_]) T.st267 U U U) ?_;refine gU 1 U U U fun b2=>?_;refine bY 12 [] ?_;have hgs0:∀ t:Nat,t<gl.length→(wW p gs)[t]?.getD []=gs[t]?.getD []:=fun t ht=>by rw [Jf uJ,aM (by omega)]
 refine gA 2 (Row 39 ([]:List SV) []) ?_;refine iD 8 U (show _=Value.int .i64 (N:Int) by rw [h0n]) ?_;refine fX (ι:=Nat×A3×List SV×(Option Addr×Nat×List Value)) (fun (i,Gx,r,(o,d,j))=>([(35,.int .i64 (i:Int)),(8,Go.Value.int Go.IntKind.i64 (↑N:Int)),(34,Go.Value.int Go.IntKind.i64 (↑(List.length gl):Int)),(33,Go.Value.slice ga (List.length gl) gc),(9,Go.Value.pointer (Option.some (Go.Addr.mk b2 0 Option.none))),(2,Go.Value.pointer (Option.some (Go.Addr.mk b1 0 Option.none)))],[(1,some b2,.cells #[.int .i64 p.ins,.int .i64 p.regs,.slice bc p.code.length dc,.slice bo p.outs.length do_,.slice o r.length d,.int .i64 0] 267),(2,o.map (·.block),Row 39 r j),(0,Option.some b1,Go.Obj.cells #[Go.Value.int Go.IntKind.i64 p.ins,Go.Value.int Go.IntKind.i64 p.regs,Go.Value.slice ac p.code.length cc,Go.Value.slice ao p.outs.length co] 26)])) (fun (i,Gx,r,(o,d,j))=>Gx) (fun (i,Gx,r,(o,d,j))=>i≤gl.length∧G1.le Gx∧r.length=i∧(∀ t:Nat,t<i→C8 Gx (r[t]?.getD default) ((wW p gs)[t]?.getD []))∧A5 o d r j) (fun (i,Gx,r,(o,d,j))=>gl.length - i) ((0,G1,[],(none,0,[]))) (⟨aS _,cC _,U,fun t ht=>by omega,fN⟩) U ⟨U,U,U,U,U,U,I8⟩ ⟨U,U,U,I8⟩ fun ⟨i,Gx,r,(o,d,j)⟩=>fun hk=>?_;obtain ⟨hi0,hgx,hri,hbr,hor⟩:=hk;replace hga:=hga.up hgx;replace hgg:=hgg.up hgx;rcases aK i gl.length with hig | hig
 · have hgi2:=hgg.2 i hig;obtain ⟨l1,a1,a2,a3,a4⟩:=hgi2;have hkn:(gl[(i:Int).toNat]?.getD default).n=N:=by
    rw [aH,←a1,a4.1];exact (hev.at (k:=i) uJ).1
   have hl1:l1.length=N:=by rw [a1];exact hkn
   refine aL 13 [1] ?_;refine aU U (jH (α:=SV) T.sl86 U U uK uJ) ?_;refine aU U (cS T.one39 U (gZ uK uJ 0 U U)) ?_;refine aN 11 [] ?_;refine pJ 43 U vG ?_;refine bY 10 [0] ?_;refine gV [0,2,1] [(1,11),(2,8)] T.mixed U ?_;refine bO 0 [] [] ?_;refine bO 1 [] [] ?_;refine bO 2 [] [] ?_;refine bO 3 [] [] ?_;refine bO 4 [1] [1] ?_;refine bO 5 [] [] ?_;refine fC 6 ?_;refine jB 52 U (show _=Value.slice (gl[(i:Int).toNat]?.getD default).a l1.length (gl[(i:Int).toNat]?.getD default).c by rw [aH,a1]) ?_;refine cQ 20 U (ci _ _ _ l1 (by rw [aH];exact a3) uJ) fun v1 G2 Ho1 hle2 hp=>?_;obtain ⟨s2,d2,rfl,hA2,hd2,rfl⟩:=hp;refine dG ?_;refine fC 7 ?_;refine eV (α:=SV) 3 [⟨_,_,_⟩] U T.sl86 T.el39 U U U U U fun b3=>?_;refine dG ?_;refine fC 8 ?_;refine fZ (α:=SV) 2 U T.sl86 T.el39 U U U Ei (fP 3 U) yH yH fun a1 c1 junk1 ho1=>?_;refine dG ?_;refine bO 9 [] [] ?_;refine bO 10 [] [] ?_;refine fC 11 ?_;refine aF 1 [1] ?_;refine dG ?_;refine eI ?_;refine iN 6 [] ?_;refine eK ((i+1,G2,r++[⟨s2,l1.length,d2⟩],(a1,c1,junk1))) ?_ ?_ U ⟨U,U,U,U,U,U,I8⟩ ⟨U,U,U,I8⟩
   · refine ⟨by omega,bH hgx hle2,by rw [aI,hri];rfl,Ge (fun t ht=>(hbr t ht).up hle2) hri ?_,ho1⟩;rw [hgs0 i hig];exact ⟨l1,U,hd2,hA2,a4.up hle2⟩
   show gl.length - (i+1)<gl.length - i;omega
 have hii:i=gl.length:=uJ;subst hii;refine dN 14 [0] ?_;refine fX (ι:=Nat×A3×List SV×(Option Addr×Nat×List Value)) (fun (k,Gy,r2,(o2,d2,j2))=>([(8,.int .i64 (N:Int)),(9,Go.Value.pointer (Option.some (Go.Addr.mk b2 0 Option.none))),(2,Go.Value.pointer (Option.some (Go.Addr.mk b1 0 Option.none)))],[(1,some b2,.cells #[.int .i64 p.ins,.int .i64 p.regs,.slice bc p.code.length dc,.slice bo p.outs.length do_,.slice o2 r2.length d2,.int .i64 0] 267),(2,o2.map (·.block),Row 39 r2 j2),(0,Option.some b1,Go.Obj.cells #[Go.Value.int Go.IntKind.i64 p.ins,Go.Value.int Go.IntKind.i64 p.regs,Go.Value.slice ac p.code.length cc,Go.Value.slice ao p.outs.length co] 26)])) (fun (k,Gy,r2,(o2,d2,j2))=>Gy) (fun (k,Gy,r2,(o2,d2,j2))=>k≤R∧gl.length≤k∧Gx.le Gy∧r2.length=k∧(∀ t:Nat,t<k→C8 Gy (r2[t]?.getD default) ((wW p gs)[t]?.getD []))∧A5 o2 d2 r2 j2) (fun (k,Gy,r2,(o2,d2,j2))=>R - k) ((gl.length,Gx,r,(o,d,j))) (⟨by omega,aG _,cC _,hri,hbr,hor⟩) U ⟨U,U,U,I8⟩ ⟨U,U,U,I8⟩ fun ⟨k,Gy,r2,(o2,d2,j2)⟩=>fun hk=>?_;obtain ⟨hkR,hgk,hgy,hrk,hbk,hok2⟩:=hk;rcases aK k R with hkk | hkk
 · refine dN 2 [] ?_;refine gV [0,2,1] [] T.mixed U ?_;refine bO 0 [] [] ?_;refine bO 1 [] [] ?_;refine bO 2 [] [] ?_;refine bO 3 [1] [1] ?_;refine bO 4 [] [] ?_;refine bO 5 [] [] ?_;refine bO 6 [0] [0] ?_;refine bO 7 [] [] ?_;refine eI ?_;refine rI 5 [1] ?_;refine gV [0,2,1] [(1,11),(2,8)] T.mixed U ?_;refine bO 0 [] [] ?_;refine bO 1 [] [] ?_;refine bO 2 [] [] ?_;refine bO 3 [] [] ?_;refine bO 4 [1] [1] ?_;refine bO 5 [] [] ?_;refine fC 6 ?_;refine jL (α:=IV) 3 U T.sl39 T.el89 U U uJ uJ fun b3=>?_;refine dG ?_;refine fC 7 ?_;refine eV (α:=SV) 4 [⟨_,_,_⟩] U T.sl86 T.el39 U U U U U fun b4=>?_;refine dG ?_;refine fC 8 ?_;refine fZ (α:=SV) 2 U T.sl86 T.el39 U U U Ei (fP 4 U) yH yH fun a1 c1 junk1 ho1=>?_;refine dG ?_;refine bO 9 [] [] ?_;refine bO 10 [] [] ?_;refine fC 11 ?_;refine aF 1 [1] ?_;refine dG ?_;refine eI ?_;refine iN 1 [] ?_;have ho3:A5 (some ⟨b3,0,none⟩) (List.replicate (N:Int).toNat (default:IV)).length (List.replicate (N:Int).toNat (default:IV)) []:=.inr ⟨b3,U,by rw [aC];rfl,aG _,by rw [aC];simp only [maxLen];omega⟩;refine dX 3 U ho3 fun G3 hle3 hA3=>?_;refine eK ((k+1,G3,r2++[⟨some ⟨b3,0,none⟩,(List.replicate (N:Int).toNat (default:IV)).length,(List.replicate (N:Int).toNat (default:IV)).length⟩],(a1,c1,junk1))) ?_ ?_ U ⟨U,U,U,I8⟩ ⟨U,U,U,I8⟩
   · refine ⟨by omega,by omega,bH hgy hle3,by rw [aI,hrk];rfl,Ge (fun t ht=>(hbk t ht).up hle3) hrk ?_,ho1⟩;rw [Jf uJ,aE (by omega),h0L];exact ⟨_,U,aG _,hA3,pC _ _⟩
   show R - (k+1)<R - k;omega
 have hkk2:k=R:=uJ;subst hkk2;refine dN 2 [] ?_;refine gV [0,2,1] [] T.mixed U ?_;refine bO 0 [] [] ?_;refine bO 1 [] [] ?_;refine bO 2 [] [] ?_;refine bO 3 [1] [1] ?_;refine bO 4 [] [] ?_;refine bO 5 [] [] ?_;refine bO 6 [0] [0] ?_;refine bO 7 [] [] ?_;refine eI ?_;refine iN 15 [0] ?_;refine jZ (.inr U) (Ho:=Hp.only _ [1,2]) U (.tmp U) (.tmp U) (aV _ _) ?_;exact ⟨b2,bc,bo,o2,dc,do_,d2,r2,j2,U,(hbc.up hgx).up hgy,(hbo.up hgx).up hgy,hok2,⟨by rw [hrl0];exact hrk,fun t ht=>hbk t uJ⟩,by omega,U⟩
end
theorem FQ (p:PV) (gs:List (List Int)):zG p gs 0=some (wW p gs):=rfl
section
attribute [local irreducible] uM pb vJ uZ Ht zP cst wW xE zG
section
variable {P:Program} {e:B0} {H:Hp} {G:A3} {ty:TypeId}
theorem FR {t t':TypeId} {x y:Operand} {a:Option Addr} (ht:Yc P t=true) (hx:e.ev x=some (.pointer a)) (hy:e.ev y=some (.pointer none)):Qy P (.binOp .neq t x y t') ty e H G (.bool (decide (¬a=none))):=fun w0 w _ _ _ _ hh=>by
 have h:=Br (a:=a) ht 9999 w;simp [execOp,hh.eval hx,hh.eval hy,binOp,eqGuard,Op.equal,Op.maxDepth,h]
end
theorem ui (G:A3) (bm:Nat) (p:PV) (ac ao ro:Option Addr) (cc co rd:Nat) (r:List SV) :
 Does Tryz.prog 224 [.pointer (some ⟨bm,0,none⟩)] G [(0,some bm,.cells #[.int .i64 p.ins,.int .i64 p.regs,.slice ac p.code.length cc,.slice ao p.outs.length co,.slice ro r.length rd,.int .i64 ((p.code.length:Nat):Int)] 267)]
  (fun v G' Ho=>v=.bool true∧G'=G∧Ho=[(0,some bm,.cells #[.int .i64 p.ins,.int .i64 p.regs,.slice ac p.code.length cc,.slice ao p.outs.length co,.slice ro r.length rd,.int .i64 ((p.code.length:Nat):Int)] 267)]):=by
 have hnn:¬(some (⟨bm,0,none⟩:Addr)=none):=fun h=>xY;refine bU Tryz.func224 U Tryz.ntmps224 U fun w=>?_;refine dN 6 [] ?_;refine gV [0] [] T.mixed U ?_;refine bO 0 [] [] ?_;refine eP 1 [] U (FR uO U U) ?_;refine bO 2 [] [] ?_;refine DT 4 U hnn ?_;refine DT 5 U vG ?_;refine nR 3 [] uO U U U U (cT U) ?_;refine nR 4 [] uO U U U U (sC U) ?_;refine nR 5 [] uO U U U U (iV T.fa267_2 U) ?_;refine nR 6 [0] uO U U U U (oH 0 T.one3 U U U) ?_;refine nR 7 [] uO U U U U (cT U) ?_;refine nR 8 [] uO U U U U (sC U) ?_;refine nR 9 [] uO U U U U (iV T.fa267_0 U) ?_;refine nR 10 [] uO U U U U (iV T.fa26_2 U) ?_;refine nR 11 [0] uO U U U U (oH 0 T.one23 U U U) ?_;refine nR 12 [] uO U U U U (pP T.sl23 U) ?_;refine nR 13 [] uO U U U U (uB U U) ?_;refine bO 14 [] [] ?_;refine bO 15 [] [] ?_;refine eI ?_;refine iN 2 [] ?_;refine cP (.inr U) (Ho:=Hp.only _ [0]) U (.tmp U) (aV _ _) ?_;exact ⟨by rw [cX rfl],U,U⟩
theorem uj (G:A3) (bm:Nat) (p:PV) (ac ao ro:Option Addr) (cc co rd:Nat) (r:List SV) (j:List Value) (rs:List (List Int)) (m N:Nat) (ho:Arr G ao p.outs) (hob:A5 ro rd r j) (hg:B5 G r rs) (hm:C1 m N rs) (hN:N≤1048576) (hR:uY p=true) (hr:r.length=p.regs.toNat) :
 Does Tryz.prog 183 [.pointer (some ⟨bm,0,none⟩)] G [(0,some bm,.cells #[.int .i64 p.ins,.int .i64 p.regs,.slice ac p.code.length cc,.slice ao p.outs.length co,.slice ro r.length rd,.int .i64 ((p.code.length:Nat):Int)] 267),(1,ro.map (·.block),Row 39 r j)]
  (fun v G' Ho=>∃ (o:Option Addr) (q:List SV) (d:Nat),v=.tuple #[.slice o q.length d,.int .i64 0]∧Arr G' o q∧q.length≤d∧B5 G' q (xE p rs)∧Ho=[(0,some bm,.cells #[.int .i64 p.ins,.int .i64 p.regs,.slice ac p.code.length cc,.slice ao p.outs.length co,.slice ro r.length rd,.int .i64 ((p.code.length:Nat):Int)] 267),(1,ro.map (·.block),Row 39 r j)]):=by
 obtain ⟨f1,f2,f3,f4,f5,f6,f7,f8⟩:=vW hR;have hgl:=hg.1;refine bU Tryz.func183 U Tryz.ntmps183 U fun w=>?_;refine gA 4 (Row 39 ([]:List SV) []) ?_;refine aL 11 [] ?_;refine aU U (Qy.eqlPtrNil uO U U) ?_;refine bY 3 [] ?_;refine jF U (fun hc1=>?_) fun hc1=>?_;refine cJ 9 [] ?_;rotate_left;refine aL 3 [] ?_;rotate_left
 · cases hc1
 refine cQ 0 U (ui _ bm p ac ao ro cc co rd r) fun v1 G1 Ho1 hle1 hp=>?_;obtain ⟨rfl,rfl,rfl⟩:=hp;refine bY 26 [0,0] ?_;refine fX (ι:=Nat×A3×List SV×(Option Addr×Nat×List Value)) (fun (i,Gx,q,(o,d,j2))=>([(20,.int .i64 (i:Int)),(4,.slice o q.length d),(19,Go.Value.int Go.IntKind.i64 (↑p.outs.length:Int)),(18,Go.Value.slice ao p.outs.length co),(3,Go.Value.int Go.IntKind.i64 0),(2,Go.Value.slice Option.none 0 0),(0,Go.Value.pointer (Option.some (Go.Addr.mk bm 0 Option.none)))],[(4,o.map (·.block),Row 39 q j2),(0,Option.some bm,Go.Obj.cells #[Go.Value.int Go.IntKind.i64 p.ins,Go.Value.int Go.IntKind.i64 p.regs,Go.Value.slice ac p.code.length cc,Go.Value.slice ao p.outs.length co,Go.Value.slice ro (List.length r) rd,Go.Value.int Go.IntKind.i64 (↑p.code.length:Int)] 267),(1,Option.map (fun x=>Go.Addr.block x) ro,Go.Sl.Row (α:=Go.Sl.SV) 39 (r) (j))])) (fun (i,Gx,q,(o,d,j2))=>Gx) (fun (i,Gx,q,(o,d,j2))=>i≤p.outs.length∧G1.le Gx∧q.length=i∧(∀ t:Nat,t<i→C8 Gx (q[t]?.getD default) ((xE p rs)[t]?.getD []))∧A5 o d q j2) (fun (i,Gx,q,(o,d,j2))=>p.outs.length - i) ((0,G1,[],(none,0,[]))) (⟨aS _,cC _,U,fun t ht=>by omega,fN⟩) U ⟨U,U,U,U,U,U,U,I8⟩ ⟨U,U,U,I8⟩ fun ⟨i,Gx,q,(o,d,j2)⟩=>fun hk=>?_;obtain ⟨hi0,hgx,hqi,hbq,hoq⟩:=hk;replace ho:=ho.up hgx;rcases aK i p.outs.length with hio | hio
 · have hmem:p.outs[(i:Int).toNat]?.getD default∈p.outs:=by
    rw [aH,aA hio];exact dY hio
   have hrg:=f7 _ hmem;obtain ⟨l1,a1,a2,a3,a4⟩:=hg.2 (p.outs[(i:Int).toNat]?.getD default).toNat uJ;have hN1:=(hm.at (k:=(p.outs[(i:Int).toNat]?.getD default).toNat) uJ).1;have hl1:l1.length=N:=by rw [a4.1,hN1]
   refine aL 13 [1] ?_;refine aU U (jH (α:=Int) T.sl24 U U uK uJ) ?_;refine aU U (cS T.one3 U (gZ uK uJ 0 U U)) ?_;refine aN 10 [0] ?_;refine aU U (dJ (α:=SV) T.sl86 U U uK uJ) ?_;refine aU U (nI 1 0 T.one39 U U uK uJ U U) ?_;refine jB 31 U (show _=Value.slice (r[(p.outs[(i:Int).toNat]?.getD default).toNat]?.getD default).a l1.length (r[(p.outs[(i:Int).toNat]?.getD default).toNat]?.getD default).c by rw [a1]) ?_;refine cQ 20 U (ci _ _ _ l1 (a3.up hgx) uJ) fun v1 G2 Ho1 hle2 hp=>?_;obtain ⟨s2,d2,rfl,hA2,hd2,rfl⟩:=hp;refine eV (α:=SV) 5 [⟨_,_,_⟩] U T.sl86 T.el39 U U U U U fun b1=>?_;refine fZ (α:=SV) 4 U T.sl86 T.el39 U U U Ei (fP 5 U) yH yH fun a1 c1 junk1 ho1=>?_;refine bA 8 [] ?_;refine eK ((i+1,G2,q++[⟨s2,l1.length,d2⟩],(a1,c1,junk1))) ?_ ?_ U ⟨U,U,U,U,U,U,U,I8⟩ ⟨U,U,U,I8⟩
   · refine ⟨by omega,bH hgx hle2,by rw [aI,hqi];rfl,Ge (fun t ht=>(hbq t ht).up hle2) hqi ?_,ho1⟩;rw [IT hio];exact ⟨l1,U,hd2,hA2,a4.up (bH hgx hle2)⟩
   show p.outs.length - (i+1)<p.outs.length - i;omega
 have hii:i=p.outs.length:=uJ;subst hii;have hqd:=hoq.le;refine cJ 20 [0] ?_;refine dX 4 U hoq fun G8 hle8 hA=>?_;refine jZ (.inr U) (Ho:=Hp.only _ [0,1]) U (.tmp U) (.tmp U) (aV _ _) ?_;have hol:(xE p rs).length=p.outs.length:=by unfold xE;rw [aW]
 exact ⟨o,q,d,U,hA,hqd,⟨by omega,fun t ht=>(hbq t uJ).up hle8⟩,U⟩
theorem XZ {α:Type} [A2 α] {a:Option Addr} {c:Nat} {xs:List α} {junk:List Value} (h:A5 a c xs junk) (k:Nat) (z:α):A5 a c (xs.set k z) junk:=by
 rcases h with ⟨h1,h2,h3,h4⟩ | ⟨b,h1,h2,h3,h4⟩
 · subst h2;exact .inl ⟨h1,U,h3,h4⟩
 exact .inr ⟨b,h1,by rw [aJ];exact h2,by rw [aJ];exact h3,h4⟩
def cu (p:PV) (gs:List (List Int)) (m N:Nat) (v:Value) (G':A3) (Ho:Hp):Prop:=
 Ho=[]∧((∃ (os:List (List Int)) (o:Option Addr) (q:List SV) (d:Nat),vH p gs=some os∧v=.tuple #[.slice o q.length d,.int .i64 ((p.code.length:Nat):Int),.int .i64 0]∧Arr G' o q∧q.length≤d∧B5 G' q os∧C1 (m+3*p.code.length) N os)
  ∨(vH p gs=none∧∃ k:Int,v=.tuple #[.slice none 0 0,.int .i64 k,.int .i64 20]))
theorem de (G:A3) (hT:C6 G) (p:PV) (ac ao ga:Option Addr) (cc co gc:Nat) (gl:List SV) (gs:List (List Int)) (m N:Nat) (hc:Arr G ac p.code) (ho:Arr G ao p.outs) (hga:Arr G ga gl) (hgg:B5 G gl gs) (hev:C1 m N gs) (hmm:m≤1048576) (hN:N≤4096) (hR:uY p=true) (hgi:(gl.length:Int)=p.ins) :
 Does Tryz.prog 141 [.agg (J6 p ac cc ao co),.slice ga gl.length gc] G [] (cu p gs m N):=by
 obtain ⟨f1,f2,f3,f4,f5,f6,f7,f8⟩:=vW hR;obtain ⟨R,hRR⟩:∃ R:Nat,p.regs=(R:Int):=⟨p.regs.toNat,by omega⟩
 refine bU Tryz.func141 U Tryz.ntmps141 U fun w=>?_;refine aL 2 [] ?_;refine gU 0 U U U fun b1=>?_;refine bY 5 [] ?_;refine Wc.scope ?_;refine aL 4 [0] ?_;refine cQ 1 U (uh _ p ac ao ga cc co gc gl gs m N uK uK uK uK hev hN hR hgi) fun v1 G1 Ho1 hle1 hp=>?_;obtain ⟨b9,bc,bo,ro,dc,do_,rd,r0,j,rfl,hbc,hbo,hob,hg0,hr0,rfl⟩:=hp;replace hc:=hc.up hle1;replace ho:=ho.up hle1;replace hga:=hga.up hle1;replace hgg:=hgg.up hle1;refine bY 22 [0] ?_;have hrl0:=Bg p gs;have hm0:C1 m N (wW p gs):=fun zs hz=>by
  unfold wW at hz;obtain ⟨k,hk,rfl⟩:=cV.1 hz;have hgl:=hgg.1;have hN9:=(hev.at (k:=0) uJ).1;split
  · exact hev.at (k:=k) uJ
  rw [hN9];exact ⟨aC,Mu m _⟩
 refine fX (ι:=Nat×A3×List SV×List (List Int)) (fun (i,Gx,r2,rs)=>([(7,.pointer (some ⟨b9,0,none⟩)),(8,Go.Value.int Go.IntKind.i64 0)],[(2,some b9,.cells #[.int .i64 p.ins,.int .i64 p.regs,.slice bc p.code.length dc,.slice bo p.outs.length do_,.slice ro r2.length rd,.int .i64 (i:Int)] 267),(3,ro.map (·.block),Row 39 r2 j),(0,Option.some b1,Go.Obj.cells #[Go.Value.int Go.IntKind.i64 p.ins,Go.Value.int Go.IntKind.i64 p.regs,Go.Value.slice ac p.code.length cc,Go.Value.slice ao p.outs.length co] 26)])) (fun (i,Gx,r2,rs)=>Gx) (fun (i,Gx,r2,rs)=>i≤p.code.length∧G1.le Gx∧r2.length=p.regs.toNat∧A5 ro rd r2 j∧B5 Gx r2 rs∧C1 (m+3*i) N rs∧zG p gs i=some rs) (fun (i,Gx,r2,rs)=>p.code.length - i) ((0,G1,r0,wW p gs)) (⟨aS _,cC _,hr0,hob,hg0,hm0,FQ _ _⟩) U ⟨U,U,I8⟩ ⟨U,U,U,I8⟩ fun ⟨i,Gx,r2,rs⟩=>fun hk=>?_;obtain ⟨hi0,hgx,hr2,ho2,hg2,hb2,hrun⟩:=hk;have hT2:C6 Gx:=hT.up (bH hle1 hgx);replace hbc:=hbc.up hgx;replace hbo:=hbo.up hgx;have hrl:=hg2.1;rcases aK i p.code.length with hic | hic
 · have hmem:(p.code[(i:Int).toNat]?.getD default)∈p.code:=by
    rw [aH,aA hic];exact dY hic
   have hmi:=f8 _ hmem;refine aL 4 [] ?_;refine cQ 2 U (ug Gx hT2 b9 p bc bo ro dc do_ rd i r2 j rs (m+3*i) N hbc ho2 hg2 hb2 uJ uJ hic f4 uJ hmi) fun v2 G2 Ho2 hle2 hp=>?_;rcases hp with ⟨hno,rfl,rfl⟩ | ⟨x,s9,hsome,hx9,rfl,rfl⟩
   · refine bY 11 [1] ?_;refine gV [0,3,2] [] T.mixed U ?_;refine bO 0 [] [] ?_;refine bO 1 [] [] ?_;refine bO 2 [] [] ?_;refine bO 3 [2] [2] ?_;refine bO 4 [] [] ?_;refine bO 5 [] [] ?_;refine bO 6 [] [] ?_;refine eI ?_;refine iN 7 [] ?_;refine oE ?_;refine sR ?_;exact ⟨U,.inr ⟨Pm hrun hno hic,_,U⟩⟩
   refine bA 20 [0,0] ?_;have hk3:=Fy hmi;obtain ⟨m1,m2,m3,m4,m5,m6,m7,m8⟩:=hk3;have hbz:(p.code[(i:Int).toNat]?.getD default).op=3∨(p.code[(i:Int).toNat]?.getD default).op=4∨(p.code[(i:Int).toNat]?.getD default).b=0:=by
    unfold yM at hmi;rw [aB,aB,aY] at hmi;exact hmi.1.1.2.2.2.2
   have mb:0≤(p.code[(i:Int).toNat]?.getD default).b∧(p.code[(i:Int).toNat]?.getD default).b<r2.length:=by
    rcases hbz with h | h | h
    · have:=m4 (.inl h);omega
    · have:=m4 (.inr h);omega
    omega
   have mt:0≤(p.code[(i:Int).toNat]?.getD default).to∧(p.code[(i:Int).toNat]?.getD default).to<r2.length:=uJ;have ma:0≤(p.code[(i:Int).toNat]?.getD default).a∧(p.code[(i:Int).toNat]?.getD default).a<r2.length:=uJ;have hs:=Vp (i:=p.code[(i:Int).toNat]?.getD default) hb2 (by rw [←hrl];exact ma) (fun _=>by rw [←hrl];exact mb) (fun h=>jJ (m6 (fun e=>by rw [e] at h;omega) (fun e=>by rw [e] at h;omega) (fun e=>by rw [e] at h;omega) (fun e=>by rw [e] at h;omega)).2 HX) hsome;refine jW 2 (.cells #[.int .i64 p.ins,.int .i64 p.regs,.slice bc p.code.length dc,.slice bo p.outs.length do_,.slice ro (r2.set (p.code[(i:Int).toNat]?.getD default).to.toNat s9).length rd,.int .i64 ((i+1:Nat):Int)] 267) U (by rw [aJ];rfl) ?_;refine eK ((i+1,G2,r2.set (p.code[(i:Int).toNat]?.getD default).to.toNat s9,rs.set (p.code[(i:Int).toNat]?.getD default).to.toNat x)) ?_ ?_ U ⟨U,U,I8⟩ ⟨U,U,U,I8⟩
   · refine ⟨by omega,bH hgx hle2,by rw [aJ];exact hr2,XZ ho2 _ _,(hg2.up hle2).set hx9 _,?_,Hc (x:=rs) hrun hsome⟩;rw [show m+3*(i+1)=m+3*i+3 by omega];exact Vq (hb2.mono uJ) hs _
   show p.code.length - (i+1)<p.code.length - i;omega
 have hii:i=p.code.length:=uJ;subst hii;have hfol:vH p gs=some (xE p rs):=by unfold vH;rw [hrun];rfl
 refine aL 4 [] ?_;refine cQ 2 U (kg Gx b9 p bc bo ro dc do_ r2.length rd) fun v2 G2 Ho2 hle2 hp=>?_;obtain ⟨rfl,rfl,rfl⟩:=hp;refine aN 26 [0,1] ?_;refine cQ 2 U (uj _ b9 p bc bo ro dc do_ rd r2 j rs _ N hbo ho2 hg2 hb2 uJ hR hr2) fun v2 G3 Ho2 hle3 hp=>?_;obtain ⟨o3,q3,d3,rfl,hA3,hd3,hg3,rfl⟩:=hp;refine bY 8 [] ?_;refine gV [0,3,2] [] T.mixed U ?_;refine bO 0 [] [] ?_;refine bO 1 [] [] ?_;refine bO 2 [] [] ?_;refine bO 3 [] [] ?_;refine bO 4 [2] [2] ?_;refine bO 5 [] [] ?_;refine bO 6 [] [] ?_;refine bO 7 [] [] ?_;refine bO 8 [] [] ?_;refine eI ?_;refine iN 2 [] ?_;refine oE ?_;refine sR ?_;refine ⟨U,.inl ⟨xE p rs,o3,q3,d3,hfol,U,hA3,hd3,hg3,fun zs hz=>?_⟩⟩;unfold xE at hz;obtain ⟨x,hx,rfl⟩:=cV.1 hz;have hx7:=f7 x hx;exact hb2.at (k:=x.toNat) uJ
end
end Go.Proofs.YtngphgeghfdjbaaGreatDoor
namespace Go.Sl
open Go
section
variable {P:Program} {ops:Array Oper} {rest:List Oper} {B:Bs} {e:B0} {D:List Deferred} {H:Hp} {G:A3} {K:Act→World→Prop}
 {ty:TypeId} {pos:String} {after:Array Edge} {d:Nat} {α:Type} [A2 α]
theorem CG {w:World} (hw:B6 H G w) {T T2 E:Nat} (hT:uX P T E (A2.sz α)) {t b:Nat} {ad:Option Addr} {c c2:Nat} {xs ys:List α} {junk:List Value}
 (ht:H.get t=some (some b,Row E xs junk)) (hsrc:Src H G ad ys) (hle:xs.length≤ys.length) :
 ∃ w',(Builtin.copy_ #[T,T2] ty #[.slice (some ⟨b,0,none⟩) xs.length c,.slice ad ys.length c2]).run P w=.ok (.int .i64 (xs.length:Int)) w'∧D2 (·=b) w w'∧w'.heap[b]?=some (Row E (ys.take xs.length) junk):=by
 have hb:=hw.own t b _ ht;have hmin:Nat.min ys.length xs.length=xs.length:=Nat.min_eq_right hle;cases hq:P.info? E with
 | none=>have:=hT.2;simp [hq] at this
 | some i =>
   have hi:i.size=A2.sz α:=by have:=hT.2;simpa [hq] using this
   have hlt:(ys.take xs.length).length=xs.length:=by rw [bI,dE hle]
   rcases hsrc w hw with ⟨rfl,rfl⟩ | ⟨src,rfl,hsr⟩
   · have hx0:xs=[]:=bS (by simpa using hle);subst hx0;refine ⟨w,?_,lE _ _,by simpa using hb⟩;simp [Builtin.copy_,aQ hT.1,Builtin.lenOf,Builtin.firstCells,sizeOf,typeInfo,hq,storeCells,goInt]
   have hsplit0:uT ys=uT (ys.take xs.length)++uT (ys.drop xs.length):=by rw [←wB,dF]
   have hl:=kI (P:=P) w src (uT (ys.take xs.length)) (fun j v hj=>hsr j v (by rw [hsplit0,bC (aR.1 hj).1];exact hj));have hfy:(uT (ys.take xs.length)).length=xs.length*A2.sz α:=by rw [uV,hlt]
   have hfx:(uT xs).length=xs.length*A2.sz α:=uV xs;have hfit:0+0+(uT (ys.take xs.length)).length≤((uT xs++junk).toArray).size:=by
    rw [oL,aI];omega
   have hst:=mF P b 0 E (uT (ys.take xs.length)) 0 (uT xs++junk).toArray w hb hfit (fun v hv=>eT.1 (Ii _) v hv);refine ⟨_,?_,wR w b (((uT xs++junk).toArray.toList.take (0+0)++uT (ys.take xs.length)++(uT xs++junk).toArray.toList.drop (0+0+(uT (ys.take xs.length)).length)).toArray),?_⟩
   · rw [hfy] at hl;simp [Builtin.copy_,aQ hT.1,Builtin.lenOf,Builtin.firstCells,sizeOf,typeInfo,hq,hi,hmin,hl,hst,goInt]
   rw [mK w b _ _ E _ hb];unfold Row;simp only [fQ,cF,bX,gI];rw [hfy,←hfx,List.drop_left]
theorem FS {x y:Operand} {T T2 E b:Nat} {ad:Option Addr} {c c2:Nat} {xs ys:List α} {junk:List Value} (t:Nat) (hn:Nat.ble (d+1) B.n=true) (hT:uX P T E (A2.sz α))
 (hx:e.ev x=some (.slice (some ⟨b,0,none⟩) xs.length c)) (hy:e.ev y=some (.slice ad ys.length c2)) (ht:H.get t=some (some b,Row E xs junk)) (hsrc:Src H G ad ys) (hle:xs.length≤ys.length)
 (h:Wl P ops rest B ⟨(d,.int .i64 (xs.length:Int)) :: e,D,(t,some b,Row E (ys.take xs.length) junk) :: H,G⟩ K) :
 Wl P ops (⟨some d,.call { callee:=.builtin .copy,args:=#[x,y],argTypes:=#[T,T2] },ty,pos,after,none⟩ :: rest) B ⟨e,D,H,G⟩ K:=by
 refine rC (v:=.int .i64 (xs.length:Int)) (x:=.value (.int .i64 (xs.length:Int))) ht (.inr ⟨U,d,U,hn⟩) (fun a w hh=>?_) h;obtain ⟨w',hrun,hu,hb⟩:=CG (c:=c) (c2:=c2) (T2:=T2) (ty:=ty) hh.mem hT ht hsrc hle;refine ⟨w',?_,hu,hb⟩;simp only [execOp,resolve,invoke,builtin,bL,bR,aO,kH,cA,jO,hh.eval hx,hh.eval hy,hrun]
end
end Go.Sl
namespace Go.Proofs.YtngphgeghfdjbaaGreatDoor
open Go Go.Sl
theorem YA {xs:List Int} {m i t:Nat} (h:t<m):(zQ xs m i)[t]?.getD 0=xs[i*m+t]?.getD 0:=by
 unfold zQ;rw [bJ,dP h];rfl
theorem Vs {G:A3} {la l:List IV} {xs:List Int} {m i:Nat} (hA:A8 G la xs) (hl:l.length=m) (h:∀ t:Nat,t<m→l[t]?.getD default=la[i*m+t]?.getD default):A8 G l (zQ xs m i):=by
 refine ⟨by rw [Lq];exact hl,fun t ht=>?_⟩;rw [YA uJ,h t uJ];rcases aK (i*m+t) la.length with hh | hh
 · exact hA.2 _ hh
 rw [bF hh,bF (by rw [←hA.1];exact hh)];exact B9.zero G
theorem FT {la:List IV} {m i t:Nat} (hr:(la.drop (i*m)).length≤m) (ht:t<m):(la.drop (i*m)++(List.replicate m (default:IV)).drop (la.drop (i*m)).length)[t]?.getD default=la[i*m+t]?.getD default:=by
 rcases aK t (la.drop (i*m)).length with h | h
 · rw [bC h,eW]
 rw [cD h,List.drop_replicate,bF (l:=la) (by rw [cE] at h;omega)];cases he:(List.replicate (m - (la.drop (i*m)).length) (default:IV))[t - (la.drop (i*m)).length]? with
 | none=>rfl
 | some v =>
   have:=iH (iR he);rw [this];rfl
theorem MR {la:List IV} {m i t:Nat} (ht:t<m):((la.drop (i*m)).take m)[t]?.getD default=la[i*m+t]?.getD default:=by
 rw [fO,aM ht,eW]
section
attribute [local irreducible] uM pb vJ uZ zQ
theorem kp (G:A3) (a:Option Addr) (ca:Nat) (la:List IV) (xs:List Int) (k m:Nat) (ha:Arr G a la) (hA:A8 G la xs) (hca:la.length≤ca) (hk1:1≤k) (hk8:k≤8) (hm1:1≤m) (hm:m≤4096) (h1:xs.length≤4096) (hkm:xs.length≤k*m) :
 Does Tryz.prog 140 [.slice a la.length ca,.int .i64 (k:Int),.int .i64 (m:Int)] G [] (fun v G' Ho=>∃ (o:Option Addr) (q:List SV) (d:Nat),v=.tuple #[.slice o q.length d,.int .i64 0]∧Arr G' o q∧q.length≤d∧B5 G' q (yQ xs k m)∧Ho=[]):=by
 have e1:=hA.1;have hkm2:k*m≤8*4096:=gQ hk8 hm;have hkm3:¬((k:Int)*(m:Int)<(la.length:Int)):=by
  have:((k*m:Nat):Int)=(k:Int)*(m:Int):=dS k m;omega
 have hkm4:-9223372036854775808≤(k:Int)*(m:Int)∧(k:Int)*(m:Int)≤9223372036854775807:=by
  have:((k*m:Nat):Int)=(k:Int)*(m:Int):=dS k m;omega
 refine bU Tryz.func140 U Tryz.ntmps140 U fun w=>?_;refine gA 8 (Row 39 ([]:List SV) []) ?_;refine aL 13 [] ?_;refine pJ 14 U vG ?_;refine aF 6 [] ?_;refine pJ 18 U vG ?_;refine aF 6 [] ?_;refine pJ 22 U vG ?_;refine aN 22 [0,0] ?_;refine aU U (qZ U U uJ) ?_;refine bY 23 [0] ?_;refine fX (ι:=Nat×A3×List SV×(Option Addr×Nat×List Value)×(Option Addr×Nat×List IV)) (fun (i,Gx,q,(o,d,j),(ad,cp,rest))=>([(38,.int .i64 (i:Int)),(8,.slice o q.length d),(0,.slice ad rest.length cp),(37,Go.Value.int Go.IntKind.i64 (↑k:Int)),(7,Go.Value.int Go.IntKind.i64 0),(6,Go.Value.slice Option.none 0 0),(2,Go.Value.int Go.IntKind.i64 (↑m:Int))],[(8,o.map (·.block),Row 39 q j)])) (fun (i,Gx,q,(o,d,j),(ad,cp,rest))=>Gx) (fun (i,Gx,q,(o,d,j),(ad,cp,rest))=>i≤k∧G.le Gx∧q.length=i∧(∀ t:Nat,t<i→C8 Gx (q[t]?.getD default) (zQ xs m t))∧A5 o d q j∧Arr Gx ad rest∧rest=la.drop (i*m)∧rest.length≤cp) (fun (i,Gx,q,(o,d,j),(ad,cp,rest))=>k - i) ((0,G,[],(none,0,[]),(a,ca,la))) (⟨aS _,cC _,U,fun t ht=>by omega,fN,ha,by rw [jN,kN],hca⟩) U ⟨U,U,U,U,U,U,U,I8⟩ ⟨U,I8⟩ fun ⟨i,Gx,q,(o,d,j),(ad,cp,rest)⟩=>fun hk=>?_;obtain ⟨hi0,hgx,hqi,hbq,hoq,hAr,hrest,hcp⟩:=hk;replace hA:=hA.up hgx;have hrl:rest.length≤4096:=by rw [hrest,cE];omega
 rcases aK i k with hik | hik
 · refine aL 14 [1] ?_;refine jL (α:=IV) 9 U T.sl39 T.el89 U U uJ uJ fun b1=>?_;refine bY 3 [] ?_;refine iD 9 U (show _=Value.slice (some ⟨b1,0,none⟩) (List.replicate m (default:IV)).length m by rw [aC,aC,aH]) ?_;refine rZ 9 (Row 89 (List.replicate m (default:IV)) []) U U ?_;rcases aK m rest.length with hrm | hrm
   · refine aL 4 [] ?_;refine FS (α:=IV) 9 U T.sl39 U U U (mX hAr) Oc ?_;refine oF 9 (Row 89 (rest.take m) []) U (by rw [aC]) ?_;refine bY 3 [] ?_;obtain ⟨l9,hl9⟩:∃ l9,l9=(rest.take m):=⟨_,U⟩
     have hl9n:l9.length=m:=by rw [hl9];exact (by rw [bI];omega)
     have hl9B:A8 Gx l9 (zQ xs m i):=Vs hA hl9n (by rw [hl9];exact fun t ht=>by rw [hrest];exact MR ht);have ho9:A5 (some ⟨b1,0,none⟩) m l9 []:=.inr ⟨b1,U,by rw [hl9n];rfl,by rw [hl9n];exact aG _,by simp only [maxLen];omega⟩;refine rZ 9 (Row 89 l9 []) U (by rw [hl9]) ?_;refine oG 9 U ho9 fun G8 hle8 hA8=>?_;refine iD 9 U (show _=Value.slice (some ⟨b1,0,none⟩) m m by rw [aC]) ?_;refine iD 10 U (show _=Value.int .i64 (m:Int) by rw [aC]) ?_;refine aL 4 [] ?_;refine aU U (Qy.cutL T.sl39 U U uJ uJ) ?_;refine aN 6 [] ?_;refine eV (α:=SV) 10 [⟨_,_,_⟩] U T.sl86 T.el39 U U U U U fun b2=>?_;refine fZ (α:=SV) 8 U T.sl86 T.el39 U U U Ei (fP 10 U) yH yH fun a1 c1 junk1 ho1=>?_;refine bA 8 [] ?_;have hnew:la.drop ((i+1)*m)=rest.drop m:=Eq.symm (by rw [hrest,qJ,eB,oD]);refine dH 0 U (show _=Value.slice (C4 ad cp m 2) (rest.drop m).length (cp - m) by rw [cE];rfl) ?_;refine eK ((i+1,G8,q++[⟨some ⟨b1,0,none⟩,m,m⟩],(a1,c1,junk1),(C4 ad cp m 2,cp - m,rest.drop m))) ?_ ?_ U ⟨U,U,U,U,U,U,U,I8⟩ ⟨U,I8⟩
     · refine ⟨by omega,bH hgx hle8,by rw [aI,hqi];rfl,fun t ht=>?_,ho1,Xy (α:=IV) (hAr.up hle8) m uJ hcp,hnew.symm,by rw [cE];omega⟩;rcases aK t i with h | h
       · rw [bC uJ];exact (hbq t h).up hle8
       obtain rfl:t=i:=uJ;rw [cD uJ,hqi,iW];exact ⟨l9,hl9n,aG _,hA8,hl9B.up hle8⟩
     show k - (i+1)<k - i;omega
   refine aL 4 [] ?_;refine Hb (α:=IV) 9 U T.sl39 U U U (mX hAr) Oc ?_;refine bY 3 [] ?_;obtain ⟨l9,hl9⟩:∃ l9,l9=(rest++(List.replicate m (default:IV)).drop rest.length):=⟨_,U⟩
   have hl9n:l9.length=m:=by rw [hl9];exact (by rw [aI,cE,aC];omega)
   have hl9B:A8 Gx l9 (zQ xs m i):=Vs hA hl9n (by rw [hl9];exact fun t ht=>by rw [hrest];exact FT (by rw [←hrest];exact hrm) ht);have ho9:A5 (some ⟨b1,0,none⟩) m l9 []:=.inr ⟨b1,U,by rw [hl9n];rfl,by rw [hl9n];exact aG _,by simp only [maxLen];omega⟩;refine rZ 9 (Row 89 l9 []) U (by rw [hl9]) ?_;refine oG 9 U ho9 fun G8 hle8 hA8=>?_;refine iD 9 U (show _=Value.slice (some ⟨b1,0,none⟩) m m by rw [aC]) ?_;refine iD 10 U (show _=Value.int .i64 ((rest.length:Nat):Int) by rfl) ?_;refine aL 4 [] ?_;refine aU U (Qy.cutL T.sl39 U U uJ uJ) ?_;refine aN 6 [] ?_;refine eV (α:=SV) 10 [⟨_,_,_⟩] U T.sl86 T.el39 U U U U U fun b2=>?_;refine fZ (α:=SV) 8 U T.sl86 T.el39 U U U Ei (fP 10 U) yH yH fun a1 c1 junk1 ho1=>?_;refine bA 8 [] ?_;have hnew:la.drop ((i+1)*m)=rest.drop rest.length:=Eq.symm (by rw [cY (aG _),cY];rw [hrest,cE] at hrm;rw [eB];omega);refine dH 0 U (show _=Value.slice (C4 ad cp rest.length 2) (rest.drop rest.length).length (cp - rest.length) by rw [cE];rfl) ?_;refine eK ((i+1,G8,q++[⟨some ⟨b1,0,none⟩,m,m⟩],(a1,c1,junk1),(C4 ad cp rest.length 2,cp - rest.length,rest.drop rest.length))) ?_ ?_ U ⟨U,U,U,U,U,U,U,I8⟩ ⟨U,I8⟩
   · refine ⟨by omega,bH hgx hle8,by rw [aI,hqi];rfl,fun t ht=>?_,ho1,Xy (α:=IV) (hAr.up hle8) rest.length uJ hcp,hnew.symm,by rw [cE];omega⟩;rcases aK t i with h | h
     · rw [bC uJ];exact (hbq t h).up hle8
     obtain rfl:t=i:=uJ;rw [cD uJ,hqi,iW];exact ⟨l9,hl9n,aG _,hA8,hl9B.up hle8⟩
   show k - (i+1)<k - i;omega
 have hii:i=k:=uJ;subst hii;have hqd:=hoq.le;refine cJ 20 [0] ?_;refine dX 8 U hoq fun G8 hle8 hAq=>?_;refine fU ?_;have hpl:(yQ xs i m).length=i:=by unfold yQ;rw [aW,dO]
 refine ⟨o,q,d,U,hAq,hqd,⟨by rw [hpl];exact hqi,fun t ht=>?_⟩,U⟩;have hpt:(yQ xs i m)[t]?.getD []=zQ xs m t:=by
  unfold yQ;rw [bJ,dP uJ];rfl
 rw [hpt];exact (hbq t uJ).up hle8
end
theorem Hu {G:A3} {x:IV} {z:Int} {m:Nat} (h:B9 G x z) (hz:(z.natAbs:Int)<pb m) (hm:m≤536870912):x.n≤536870912:=aP (jG h hz) hm
theorem YB {x y:Int} {m:Nat} (hx:(x.natAbs:Int)<pb m) (hy:(y.natAbs:Int)<pb m):((x*y).natAbs:Int)<pb (2*m):=by
 rw [qL,Nat.two_mul,Xq,dS];have h1:=bG (cN hy) (kP x.natAbs);have h2:=mI hx (xV m);omega
theorem FU (xs ys:List Int) (i:Nat) (w:List Int) (j:Nat):yE xs ys i w (j+1)=(yE xs ys i w j).set (i+j) ((yE xs ys i w j)[i+j]?.getD 0+xs[((i:Nat):Int).toNat]?.getD 0*ys[((j:Nat):Int).toNat]?.getD 0):=rfl
theorem CH (xs ys:List Int) (n i:Nat):wM xs ys n (i+1)=yE xs ys i (wM xs ys n i) ys.length:=rfl
section
attribute [local irreducible] uM pb vJ uZ
theorem c38 (G:A3) (a b:Option Addr) (ca cb:Nat) (la lb:List IV) (xs ys:List Int) (m:Nat) (ha:Arr G a la) (hb:Arr G b lb) (hA:A8 G la xs) (hB:A8 G lb ys) (hx:Below m xs) (hy:Below m ys) (hm:m≤1048576) (h1:xs.length≤4096) (h2:ys.length≤4096) :
 Does Tryz.prog 38 [.slice a la.length ca,.slice b lb.length cb] G [] (fun v G' Ho=>∃ (o:Option Addr) (c:Nat) (q:List IV),v=.tuple #[.slice o q.length c,.int .i64 ((xs.length*ys.length:Nat):Int)]∧Arr G' o q∧q.length≤c∧(q.length=0↔o=none)∧(o=none→c=0)∧A8 G' q (wT xs ys)∧Ho=[]):=by
 have e1:=hA.1;have e2:=hB.1;by_cases hz:la.length=0∨lb.length=0
 · refine bU Tryz.func38 U Tryz.ntmps38 U fun w=>?_;have hz2:wT xs ys=[]:=Gc uJ;have hz3:xs.length*ys.length=0:=Nat.mul_eq_zero.2 uJ;rcases dD la.length with hz4 | hz4
   · refine aL 13 [] ?_;refine rX 15 U vG ?_;refine bA 15 [1] ?_;refine fU ?_;exact ⟨none,0,[],by rw [hz3];rfl,oT _,aG _,⟨fun _=>rfl,fun _=>rfl⟩,fun _=>rfl,by rw [hz2];exact A8.nil _,U⟩
   have hz5:lb.length=0:=uJ;refine aL 13 [] ?_;refine pJ 15 U vG ?_;refine bA 18 [1] ?_;refine fU ?_;exact ⟨none,0,[],by rw [hz3];rfl,oT _,aG _,⟨fun _=>rfl,fun _=>rfl⟩,fun _=>rfl,by rw [hz2];exact A8.nil _,U⟩
 have hx1:1≤xs.length:=uJ;have hyp:1≤ys.length:=uJ;obtain ⟨n,hnn⟩:∃ n,n=xs.length+ys.length - 1:=⟨_,U⟩
 have hn:xs.length+ys.length=n+1:=uJ;refine bU Tryz.func38 U Tryz.ntmps38 U fun w=>?_;refine aL 13 [] ?_;refine pJ 15 U vG ?_;refine aN 20 [0] ?_;refine jL (α:=IV) 0 U T.sl39 T.el89 U U uJ uJ fun b1=>?_;refine bY 17 [] ?_;refine iD 6 U (show _=Value.slice (some ⟨b1,0,none⟩) (List.replicate n (default:IV)).length n by rw [aC,aC,show ((la.length:Int)+(lb.length:Int) - 1).toNat=n by omega]) ?_;refine rZ 0 (Row 89 (List.replicate n (default:IV)) []) U (by rw [show ((la.length:Int)+(lb.length:Int) - 1).toNat=n by omega]) ?_;refine iD 7 U (show _=Value.int .i64 ((0*ys.length:Nat):Int) by rw [jN];rfl) ?_;have hown:∀ q:List IV,q.length=n→A5 (some ⟨b1,0,none⟩) n q []:=fun q hq=>.inr ⟨b1,U,by rw [hq];rfl,by omega,by simp only [maxLen];omega⟩;refine fX (ι:=Nat×A3×List IV) (fun (i,Gy,q)=>([(29,.int .i64 (i:Int)),(6,.slice (some ⟨b1,0,none⟩) q.length n),(7,.int .i64 ((i*ys.length:Nat):Int)),(28,Go.Value.int Go.IntKind.i64 (↑(List.length la):Int)),(27,Go.Value.slice a (List.length la) ca),(5,Go.Value.int Go.IntKind.i64 0),(4,Go.Value.slice Option.none 0 0),(1,Go.Value.slice b (List.length lb) cb)],[(0,some b1,Row 89 q [])])) (fun (i,Gy,q)=>Gy) (fun (i,Gy,q)=>i≤xs.length∧G.le Gy∧q.length=n∧A8 Gy q (wM xs ys n i)) (fun (i,Gy,q)=>xs.length - i) ((0,G,List.replicate n (default:IV))) (⟨aS _,cC _,aC,pC _ _⟩) U ⟨U,U,U,U,U,U,U,U,I8⟩ ⟨U,I8⟩ fun ⟨i,Gy,q⟩=>fun hk=>?_;obtain ⟨hi2,hgy,hql,hqb⟩:=hk;replace ha:=ha.up hgy;replace hb:=hb.up hgy;replace hA:=hA.up hgy;replace hB:=hB.up hgy;rcases aK i xs.length with hix | hix
 · have hila:i<la.length:=uJ;have hin:i*ys.length≤4096*4096:=gQ uJ h2;refine aL 14 [1] ?_;refine aU U (jH (α:=IV) T.sl39 U U uK uJ) ?_;refine aU U (gB T.agg89 U (jV uK uJ) U) ?_;refine bB 1 U T.zero89 fun b2=>?_;refine bY 12 [1] ?_;refine fX (ι:=Nat×A3×List IV) (fun (j,Gz,q)=>([(36,.int .i64 (j:Int)),(29,.int .i64 (i:Int)),(6,.slice (some ⟨b1,0,none⟩) q.length n),(7,.int .i64 ((i*ys.length+j:Nat):Int)),(1,.slice b lb.length cb),(27,.slice a la.length ca),(28,.int .i64 (la.length:Int)),(35,Go.Value.int Go.IntKind.i64 (↑(List.length lb):Int)),(34,Go.Value.slice b (List.length lb) cb),(8,Go.Value.int Go.IntKind.i64 (↑i:Int)),(9,Go.Value.pointer (Option.some (Go.Addr.mk b2 0 Option.none))),(5,Go.Value.int Go.IntKind.i64 0),(4,Go.Value.slice Option.none 0 0)],[(0,some b1,Row 89 q []),(1,some b2,.cells (A2.enc (la[(i:Int).toNat]?.getD default)).toArray 89)])) (fun (j,Gz,q)=>Gz) (fun (j,Gz,q)=>j≤ys.length∧Gy.le Gz∧q.length=n∧A8 Gz q (yE xs ys i (wM xs ys n i) j)) (fun (j,Gz,q)=>ys.length - j) ((0,Gy,q)) (⟨aS _,cC _,hql,hqb⟩) U ⟨U,U,U,U,U,U,U,U,U,U,U,U,U,I8⟩ ⟨U,U,I8⟩ fun ⟨j,Gz,q⟩=>fun hk=>?_;obtain ⟨hj2,hgz,hql,hqb⟩:=hk;replace ha:=ha.up hgz;replace hb:=hb.up hgz;replace hA:=hA.up hgz;replace hB:=hB.up hgz;rcases aK j ys.length with hjy | hjy
   · have hjlb:j<lb.length:=uJ;have hor:=hown q hql;have hxB:=hA.at (k:=(i:Int)) uJ;have hyB:=hB.at (k:=(j:Int)) uJ;have hij:0≤((i:Int)+(j:Int))∧((i:Int)+(j:Int))<q.length:=uJ;have hqB:=hqb.at hij;have hxm:((xs[(i:Int).toNat]?.getD 0).natAbs:Int)<pb m:=hx.at _;have hym:((ys[(j:Int).toNat]?.getD 0).natAbs:Int)<pb m:=hy.at _;have hqm:=(MK (n:=n) hx hy (show i≤4096 by omega) uJ hj2).at ((i:Int)+(j:Int)).toNat;have hxy:=YB hxm hym;have hxn:=Hu hxB hxm uJ;have hyn:=Hu hyB hym uJ;have hqn:=Hu hqB hqm uJ;refine aL 14 [1] ?_;refine aU U (jH (α:=IV) T.sl39 U U uK uJ) ?_;refine aU U (gB T.agg89 U (jV uK uJ) U) ?_;refine bB 2 U T.zero89 fun b3=>?_;refine bY 5 [2] ?_;refine gV [1,0,2] [(2,15),(0,15),(1,15)] T.mixed U ?_;refine bO 0 [] [] ?_;refine bO 1 [] [] ?_;refine bO 2 [] [] ?_;refine bO 3 [] [] ?_;refine bO 4 [] [] ?_;refine bO 5 [] [] ?_;refine bO 6 [] [] ?_;refine bO 7 [] [] ?_;refine eP 8 [] U (dJ (α:=IV) T.sl39 U U uK uJ) ?_;refine eP 9 [0] U (Ks 0 T.agg89 U U uK uJ) ?_;refine bO 10 [1] [1] ?_;refine bO 11 [2] [2] ?_;refine fC 12 ?_;refine cQ 3 U (oq _ _ _ _ _ uK uK uK uK) fun v1 G1 Ho1 hle1 hp=>?_;obtain ⟨rm1,rfl,hrm1,rfl⟩:=hp;replace hqb:=hqb.up hle1;replace ha:=ha.up hle1;replace hb:=hb.up hle1;replace hA:=hA.up hle1;replace hB:=hB.up hle1;replace hxB:=hxB.up hle1;replace hyB:=hyB.up hle1;replace hqB:=hqB.up hle1;refine dG ?_;refine fC 13 ?_;refine cQ 3 U (gf _ _ _ _ _ uK uK uK (Hu uK hxy uJ)) fun v2 G2 Ho2 hle2 hp=>?_;obtain ⟨rs2,rfl,hrs2,rfl⟩:=hp;replace hrm1:=hrm1.up hle2;replace hqb:=hqb.up hle2;replace ha:=ha.up hle2;replace hb:=hb.up hle2;replace hA:=hA.up hle2;replace hB:=hB.up hle2;replace hxB:=hxB.up hle2;replace hyB:=hyB.up hle2;replace hqB:=hqB.up hle2;refine dG ?_;refine eP 14 [] U (dJ (α:=IV) T.sl39 U U uK uJ) ?_;refine fC 15 ?_;refine fL (z:=rs2) (m:=(i:Int)+(j:Int)) 0 T.size89 U U U hor uJ U fun ho1=>?_;rw [show ((i:Int)+(j:Int)).toNat=i+j by omega] at *;obtain ⟨r9,hr9⟩:∃ r9,r9=q.set (i+j) rs2:=⟨_,U⟩
     have hr9l:r9.length=q.length:=by rw [hr9,aJ]
     have hq9:A8 G2 r9 (yE xs ys i (wM xs ys n i) (j+1)):=by
      rw [hr9,FU];exact hqb.set (i+j) hrs2
     rw [←hr9] at ho1 ⊢;refine dG ?_;refine mU uO I8 Cl ?_;refine iN 12 [] ?_;refine dH 6 U (show _=Value.slice (some ⟨b1,0,none⟩) r9.length n by rw [hr9l]) ?_;refine dH 7 U (show _=Value.int .i64 ((i*ys.length+(j+1):Nat):Int) by congr 1) ?_;refine eK ((j+1,G2,r9)) ?_ ?_ U ⟨U,U,U,U,U,U,U,U,U,U,U,U,U,I8⟩ ⟨U,U,I8⟩
     · exact ⟨by omega,bH hgz (bH hle1 hle2),by rw [hr9l];exact hql,hq9⟩
     show ys.length - (j+1)<ys.length - j;omega
   have hjj:j=lb.length:=uJ;subst hjj;have hqb2:A8 Gz q (wM xs ys n (i+1)):=by
    rw [CH,←e2];exact hqb
   refine cJ 17 [0] ?_;refine dH 7 U (show _=Value.int .i64 (((i+1)*ys.length:Nat):Int) by rw [eB,oD,e2]) ?_;refine eK ((i+1,Gz,q)) ?_ ?_ U ⟨U,U,U,U,U,U,U,U,I8⟩ ⟨U,I8⟩
   · exact ⟨by omega,bH hgy hgz,hql,hqb2⟩
   show xs.length - (i+1)<xs.length - i;omega
 have hii:i=la.length:=uJ;subst hii;have hor:=hown q hql;refine cJ 21 [0] ?_;refine dX 0 U hor fun G10 hle10 hAq=>?_;refine fU ?_;rw [e1] at hqb;exact ⟨_,n,q,by rw [e1],hAq,by omega,⟨fun h=>by omega,fun h=>by cases h⟩,fun h=>xY,by rw [Bw hx1 hyp,←hnn];exact hqb.up hle10,U⟩
end
theorem kq (G:A3) (x:IV) (z:Int) (hx:B9 G x z) (h1:x.n≤536870912):Does Tryz.prog 48 [.agg (A2.enc x).toArray] G [] (fun v G' Ho=>v=.int .i64 (Jd z)∧G'=G∧Ho=[]):=by
 obtain ⟨n1,a,k1,ca⟩:=x;obtain ⟨la,hl,hlc,hA,hI⟩:=hx;simp only at hl hlc hA hI h1;subst hl;exact fy G n1 a ca la z hI uJ
theorem IY {z:Int}:Jd z=0↔z=0:=by unfold Jd;split <;> (try split) <;> omega
section
attribute [local irreducible] uM pb vJ uZ Jd Cp vY
theorem uk (G:A3) (a:Option Addr) (ca:Nat) (la:List IV) (zs:List Int) (m:Nat) (ha:Arr G a la) (hA:A8 G la zs) (hb:Below m zs) (hm:m≤536870912) (h1:zs.length≤1048576) :
 Does Tryz.prog 196 [.slice a la.length ca] G [] (fun v G' Ho=>∃ e:Nat,v=.int .i64 ((e:Int) - 1)∧e≤zs.length∧(∀ k:Nat,e≤k→zs[k]?.getD 0=0)∧(0<e→zs[e - 1]?.getD 0≠0)∧G'=G∧Ho=[]):=by
 have e1:=hA.1;refine bU Tryz.func196 U Tryz.ntmps196 U fun w=>?_;refine dN 5 [] ?_;refine Wc.scope ?_;refine dN 13 [] ?_;refine mW (ι:=Nat) (fun e=>([(3,.int .i64 ((e:Int) - 1)),(2,Go.Value.int Go.IntKind.i64 0),(0,Go.Value.slice a (List.length la) ca)],[])) (fun e=>e≤la.length∧∀ k:Nat,e≤k→zs[k]?.getD 0=0) (fun e=>e) (la.length) (⟨aG _,fun k hk=>by rw [bF uJ];rfl⟩) ⟨U,U,U,I8⟩ I8 fun e=>fun hk=>?_;obtain ⟨he,hz⟩:=hk;rcases dD e with h0 | h0
 · subst h0;refine cJ 20 [0] ?_;refine oE ?_;refine cZ ?_;exact ⟨0,U,aS _,hz,fun h=>absurd h uJ,U,U⟩
 have hzB:=hA.at (k:=(e:Int) - 1) uJ;have hzn:=Hu hzB (hb.at _) uJ;by_cases hs:Jd (zs[((e:Int) - 1).toNat]?.getD 0)=0
 · have hs2:¬Jd (zs[((e:Int) - 1).toNat]?.getD 0)≠0:=fun h=>h hs;refine aL 16 [1] ?_;refine aU U (jH (α:=IV) T.sl39 U U uK uJ) ?_;refine aU U (gB T.agg89 U (jV uK uJ) U) ?_;refine dC U (kq _ _ _ hzB hzn) ?_;refine bA 12 [0] ?_;refine dH 3 U (show _=Value.int .i64 (((e - 1:Nat):Int) - 1) by congr 1;omega) ?_;refine eK ((e - 1)) ?_ ?_ U ⟨U,U,U,I8⟩ I8
   · refine ⟨by omega,fun k hk=>?_⟩;rcases aK k e with h | h
     · have:=IY.1 hs;rw [show ((e:Int) - 1).toNat=k by omega] at this;exact this
     exact hz k h
   show e - 1<e;omega
 have hs2:Jd (zs[((e:Int) - 1).toNat]?.getD 0)≠0:=hs;refine aL 16 [1] ?_;refine aU U (jH (α:=IV) T.sl39 U U uK uJ) ?_;refine aU U (gB T.agg89 U (jV uK uJ) U) ?_;refine dC U (kq _ _ _ hzB hzn) ?_;refine bA 17 [1] ?_;refine oE ?_;refine cZ ?_;refine ⟨e,U,by omega,hz,fun _ h=>hs (IY.2 ?_),U,U⟩;rw [show ((e:Int) - 1).toNat=e - 1 by omega];exact h
end
def Ed (bs:List (List Int)) (m n:Nat):Nat→Nat
 | 0=>n
 | i+1=>max (Ed bs m n i) (i*m+(bs[i]?.getD []).length)
theorem Qv (bs:List (List Int)) (m n:Nat):∀ i,n≤Ed bs m n i
 | 0=>aG _
 | i+1=>aP (Qv bs m n i) (Nat.le_max_left _ _)
theorem Lu (bs:List (List Int)) (m n:Nat):∀ {i k:Nat},i<k→i*m+(bs[i]?.getD []).length≤Ed bs m n k
 | i,k+1,h=>by
   rcases aK i k with h1 | h1
   · exact aP (Lu bs m n h1) (Nat.le_max_left _ _)
   obtain rfl:i=k:=uJ;exact Nat.le_max_right _ _
theorem CI {bs:List (List Int)} {m n L:Nat} (hn:n≤8192) (hm:m≤4096) (hL:∀ i:Nat,(bs[i]?.getD []).length≤8192):∀ i,i≤15→Ed bs m n i≤65536
 | 0,_=>by show n≤65536;omega
 | i+1,h=>by
   have h1:=CI (L:=L) hn hm hL i uJ;have h2:=hL i;have h3:i*m≤14*4096:=gQ uJ hm;exact Nat.max_le.2 ⟨h1,by omega⟩
theorem MS (b:List Int) (off:Nat) (w:List Int) (j:Nat):Cp b off w (j+1)=(Cp b off w j).set (off+j) ((Cp b off w j)[off+j]?.getD 0+b[((j:Nat):Int).toNat]?.getD 0):=rfl
theorem CJ (bs:List (List Int)) (m:Nat) (w:List Int) (i:Nat):vY bs m w (i+1)=Cp (bs[i]?.getD []) (i*m) (vY bs m w i) (bs[i]?.getD []).length:=rfl
theorem CK (bs:List (List Int)) (m:Nat) (w:List Int):vY bs m w 0=w:=rfl
theorem MT (b:List Int) (off:Nat) (w:List Int):Cp b off w 0=w:=rfl
section
attribute [local irreducible] uM pb vJ uZ Cp vY
theorem ul (G:A3) (ba:Option Addr) (bc:Nat) (bl:List SV) (bs:List (List Int)) (m n M:Nat) (hba:Arr G ba bl) (hbg:B5 G bl bs) (hl:bl.length≤15) (hm1:1≤m) (hm:m≤4096) (hn1:1≤n) (hn:n≤8192) (hM:M≤268435456)
 (hL:∀ i:Nat,(bs[i]?.getD []).length≤8192) (hB:∀ i:Nat,i<bs.length→Below M (bs[i]?.getD [])) :
 Does Tryz.prog 149 [.slice ba bl.length bc,.int .i64 (m:Int),.int .i64 (n:Int)] G [] (fun v G' Ho =>
  ((∀ k:Nat,n≤k→(vY bs m (List.replicate (Ed bs m n bs.length) 0) bs.length)[k]?.getD 0=0)∧∃ (o:Option Addr) (q:List IV),v=.tuple #[.slice o q.length n,.int .i64 0]∧Arr G' o q∧q.length=n∧A8 G' q ((vY bs m (List.replicate (Ed bs m n bs.length) 0) bs.length).take n)∧Ho=[])∨
  ((∃ k:Nat,n≤k∧(vY bs m (List.replicate (Ed bs m n bs.length) 0) bs.length)[k]?.getD 0≠0)∧v=.tuple #[.slice none 0 0,.int .i64 5]∧Ho=[])):=by
 have hbl:=hbg.1;refine bU Tryz.func149 U Tryz.ntmps149 U fun w=>?_;refine aL 12 [] ?_;refine pJ 18 U vG ?_;refine aF 6 [] ?_;refine pJ 22 U vG ?_;refine aF 6 [] ?_;refine pJ 26 U vG ?_;refine bY 36 [0,0] ?_;refine mW (ι:=Nat) (fun i=>([(36,.int .i64 (i:Int)),(8,.int .i64 ((Ed bs m n i:Nat):Int)),(35,Go.Value.int Go.IntKind.i64 (↑(List.length bl):Int)),(34,Go.Value.slice ba (List.length bl) bc),(0,Go.Value.slice ba (List.length bl) bc),(1,Go.Value.int Go.IntKind.i64 (↑m:Int)),(2,Go.Value.int Go.IntKind.i64 (↑n:Int))],[])) (fun i=>i≤bl.length) (fun i=>bl.length - i) (0) (aS _) ⟨U,U,U,U,U,U,U,I8⟩ I8 fun i=>fun (hk:i≤bl.length)=>?_;have hall:=CI (L:=0) hn hm hL i uJ;rcases aK i bl.length with hib | hib
 · obtain ⟨l1,a1,a2,a3,a4⟩:=hbg.2 i hib;have hr8:=hL i;have hrn:(bl[(i:Int).toNat]?.getD default).n=(bs[i]?.getD []).length:=by rw [aH,←a1,a4.1]
   have him:(i:Int)*(m:Int)=((i*m:Nat):Int):=(dS i m).symm;have him2:i*m≤15*4096:=gQ uJ hm;refine aL 14 [1] ?_;refine aU U (jH (α:=SV) T.sl86 U U uK uJ) ?_;refine aU U (cS T.one39 U (gZ uK uJ 0 U U)) ?_;refine aN 19 [0] ?_;refine aU U (qZ U U uJ) ?_;refine aF 3 [] ?_;refine aU U (tB U U) ?_;refine bA 8 [] ?_;refine dH 8 U (show _=Value.int .i64 ((Ed bs m n (i+1):Nat):Int) by congr 1;show _=((max (Ed bs m n i) (i*m+(bs[i]?.getD []).length):Nat):Int);omega) ?_;refine eK ((i+1)) ?_ ?_ U ⟨U,U,U,U,U,U,U,I8⟩ I8
   · show i+1≤bl.length;omega
   show bl.length - (i+1)<bl.length - i;omega
 obtain rfl:i=bl.length:=uJ;obtain ⟨A,hAA⟩:∃ A,A=Ed bs m n bl.length:=⟨_,U⟩
 rw [←hAA] at hall;have hAn:n≤A:=by rw [hAA];exact Qv _ _ _ _
 have hrow:∀ t:Nat,t<bl.length→t*m+(bs[t]?.getD []).length≤A:=fun t ht=>by rw [hAA];exact Lu bs m n ht
 refine aL 15 [0] ?_;refine jL (α:=IV) 0 U T.sl39 T.el89 U U uJ uJ fun b1=>?_;refine bY 12 [] ?_;have hM2:(A:Int).toNat=A:=aH A;rw [←hAA];refine iD 11 U (show _=Value.slice (some ⟨b1,0,none⟩) (List.replicate A (default:IV)).length A by rw [aC,aC,hM2]) ?_;refine rZ 0 (Row 89 (List.replicate A (default:IV)) []) U U ?_;have hown:∀ q:List IV,q.length=A→A5 (some ⟨b1,0,none⟩) A q []:=fun q hq=>.inr ⟨b1,U,by rw [hq];rfl,by omega,by simp only [maxLen];omega⟩;refine fX (ι:=Nat×A3×List IV) (fun (i,Gy,q)=>([(57,.int .i64 (i:Int)),(11,.slice (some ⟨b1,0,none⟩) q.length A),(56,Go.Value.int Go.IntKind.i64 (↑(List.length bl):Int)),(55,Go.Value.slice ba (List.length bl) bc),(1,Go.Value.int Go.IntKind.i64 (↑m:Int)),(2,Go.Value.int Go.IntKind.i64 (↑n:Int))],[(0,some b1,Row 89 q [])])) (fun (i,Gy,q)=>Gy) (fun (i,Gy,q)=>i≤bl.length∧G.le Gy∧q.length=A∧A8 Gy q (vY bs m (List.replicate A 0) i)) (fun (i,Gy,q)=>bl.length - i) ((0,G,List.replicate A (default:IV))) (⟨aS _,cC _,aC,by rw [CK];exact pC _ _⟩) U ⟨U,U,U,U,U,U,I8⟩ ⟨U,I8⟩ fun ⟨i,Gy,q⟩=>fun hk=>?_;obtain ⟨hi2,hgy,hql,hqb⟩:=hk;replace hba:=hba.up hgy;replace hbg:=hbg.up hgy;rcases aK i bl.length with hix | hix
 · obtain ⟨l1,a1,a2,a3,a4⟩:=hbg.2 i hix;have hl1:l1.length=(bs[i]?.getD []).length:=a4.1;have hr8:=hL i;have hrowi:=hrow i hix;have him:(i:Int)*(m:Int)=((i*m:Nat):Int):=(dS i m).symm;have him2:i*m≤15*4096:=gQ uJ hm;refine aL 14 [1] ?_;refine aU U (jH (α:=SV) T.sl86 U U uK uJ) ?_;refine aU U (cS T.one39 U (gZ uK uJ 0 U U)) ?_;refine bY 12 [] ?_;refine iD 62 U (show _=Value.slice (bl[(i:Int).toNat]?.getD default).a l1.length (bl[(i:Int).toNat]?.getD default).c by rw [aH,a1]) ?_;refine iD 63 U (show _=Value.int .i64 (l1.length:Int) by rw [aH,a1]) ?_;have a3':Arr Gy (bl[(i:Int).toNat]?.getD default).a l1:=by rw [aH];exact a3
   generalize (bl[((i:Nat):Int).toNat]?.getD default).a=ra at *;generalize (bl[((i:Nat):Int).toNat]?.getD default).c=rc at *;refine fX (ι:=Nat×A3×List IV) (fun (j,Gz,q)=>([(64,.int .i64 (j:Int)),(57,.int .i64 (i:Int)),(11,.slice (some ⟨b1,0,none⟩) q.length A),(62,.slice ra l1.length rc),(63,.int .i64 (l1.length:Int)),(12,.int .i64 (i:Int)),(1,.int .i64 (m:Int)),(2,.int .i64 (n:Int)),(55,.slice ba bl.length bc),(56,.int .i64 (bl.length:Int))],[(0,some b1,Row 89 q [])])) (fun (j,Gz,q)=>Gz) (fun (j,Gz,q)=>j≤l1.length∧Gy.le Gz∧q.length=A∧A8 Gz q (Cp (bs[i]?.getD []) (i*m) (vY bs m (List.replicate A 0) i) j)) (fun (j,Gz,q)=>l1.length - j) ((0,Gy,q)) (⟨aS _,cC _,hql,by rw [MT];exact hqb⟩) U ⟨U,U,U,U,U,U,U,U,U,U,I8⟩ ⟨U,I8⟩ fun ⟨j,Gz,q⟩=>fun hk=>?_;obtain ⟨hj2,hgz,hql,hqb⟩:=hk;replace a3':=a3'.up hgz;replace a4:=a4.up hgz;replace hba:=hba.up hgz;replace hbg:=hbg.up hgz;rcases aK j l1.length with hjy | hjy
   · have hor:=hown q hql;have hij:0≤((i:Int)*(m:Int)+(j:Int))∧((i:Int)*(m:Int)+(j:Int))<q.length:=uJ;have hqB:=hqb.at hij;have hxB:=a4.at (k:=(j:Int)) uJ;have hxn:=Hu hxB ((hB i uJ).at _) uJ;have hwl:∀ t:Nat,t<bs.length→t*m+(bs[t]?.getD []).length≤(List.replicate A (0:Int)).length:=fun t ht=>by rw [aC];exact hrow t uJ
     have hqm:=(CA (k:=M) (m:=m) (w:=List.replicate A 0) (fun t ht=>hB t ht) hwl (Ls A) uJ (show i<bs.length by omega) (j:=j) uJ).at ((i:Int)*(m:Int)+(j:Int)).toNat;have hqn:=Hu hqB hqm uJ;refine aL 14 [1] ?_;refine aU U (jH (α:=IV) T.sl39 U U uK uJ) ?_;refine aU U (gB T.agg89 U (jV uK uJ) U) ?_;refine bB 1 U T.zero89 fun b2=>?_;refine bY 4 [1] ?_;refine gV [0,1] [(1,17),(0,17)] T.mixed U ?_;refine bO 0 [] [] ?_;refine bO 1 [] [] ?_;refine bO 2 [] [] ?_;refine eP 3 [] U (qZ U U uJ) ?_;refine bO 4 [] [] ?_;refine bO 5 [] [] ?_;refine bO 6 [] [] ?_;refine bO 7 [] [] ?_;refine bO 8 [] [] ?_;refine eP 9 [] U (qZ U U uJ) ?_;refine bO 10 [] [] ?_;refine bO 11 [] [] ?_;refine eP 12 [] U (dJ (α:=IV) T.sl39 U U uK uJ) ?_;refine eP 13 [0] U (Ks 0 T.agg89 U U uK uJ) ?_;refine bO 14 [1] [1] ?_;refine fC 15 ?_;refine cQ 2 U (gf _ _ _ _ _ uK uK uK uK) fun v1 G1 Ho1 hle1 hp=>?_;obtain ⟨rs1,rfl,hrs1,rfl⟩:=hp;replace hqb:=hqb.up hle1;replace a3':=a3'.up hle1;replace a4:=a4.up hle1;replace hba:=hba.up hle1;replace hbg:=hbg.up hle1;replace hqB:=hqB.up hle1;replace hxB:=hxB.up hle1;refine dG ?_;refine eP 16 [] U (dJ (α:=IV) T.sl39 U U uK uJ) ?_;refine fC 17 ?_;refine fL (z:=rs1) (m:=(i:Int)*(m:Int)+(j:Int)) 0 T.size89 U U U hor uJ U fun ho1=>?_;rw [show ((i:Int)*(m:Int)+(j:Int)).toNat=i*m+j by omega] at *;obtain ⟨r9,hr9⟩:∃ r9,r9=q.set (i*m+j) rs1:=⟨_,U⟩
     have hr9l:r9.length=q.length:=by rw [hr9,aJ]
     have hq9:A8 G1 r9 (Cp (bs[i]?.getD []) (i*m) (vY bs m (List.replicate A 0) i) (j+1)):=by
      rw [hr9,MS];exact hqb.set (i*m+j) hrs1
     rw [←hr9] at ho1 ⊢;refine dG ?_;refine mU uO I8 Cl ?_;refine iN 6 [] ?_;refine dH 11 U (show _=Value.slice (some ⟨b1,0,none⟩) r9.length A by rw [hr9l]) ?_;refine eK ((j+1,G1,r9)) ?_ ?_ U ⟨U,U,U,U,U,U,U,U,U,U,I8⟩ ⟨U,I8⟩
     · exact ⟨by omega,bH hgz hle1,by rw [hr9l];exact hql,hq9⟩
     show l1.length - (j+1)<l1.length - j;omega
   obtain rfl:j=l1.length:=uJ;have hqb2:A8 Gz q (vY bs m (List.replicate A 0) (i+1)):=by
    rw [CJ,←hl1];exact hqb
   refine cJ 17 [0] ?_;refine eK ((i+1,Gz,q)) ?_ ?_ U ⟨U,U,U,U,U,U,I8⟩ ⟨U,I8⟩
   · exact ⟨by omega,bH hgy hgz,hql,hqb2⟩
   show bl.length - (i+1)<bl.length - i;omega
 obtain rfl:i=bl.length:=uJ;have hor:=hown q hql;have hwl:∀ t:Nat,t<bs.length→t*m+(bs[t]?.getD []).length≤(List.replicate A (0:Int)).length:=fun t ht=>by rw [aC];exact hrow t uJ
 have hbw:=FN (k:=M) (m:=m) (w:=List.replicate A 0) (fun t ht=>hB t ht) hwl (Ls A) uJ (aG bs.length);rw [←hbl] at hbw ⊢;rw [←hAA];have hjl:(vY bs m (List.replicate A 0) bl.length).length=A:=by rw [zW,aC]
 refine dN 12 [0] ?_;refine oG 0 U hor fun G8 hle8 hA8=>?_;refine aL 4 [] ?_;refine cQ 20 U (uk _ _ _ q (vY bs m (List.replicate A 0) bl.length) (M+1) hA8 (hqb.up hle8) hbw uJ uJ) fun v1 G9 Ho1 hle9 hp=>?_;obtain ⟨e,rfl,he,hez,hnz,rfl,rfl⟩:=hp;by_cases hen:e≤n
 · refine aN 22 [0,0] ?_;refine aU U (AC T.sl39 U U U uJ uJ uJ) ?_;refine bA 5 [] ?_;refine fU ?_;refine .inl ⟨fun k hk=>hez k uJ,_,q.take n,by rw [bI,dE uJ];rfl,Iv hA8 n,by rw [bI];omega,⟨by rw [bI,bI,hjl,hql],fun t ht=>?_⟩,U⟩;rw [bI] at ht;rw [fO,aM (by omega),fO,aM (by omega)];exact (hqb.2 t uJ).up hle8
 refine bA 13 [1] ?_;refine fU ?_;exact .inr ⟨⟨e - 1,by omega,hnz uJ⟩,U,U⟩
end
end Go.Proofs.YtngphgeghfdjbaaGreatDoor
namespace Go.Sl.Em
open Go
section
variable {P:Program} {e:B0} {H:Hp} {G:A3} {ty T:TypeId}
theorem Qy.indexVA {x i:Operand} {n E sz:Nat} {k:IntKind} {m:Int} {vs:List Value} (hu:P.underlying T=some (.array n E)) (h1:xZ P E sz=true) (hx:e.ev x=some (.agg vs.toArray)) (hi:e.ev i=some (.int k m))
 (hb:0≤m∧m<n):Qy P (.index T x i) ty e H G (.agg ((vs.drop (m.toNat*sz)).take sz).toArray):=fun a w _ _ _ _ hh=>by
 have h2:=run_sizeOf (P:=P) w (Ig h1);simp [execOp,Instr.index,hh.eval hx,hh.eval hi,asIntOf,aQ hu,hb,h2,part,Ae w h1]
end
end Go.Sl.Em
namespace Go.Proofs.YtngphgeghfdjbaaGreatDoor
open Go Go.Sl
structure TV where
 p:SV
 q:SV
instance:Inhabited TV:=⟨⟨default,default⟩⟩
instance:A2 TV:=⟨2,fun x=>[.slice x.p.a x.p.n x.p.c,.slice x.q.a x.q.n x.q.c],fun _=>rfl,fun _=>rfl⟩
def I4 (G:A3) (q:List TV) (l:List R2) (xs ys:List Int) (k1 k2 m:Nat):Prop:=
 q.length=l.length∧∀ t:Nat,t<l.length→C8 G (q[t]?.getD default).p (zV xs k1 m (l[t]?.getD default))∧C8 G (q[t]?.getD default).q (zV ys k2 m (l[t]?.getD default))
theorem I4.up {G G':A3} {q:List TV} {l:List R2} {xs ys:List Int} {k1 k2 m:Nat} (h:I4 G q l xs ys k1 k2 m) (hl:G.le G'):I4 G' q l xs ys k1 k2 m:=⟨h.1,fun t ht=>⟨(h.2 t ht).1.up hl,(h.2 t ht).2.up hl⟩⟩
theorem Qw {M m k:Nat} {xs:List Int} (h:Below M xs):C1 M m (yQ xs k m):=fun zs hz=>by
 unfold yQ at hz;obtain ⟨j,_,rfl⟩:=cV.1 hz;refine ⟨Lq xs m j,fun z hz=>?_⟩;unfold zQ at hz;obtain ⟨t,_,rfl⟩:=cV.1 hz;exact h.at _
theorem Qx (xs:List Int) (k m:Nat):(yQ xs k m).length=k:=by unfold yQ;rw [aW,dO]
def Cs (r0 r1:List SV) (t:Nat):List TV:=(List.range t).map fun i=>⟨r0[i]?.getD default,r1[i]?.getD default⟩
theorem CL (r0 r1:List SV) (t:Nat):Cs r0 r1 (t+1)=Cs r0 r1 t++[⟨r0[((t:Nat):Int).toNat]?.getD default,r1[((t:Nat):Int).toNat]?.getD default⟩]:=by unfold Cs;rw [List.range_succ,iL];rfl
theorem Qz (r0 r1:List SV) (t:Nat):(Cs r0 r1 t).length=t:=by unfold Cs;rw [aW,dO]
theorem MU {r0 r1:List SV} {t i:Nat} (h:i<t):(Cs r0 r1 t)[i]?.getD default=⟨r0[i]?.getD default,r1[i]?.getD default⟩:=by
 unfold Cs;rw [bJ,dP h];rfl
theorem SN {f:R2→List Int} {l:List R2} {t:Nat} (h:t<l.length):(l.map f)[t]?.getD []=f (l[t]?.getD default):=by
 rw [bJ,aA h];rfl
section
attribute [local irreducible] uM pb vJ uZ zV Cs
theorem c81 (G:A3) (hT:C6 G) (u:UV) (h:UH) (b:Nat) (k1 k2 m M:Nat) (aa ab:Option Addr) (ca cb:Nat) (la lb:List IV) (xs ys:List Int) (hb:B7 G b (uC u h)) (hi:I0 G u h) (e1:u.k1=(k1:Int)) (e2:u.k2=(k2:Int))
 (hU:vN (k1:Int) (k2:Int) u.pl u.x u.y u.z=(0,0)) (ha:Arr G aa la) (hab:Arr G ab lb) (hca:la.length≤ca) (hcb:lb.length≤cb) (hA:A8 G la xs) (hB:A8 G lb ys) (hMx:Below M xs) (hMy:Below M ys) (hM:M≤1048576)
 (hm1:1≤m) (hm:m≤4096) (hx1:1≤xs.length) (hy1:1≤ys.length) (hx4:xs.length≤4096) (hy4:ys.length≤4096) (hxk:xs.length≤k1*m) (hyk:ys.length≤k2*m) :
 Does Tryz.prog 81 [.pointer (some ⟨b,0,none⟩),.slice aa la.length ca,.slice ab lb.length cb,.int .i64 (m:Int)] G [] (fun v G' Ho=>∃ (o:Option Addr) (q:List TV) (d:Nat),v=.tuple #[.slice o q.length d,.int .i64 ((u.x.code.length+u.y.code.length:Nat):Int),.int .i64 0]∧
  Arr G' o q∧I4 G' q u.pl xs ys k1 k2 m∧(∀ q∈u.pl,Below (M+3*u.x.code.length) (zV xs k1 m q)∧Below (M+3*u.y.code.length) (zV ys k2 m q))∧Ho=[]):=by
 obtain ⟨hfx,hfy,hfz,hjoin⟩:=Vi hU hm1 hxk hyk hx1 hy1;obtain ⟨hW,hRx,hEx,hRy,hEy,hRz,hIz⟩:=Hl (show (vN (k1:Int) (k2:Int) u.pl u.x u.y u.z).2=0 by rw [hU]);obtain ⟨hP1,hP2,hn,hRL⟩:=Al hW;have hk1p:1≤k1∧k1≤8:=by have h1:=hP1.1;have h2:=hP1.2;omega
 have hk2p:1≤k2∧k2≤8:=by have h1:=hP2.1;have h2:=hP2.2;omega
 have hrx:=hb.row (off:=3) (k:=4) U;have hry:=hb.row (off:=7) (k:=4) U;have hk1c:G.cell b 0=some (.int .i64 (k1:Int)):=by rw [←e1];exact hb.cell U
 have hk2c:G.cell b 1=some (.int .i64 (k2:Int)):=by rw [←e2];exact hb.cell U
 obtain ⟨fx1,fx2,fx3,fx4,fx5,fx6,fx7,fx8⟩:=vW hRx;obtain ⟨fy1,fy2,fy3,fy4,fy5,fy6,fy7,fy8⟩:=vW hRy;refine bU Tryz.func81 U Tryz.ntmps81 U fun w=>?_;refine aL 9 [] ?_;refine bB 0 U T.zero222 fun b1=>?_;refine bY 9 [] ?_;refine gV [0] [] T.mixed U ?_;refine bO 0 [] [] ?_;refine bO 1 [] [] ?_;refine bO 2 [] [] ?_;refine bO 3 [] [] ?_;refine bO 4 [] [] ?_;refine eP 5 [] U (cS T.one3 U uK) ?_;refine bO 6 [] [] ?_;refine bO 7 [] [] ?_;refine bO 8 [] [] ?_;refine bO 9 [] [] ?_;refine eP 10 [] U (gB T.agg26 U uK U) ?_;refine eP 11 [] U (fY (cs:=[_,_,_,_,_,_]) T.st223 U U U) ?_;refine bO 12 [] [] ?_;refine bO 13 [] [] ?_;refine bO 14 [] [] ?_;refine bO 15 [] [] ?_;refine bO 16 [] [] ?_;refine eP 17 [] U (cS T.one3 U uK) ?_;refine bO 18 [] [] ?_;refine bO 19 [] [] ?_;refine bO 20 [] [] ?_;refine bO 21 [] [] ?_;refine eP 22 [] U (gB T.agg26 U uK U) ?_;refine eP 23 [] U (fY (cs:=[_,_,_,_,_,_]) T.st223 U U U) ?_;refine eP 24 [] U (sU (cs:=[_,_,_,_,_,_,_,_,_,_,_,_]) T.ar224 U U U) ?_;refine bO 25 [] [] ?_;refine eI ?_;refine rI 2 [] ?_;refine Ip (mA ?_);refine aL 14 [1] ?_;refine aU U (Em.Qy.indexVA (n:=2) (E:=223) (sz:=6) uO uO U U uR) ?_;refine jB 49 U (show _=Value.agg #[.slice aa la.length ca,.int .i64 (k1:Int),.int .i64 u.x.ins,.int .i64 u.x.regs,.slice h.xa u.x.code.length h.xc,.slice h.xo u.x.outs.length h.xd] from U) ?_;refine bB 1 U T.zero223 fun b2=>?_;refine aN 11 [1,1,1] ?_;refine cQ 20 U (kp _ aa ca la xs k1 m ha hA hca uJ uJ hm1 hm uJ hxk) fun v0 G0 Ho0 hle0 hp=>?_;obtain ⟨o0,q0,d0,rfl,hq0,hqd0,hqg0,rfl⟩:=hp;replace ha:=ha.up hle0;replace hab:=hab.up hle0;replace hA:=hA.up hle0;replace hB:=hB.up hle0;replace hi:=hi.up hle0;replace hT:=hT.up hle0;refine aN 20 [0] ?_;refine aU U (iF 1 T.agg26 U U U U) ?_;refine aF 1 [] ?_;refine cQ 20 U (de _ hT u.x h.xa h.xo o0 h.xc h.xd d0 q0 (yQ xs k1 m) M m hi.xc hi.xo hq0 hqg0 (Qw hMx) hM hm hRx (by rw [hqg0.1,Qx];exact hEx.1.symm)) fun v0 K0 Ho0 hlk0 hp=>?_;obtain ⟨rfl,⟨os0,s0,r0,c0,hos0,rfl,hAx,hdx,hgx,hex⟩ | ⟨hno,_⟩⟩:=hp;rotate_left
 · rw [hfx] at hno;cases hno
 rw [hfx] at hos0;obtain rfl:=gH hos0;replace ha:=ha.up hlk0;replace hab:=hab.up hlk0;replace hA:=hA.up hlk0;replace hB:=hB.up hlk0;replace hi:=hi.up hlk0;replace hT:=hT.up hlk0;refine aN 23 [0] ?_;refine aU U (fV 0 T.ar222 U U U U) ?_;refine bA 15 [0] ?_;refine dH 46 U (show _=Value.int .i64 (1:Int) from U) ?_;refine qW (mA ?_);refine aL 14 [1] ?_;refine aU U (Em.Qy.indexVA (n:=2) (E:=223) (sz:=6) uO uO U U uR) ?_;refine jB 49 U (show _=Value.agg #[.slice ab lb.length cb,.int .i64 (k2:Int),.int .i64 u.y.ins,.int .i64 u.y.regs,.slice h.ya u.y.code.length h.yc,.slice h.yo u.y.outs.length h.yd] from U) ?_;refine bB 2 U T.zero223 fun b3=>?_;refine aN 11 [2,2,2] ?_;refine cQ 20 U (kp _ ab cb lb ys k2 m hab hB hcb uJ uJ hm1 hm uJ hyk) fun v1 G1 Ho1 hle1 hp=>?_;obtain ⟨o1,q1,d1,rfl,hq1,hqd1,hqg1,rfl⟩:=hp;replace ha:=ha.up hle1;replace hab:=hab.up hle1;replace hA:=hA.up hle1;replace hB:=hB.up hle1;replace hi:=hi.up hle1;replace hT:=hT.up hle1;replace hAx:=hAx.up hle1;replace hgx:=hgx.up hle1;refine aN 20 [0] ?_;refine aU U (iF 2 T.agg26 U U U U) ?_;refine aF 1 [] ?_;refine cQ 20 U (de _ hT u.y h.ya h.yo o1 h.yc h.yd d1 q1 (yQ ys k2 m) M m hi.yc hi.yo hq1 hqg1 (Qw hMy) hM hm hRy (by rw [hqg1.1,Qx];exact hEy.1.symm)) fun v1 K1 Ho1 hlk1 hp=>?_;obtain ⟨rfl,⟨os1,s1,r1,c1,hos1,rfl,hAy,hdy,hgy,hey⟩ | ⟨hno,_⟩⟩:=hp;rotate_left
 · rw [hfy] at hno;cases hno
 rw [hfy] at hos1;obtain rfl:=gH hos1;replace ha:=ha.up hlk1;replace hab:=hab.up hlk1;replace hA:=hA.up hlk1;replace hB:=hB.up hlk1;replace hi:=hi.up hlk1;replace hT:=hT.up hlk1;replace hAx:=hAx.up hlk1;replace hgx:=hgx.up hlk1;refine aN 23 [0] ?_;refine aU U (fV 1 T.ar222 U U U U) ?_;refine bA 15 [0] ?_;refine dH 46 U (show _=Value.int .i64 (2:Int) from U) ?_;refine qW (mA ?_);refine aL 20 [0] ?_;refine aU U (fV 0 T.ar222 U U U U) ?_;refine bY 6 [0] ?_;have n0:=hgx.1;have n1:=hgy.1;rw [aW] at n0 n1;refine rZ 0 (.cells #[.slice s0 r0.length c0,.slice s1 r1.length c1] 222) U U ?_;refine gA 19 (Row 65 ([]:List TV) []) ?_;refine mW (ι:=Nat×List TV×(Option Addr×Nat×List Value)) (fun (i,q,(o,d,j))=>([(83,.int .i64 (i:Int)),(19,.slice o q.length d),(82,Go.Value.int Go.IntKind.i64 (↑(List.length r0):Int)),(12,Go.Value.int Go.IntKind.i64 (0+(↑(List.length (Go.Proofs.YtngphgeghfdjbaaGreatDoor.PV.code (Go.Proofs.YtngphgeghfdjbaaGreatDoor.UV.x u))):Int)+(↑(List.length (Go.Proofs.YtngphgeghfdjbaaGreatDoor.PV.code (Go.Proofs.YtngphgeghfdjbaaGreatDoor.UV.y u))):Int))),(11,Go.Value.pointer (Option.some (Go.Addr.mk b1 0 Option.none))),(10,Go.Value.int Go.IntKind.i64 0),(9,Go.Value.int Go.IntKind.i64 0),(8,Go.Value.slice Option.none 0 0)],[(19,o.map (·.block),Row 65 q j),(0,Option.some b1,Go.Obj.cells #[Go.Value.slice s0 (List.length r0) c0,Go.Value.slice s1 (List.length r1) c1] 222),(2,Option.some b3,Go.Obj.cells #[Go.Value.slice ab (List.length lb) cb,Go.Value.int Go.IntKind.i64 (↑k2:Int),Go.Value.int Go.IntKind.i64 (Go.Proofs.YtngphgeghfdjbaaGreatDoor.PV.ins (Go.Proofs.YtngphgeghfdjbaaGreatDoor.UV.y u)),Go.Value.int Go.IntKind.i64 (Go.Proofs.YtngphgeghfdjbaaGreatDoor.PV.regs (Go.Proofs.YtngphgeghfdjbaaGreatDoor.UV.y u)),Go.Value.slice (Go.Proofs.YtngphgeghfdjbaaGreatDoor.UH.ya h) (List.length (Go.Proofs.YtngphgeghfdjbaaGreatDoor.PV.code (Go.Proofs.YtngphgeghfdjbaaGreatDoor.UV.y u))) (Go.Proofs.YtngphgeghfdjbaaGreatDoor.UH.yc h),Go.Value.slice (Go.Proofs.YtngphgeghfdjbaaGreatDoor.UH.yo h) (List.length (Go.Proofs.YtngphgeghfdjbaaGreatDoor.PV.outs (Go.Proofs.YtngphgeghfdjbaaGreatDoor.UV.y u))) (Go.Proofs.YtngphgeghfdjbaaGreatDoor.UH.yd h)] 223),(1,Option.some b2,Go.Obj.cells #[Go.Value.slice aa (List.length la) ca,Go.Value.int Go.IntKind.i64 (↑k1:Int),Go.Value.int Go.IntKind.i64 (Go.Proofs.YtngphgeghfdjbaaGreatDoor.PV.ins (Go.Proofs.YtngphgeghfdjbaaGreatDoor.UV.x u)),Go.Value.int Go.IntKind.i64 (Go.Proofs.YtngphgeghfdjbaaGreatDoor.PV.regs (Go.Proofs.YtngphgeghfdjbaaGreatDoor.UV.x u)),Go.Value.slice (Go.Proofs.YtngphgeghfdjbaaGreatDoor.UH.xa h) (List.length (Go.Proofs.YtngphgeghfdjbaaGreatDoor.PV.code (Go.Proofs.YtngphgeghfdjbaaGreatDoor.UV.x u))) (Go.Proofs.YtngphgeghfdjbaaGreatDoor.UH.xc h),Go.Value.slice (Go.Proofs.YtngphgeghfdjbaaGreatDoor.UH.xo h) (List.length (Go.Proofs.YtngphgeghfdjbaaGreatDoor.PV.outs (Go.Proofs.YtngphgeghfdjbaaGreatDoor.UV.x u))) (Go.Proofs.YtngphgeghfdjbaaGreatDoor.UH.xd h)] 223)])) (fun (i,q,(o,d,j))=>i≤r0.length∧q=Cs r0 r1 i∧A5 o d q j) (fun (i,q,(o,d,j))=>r0.length - i) ((0,[],(none,0,[]))) (⟨aS _,by unfold Cs;rfl,fN⟩) ⟨U,U,U,U,U,U,U,U,I8⟩ ⟨U,U,U,U,I8⟩ fun ⟨i,q,(o,d,j)⟩=>fun hk=>?_;obtain ⟨hi0,hqt,hoq⟩:=hk;rcases aK i r0.length with hir | hir
 · have hir1:i<r1.length:=uJ;have hqn:q.length=i:=by rw [hqt,Qz]
   refine dN 17 [1] ?_;refine gV [1,2,0,19] [(19,13)] T.mixed U ?_;refine bO 0 [] [] ?_;refine eP 1 [0] U (fV 0 T.ar222 U U U U) ?_;refine bO 2 [0] [0] ?_;refine bO 3 [] [] ?_;refine eP 4 [] U (jH (α:=SV) T.sl86 U U uK uJ) ?_;refine eP 5 [0] U (cS T.one39 U (gZ uK uJ 0 U U)) ?_;refine eP 6 [1] U (fV 1 T.ar222 U U U U) ?_;refine bO 7 [0] [0] ?_;refine bO 8 [] [] ?_;refine eP 9 [] U (jH (α:=SV) T.sl86 U U uK uJ) ?_;refine eP 10 [0] U (cS T.one39 U (gZ uK uJ 0 U U)) ?_;refine eP 11 [] U (fY (cs:=[_,_]) T.st65 U U U) ?_;refine fC 12 ?_;refine eV (α:=TV) 20 [(⟨r0[(i:Int).toNat]?.getD default,r1[(i:Int).toNat]?.getD default⟩:TV)] U T.sl57 T.el65 U U U U U fun b4=>?_;refine dG ?_;refine fC 13 ?_;refine fZ (α:=TV) 19 U T.sl57 T.el65 U U U Ei (fP 20 U) yH yH fun a1 c1 junk1 ho1=>?_;refine dG ?_;refine bO 14 [] [] ?_;refine eI ?_;refine iN 6 [] ?_;refine eK (i+1,q++[(⟨r0[(i:Int).toNat]?.getD default,r1[(i:Int).toNat]?.getD default⟩:TV)],(a1,c1,junk1)) ?_ ?_ U (by repeat (first | exact I8 | refine ⟨U,?_⟩)) (by repeat (first | exact I8 | refine ⟨U,?_⟩))
   · exact ⟨by omega,by rw [CL,hqt],ho1⟩
   show r0.length - (i+1)<r0.length - i;omega
 obtain rfl:i=r0.length:=uJ;have hqn:q.length=r0.length:=by rw [hqt,Qz]
 refine cJ 22 [0] ?_;refine dX 19 U hoq fun G8 hle8 hAq=>?_;refine sR ?_;refine ⟨o,q,d,by rw [pQ];rw [iM],hAq,⟨by omega,fun t ht=>?_⟩,fun z hz=>⟨(hex _ (List.mem_map_of_mem hz)).2,(hey _ (List.mem_map_of_mem hz)).2⟩,U⟩;have h0:=hgx.2 t uJ;have h1:=hgy.2 t uJ;rw [SN ht] at h0 h1;rw [hqt,MU uJ];exact ⟨h0.up hle8,h1.up hle8⟩
end
def Vt (os:List (List Int)) (m n:Nat):List Int:=vY os m (List.replicate (Ed os m n os.length) 0) os.length
def MV (z:PV) (ps:List (List Int)) (m n:Nat) (v:Value) (G':A3) (Ho:Hp):Prop:=
 Ho=[]∧((vH z ps=none∧v=.tuple #[.slice none 0 0,.int .i64 0,.int .i64 20])∨∃ os,vH z ps=some os∧
  (((∀ k:Nat,n≤k→(Vt os m n)[k]?.getD 0=0)∧∃ (o:Option Addr) (q:List IV),v=.tuple #[.slice o q.length n,.int .i64 ((z.code.length:Nat):Int),.int .i64 0]∧Arr G' o q∧q.length=n∧A8 G' q ((Vt os m n).take n))∨
  ((∃ k:Nat,n≤k∧(Vt os m n)[k]?.getD 0≠0)∧v=.tuple #[.slice none 0 0,.int .i64 ((z.code.length:Nat):Int),.int .i64 5])))
theorem SO {M N:Nat} {os:List (List Int)} (h:C1 M N os) (hN:N≤8192) (i:Nat):(os[i]?.getD []).length≤8192:=by
 rcases aK i os.length with hi | hi
 · rw [(h.at hi).1];exact hN
 rw [bF hi];exact aS _
section
attribute [local irreducible] uM pb vJ uZ zV vY
theorem c95 (G:A3) (hT:C6 G) (u:UV) (h:UH) (b:Nat) (m n M N:Nat) (pa:Option Addr) (pc:Nat) (pl:List SV) (ps:List (List Int)) (hb:B7 G b (uC u h)) (hi:I0 G u h)
 (hR:uY u.z=true) (hz:u.z.ins=(ps.length:Int)) (ho15:u.z.outs.length≤15) (hpa:Arr G pa pl) (hpg:B5 G pl ps) (hev:C1 M N ps) (hM:M≤1048576) (hN:N≤4096) (hm1:1≤m) (hm:m≤4096) (hn1:1≤n) (hn:n≤8192) :
 Does Tryz.prog 95 [.pointer (some ⟨b,0,none⟩),.slice pa pl.length pc,.int .i64 (m:Int),.int .i64 (n:Int)] G [] (MV u.z ps m n):=by
 have hrz:=hb.row (off:=11) (k:=4) U;obtain ⟨fz1,fz2,fz3,fz4,fz5,fz6,fz7,fz8⟩:=vW hR;refine bU Tryz.func95 U Tryz.ntmps95 U fun w=>?_;refine aL 13 [] ?_;refine aU U (gB T.agg26 U uK U) ?_;refine aF 1 [] ?_;refine cQ 20 U (de _ hT u.z h.za h.zo pa h.zc h.zd pc pl ps M N hi.zc hi.zo hpa hpg hev hM hN hR (by rw [hpg.1];exact hz.symm)) fun v1 G1 Ho1 hle1 hp=>?_;obtain ⟨rfl,⟨os,s1,q1,d1,hos,rfl,hA1,hd1,hg1,he1⟩ | ⟨hno,k9,rfl⟩⟩:=hp
 · have hol:os.length≤15:=by
    unfold vH at hos;cases hrr:zG u.z ps u.z.code.length with
    | none=>rw [hrr] at hos;cases hos
    | some rs =>
      rw [hrr] at hos;obtain rfl:=gH hos;unfold xE;rw [aW];exact ho15
   have hql:q1.length≤15:=by rw [hg1.1];exact hol
   refine aN 24 [0] ?_;refine cQ 20 U (ul _ s1 d1 q1 os m n (M+3*u.z.code.length) hA1 hg1 hql hm1 hm hn1 hn uJ (SO he1 uJ) (fun i hi=>(he1.at hi).2)) fun v2 G2 Ho2 hle2 hp=>?_;obtain ⟨hz0,o,q,rfl,hA2,hq2,hB2,rfl⟩ | ⟨hnz,rfl,rfl⟩:=hp
   · refine bA 18 [] ?_;refine sR ?_;exact ⟨U,.inr ⟨os,hos,.inl ⟨hz0,o,q,U,hA2,hq2,hB2⟩⟩⟩
   refine bA 18 [] ?_;refine sR ?_;exact ⟨U,.inr ⟨os,hos,.inr ⟨hnz,U⟩⟩⟩
 refine bA 27 [1] ?_;refine sR ?_;exact ⟨U,.inl ⟨hno,U⟩⟩
end
section
set_option maxHeartbeats 8000000
def TL.small (s:TL):Prop:=s.lv≤9223372036854775807∧s.ca≤9223372036854775807∧s.pr≤9223372036854775807∧s.st≤9223372036854775807
def TL.plus (s t:TL):TL:=⟨s.lv+t.lv,s.ca+t.ca,s.pr+t.pr,s.st+t.st⟩
theorem Th {s t:TL} (h:(s.plus t).small):s.small:=by
 obtain ⟨h1,h2,h3,h4⟩:=h;unfold TL.plus at h1 h2 h3 h4;dsimp only at h1 h2 h3 h4;exact ⟨by omega,by omega,by omega,by omega⟩
def wY (s F:TL) (lr i:Nat):TL:=⟨s.lv+1+i*F.lv,s.ca+i*F.ca+i,s.pr+i*F.pr,s.st+lr+i*F.st⟩
theorem Vu (s F:TL) (lr:Nat):wY s F lr 0=⟨s.lv+1,s.ca,s.pr,s.st+lr⟩:=by unfold wY;simp only [jN,fQ]
theorem MW (s F:TL) (lr i:Nat):TL.plus ⟨(wY s F lr i).lv,(wY s F lr i).ca+1,(wY s F lr i).pr,(wY s F lr i).st⟩ F=wY s F lr (i+1):=by
 unfold wY TL.plus;simp only [eB,oD];congr 1 <;> omega
theorem Yk {s F:TL} {lr cz n i st:Nat} (hst:st=lr+cz) (hi:i≤n) (h:(s.plus ⟨1+n*F.lv,n+n*F.ca,n*F.pr,st+n*F.st⟩).small):(wY s F lr i).small∧(wY s F lr i).st+cz≤9223372036854775807:=by
 obtain ⟨h1,h2,h3,h4⟩:=h;unfold TL.plus at h1 h2 h3 h4;unfold wY TL.small;dsimp only at *;have a1:=dQ F.lv hi;have a2:=dQ F.ca hi;have a3:=dQ F.pr hi;have a4:=dQ F.st hi;exact ⟨⟨by omega,by omega,by omega,by omega⟩,by omega⟩
theorem MX {s F:TL} {lr cz n st:Nat} (hst:st=lr+cz):(⟨(wY s F lr n).lv,(wY s F lr n).ca,(wY s F lr n).pr,(wY s F lr n).st+cz⟩:TL)=s.plus ⟨1+n*F.lv,n+n*F.ca,n*F.pr,st+n*F.st⟩:=by
 subst hst;unfold wY TL.plus;congr 1 <;> dsimp only <;> omega
theorem YC {n1 n2 k1 k2:Nat} {th:Int} (h:zA n1 n2 k1 k2 th):max th 1<(min n1 n2:Nat)∧vZ n1 n2 k1 k2<max n1 n2:=h
theorem YD (cL cB D m:Nat):2*m+2≤Nd cL cB D m:=by unfold Nd;exact Nat.le_add_right _ _
theorem MY {xs ys:List Int} {k1 k2 m:Nat} (hm:1≤m) (a b:R2):(wT (zV xs k1 m a) (zV ys k2 m b)).length=2*m - 1:=by
 rw [Dd HD HD,Ao,Ao];omega
theorem FV (xs ys:List Int) (k1 k2 m:Nat) (l:List R2):(As xs ys k1 k2 m l).length=l.length:=by unfold As;rw [aW]
theorem MZ {xs ys:List Int} {k1 k2 m t:Nat} {l:List R2} (h:t<l.length):(As xs ys k1 k2 m l)[t]?.getD []=wT (zV xs k1 m (l[t]?.getD default)) (zV ys k2 m (l[t]?.getD default)):=SN h
theorem FW {xs ys:List Int} {k1 k2 m:Nat} {l:List R2} {zs:List Int} (h:zs∈As xs ys k1 k2 m l):∃ q,q∈l∧wT (zV xs k1 m q) (zV ys k2 m q)=zs:=by
 unfold As at h;exact cV.1 h
theorem NA {xs ys:List Int} {k1 k2 m n L:Nat} (hm:1≤m) (hj:∀ all,xs.length+ys.length - 1≤all→(∀ i:Nat,i<L→i*m+(2*m - 1)≤all)→vY (zJ xs ys k1 k2 m L) m (List.replicate all 0) L=wT xs ys++List.replicate (all - (xs.length+ys.length - 1)) 0) (hn:n=xs.length+ys.length - 1) :
 ∃ K,Vt (zJ xs ys k1 k2 m L) m n=wT xs ys++List.replicate K 0:=by
 unfold Vt;rw [BW];refine ⟨_,hj _ (by rw [←hn];exact Qv _ _ _ _) fun i hi=>?_⟩;have:=Lu (zJ xs ys k1 k2 m L) m n hi;rw [BX hi] at this;exact this
attribute [local irreducible] uM pb vJ uZ zV vY vZ zA Nd wY wT Vt As zJ
theorem c71 (u:UV) (h:UH) (b k1 k2 cL cB:Nat) (th:Int) (e1:u.k1=(k1:Int)) (e2:u.k2=(k2:Int)) (hU:vN (k1:Int) (k2:Int) u.pl u.x u.y u.z=(0,0)) (hcx:u.x.code.length≤cL) (hcy:u.y.code.length≤cL) (hcz:u.z.code.length≤cB) (tb:Nat) :
 ∀ (N:Nat) (G:A3) (hT:C6 G) (hb:B7 G b (uC u h)) (hi:I0 G u h) (aa ab:Option Addr) (ca cb:Nat) (la lb:List IV) (xs ys:List Int) (M:Nat) (ha:Arr G aa la) (hab:Arr G ab lb) (hca:la.length≤ca) (hcb:lb.length≤cb) (hA:A8 G la xs) (hB:A8 G lb ys) (hMx:Below M xs) (hMy:Below M ys)
  (h1:la.length≤2048) (h2:lb.length≤2048) (hN:max la.length lb.length≤N) (hlim:Nd cL cB (Cc k1 k2 th la.length lb.length) M≤1048576) (s:TL) (hs:(s.plus (wP k1 k2 u.pl.length (u.x.code.length+u.y.code.length+u.z.code.length) th la.length lb.length)).small),
 Does Tryz.prog 71 [.pointer (some ⟨b,0,none⟩),.slice aa la.length ca,.slice ab lb.length cb,.int .i64 th,.pointer (some ⟨tb,0,none⟩)] G [(0,some tb,.cells #[.int .i64 (s.lv:Int),.int .i64 (s.ca:Int),.int .i64 (s.pr:Int),.int .i64 (s.st:Int)] 37)]
  (fun v G' Ho=>∃ (o:Option Addr) (c:Nat) (q:List IV) (s':TL),v=.tuple #[.slice o q.length c,.int .i64 0]∧Arr G' o q∧q.length≤c∧(q.length=0↔o=none)∧(o=none→c=0)∧A8 G' q (wT xs ys)∧
   s'=s.plus (wP k1 k2 u.pl.length (u.x.code.length+u.y.code.length+u.z.code.length) th la.length lb.length)∧Ho=[(0,some tb,.cells #[.int .i64 (s'.lv:Int),.int .i64 (s'.ca:Int),.int .i64 (s'.pr:Int),.int .i64 (s'.st:Int)] 37)]):=by
 obtain ⟨hW,hRx,hEx,hRy,hEy,hRz,hIz⟩:=Hl (show (vN (k1:Int) (k2:Int) u.pl u.x u.y u.z).2=0 by rw [hU]);obtain ⟨hP1,hP2,hn,hRL⟩:=Al hW;have hk1:1≤k1∧k1≤8:=by have h1:=hP1.1;have h2:=hP1.2;omega
 have hk2:1≤k2∧k2≤8:=by have h1:=hP2.1;have h2:=hP2.2;omega
 obtain ⟨fx1,fx2,fx3,fx4,fx5,fx6,fx7,fx8⟩:=vW hRx;obtain ⟨fy1,fy2,fy3,fy4,fy5,fy6,fy7,fy8⟩:=vW hRy;obtain ⟨fz1,fz2,fz3,fz4,fz5,fz6,fz7,fz8⟩:=vW hRz;intro N;induction N using Nat.strongRecOn with
 | ind N ih =>
 intro G hT hb hi aa ab ca cb la lb xs ys M ha hab hca hcb hA hB hMx hMy h1 h2 hN hlim s hs;have ea:=hA.1;have eb:=hB.1;by_cases he:zA la.length lb.length k1 k2 th
 · have hne:¬¬zA la.length lb.length k1 k2 th:=fun h=>h he;obtain ⟨he1,he2⟩:=YC he;obtain ⟨hbk1,hbk2⟩:=MI (n1:=la.length) (n2:=lb.length) hk1.1 hk2.1;have hbp:=XL (n1:=la.length) (n2:=lb.length) (k2:=k2) hk1.1 uJ;rw [Qk (n:=u.pl.length) (st:=u.x.code.length+u.y.code.length+u.z.code.length) he] at hs ⊢;rw [Gd he,MM] at hlim;have hl2:2*(M+3*cL)+2≤Nd cL cB (Cc k1 k2 th (vZ la.length lb.length k1 k2) (vZ la.length lb.length k1 k2)) (M+3*cL):=YD _ _ _ _;generalize hmm:vZ la.length lb.length k1 k2=m at *;generalize hF:wP k1 k2 u.pl.length (u.x.code.length+u.y.code.length+u.z.code.length) th m m=F at *;have hz0:=Yk (i:=0) (lr:=u.x.code.length+u.y.code.length) (cz:=u.z.code.length) U (aS _) hs;obtain ⟨⟨z1,z2,z3,z4⟩,z5⟩:=hz0;rw [Vu] at z1 z2 z3 z4 z5;dsimp only at z1 z2 z3 z4 z5;obtain ⟨hfx,hfy,hfz,hjoin⟩:=Vi hU hbp (xs:=xs) (ys:=ys) uJ uJ uJ uJ;refine bU Tryz.func71 U Tryz.ntmps71 U fun w=>?_;refine aL 14 [] ?_;refine dC U (c80 _ u h b k1 k2 la.length lb.length th hb e1 e2 uJ uJ hk1 hk2) ?_;refine aN 11 [] ?_;refine aU U (gF U) ?_;refine aN 11 [0] ?_;refine jB 56 U (show _=Value.int .i64 (m:Int) by first | rfl | rw [hmm]) ?_;refine jB 12 U (show _=Value.int .i64 (m:Int) by first | rfl | rw [hmm]) ?_;refine cQ 20 U (c81 _ hT u h b k1 k2 m M aa ab ca cb la lb xs ys hb hi e1 e2 hU ha hab hca hcb hA hB hMx hMy uJ hbp uJ uJ uJ uJ uJ uJ uJ) fun v1 G1 Ho1 hle1 hp=>?_;obtain ⟨o1,q1,d1,rfl,hq1,htk,hbt,rfl⟩:=hp;replace hb:=hb.up hle1;replace hi:=hi.up hle1;replace hT:=hT.up hle1;refine bY 58 [0,0,0,0,0] ?_;refine rZ 0 (.cells #[.int .i64 ((wY s F (u.x.code.length+u.y.code.length) 0).lv:Int),.int .i64 ((wY s F (u.x.code.length+u.y.code.length) 0).ca:Int),.int .i64 ((wY s F (u.x.code.length+u.y.code.length) 0).pr:Int),.int .i64 ((wY s F (u.x.code.length+u.y.code.length) 0).st:Int)] 37) U (by rw [Vu];rfl) ?_;refine gA 19 (Row 39 ([]:List SV) []) ?_;refine fX (ι:=Nat×A3×List SV×(Option Addr×Nat×List Value)) (fun (i,Gx,q,(o,d,j))=>([(81,.int .i64 (i:Int)),(19,.slice o q.length d),(80,Go.Value.int Go.IntKind.i64 (↑(List.length q1):Int)),(79,Go.Value.slice o1 (List.length q1) d1),(18,Go.Value.int Go.IntKind.i64 0),(17,Go.Value.int Go.IntKind.i64 (↑(List.length (Go.Proofs.YtngphgeghfdjbaaGreatDoor.PV.code (Go.Proofs.YtngphgeghfdjbaaGreatDoor.UV.x u))+List.length (Go.Proofs.YtngphgeghfdjbaaGreatDoor.PV.code (Go.Proofs.YtngphgeghfdjbaaGreatDoor.UV.y u))):Int)),(12,Go.Value.int Go.IntKind.i64 (↑m:Int)),(0,Go.Value.pointer (Option.some (Go.Addr.mk b 0 Option.none))),(1,Go.Value.slice aa (List.length la) ca),(2,Go.Value.slice ab (List.length lb) cb),(3,Go.Value.int Go.IntKind.i64 th),(4,Go.Value.pointer (Option.some (Go.Addr.mk tb 0 Option.none)))],[(0,some tb,.cells #[.int .i64 ((wY s F (u.x.code.length+u.y.code.length) i).lv:Int),.int .i64 ((wY s F (u.x.code.length+u.y.code.length) i).ca:Int),.int .i64 ((wY s F (u.x.code.length+u.y.code.length) i).pr:Int),.int .i64 ((wY s F (u.x.code.length+u.y.code.length) i).st:Int)] 37),(19,o.map (·.block),Row 39 q j)])) (fun (i,Gx,q,(o,d,j))=>Gx) (fun (i,Gx,q,(o,d,j))=>i≤u.pl.length∧G1.le Gx∧q.length=i∧(∀ t:Nat,t<i→C8 Gx (q[t]?.getD default) (wT (zV xs k1 m (u.pl[t]?.getD default)) (zV ys k2 m (u.pl[t]?.getD default))))∧A5 o d q j) (fun (i,Gx,q,(o,d,j))=>u.pl.length - i) ((0,G1,[],(none,0,[]))) (⟨aS _,cC _,U,fun t ht=>by omega,fN⟩) U ⟨U,U,U,U,U,U,U,U,U,U,U,U,I8⟩ ⟨U,U,I8⟩ fun ⟨i,Gx,q,(o,d,j)⟩=>fun hk=>?_;obtain ⟨hi0,hgx,hqi,hbq,hoq⟩:=hk;replace hb:=hb.up hgx;replace hi:=hi.up hgx;replace hT:=hT.up hgx;replace htk:=htk.up hgx;replace hq1:=hq1.up hgx;have htl:=htk.1;rcases aK i u.pl.length with hil | hil
   · have hs1:=Yk (i:=i+1) (lr:=u.x.code.length+u.y.code.length) (cz:=u.z.code.length) U uJ hs;have hnx:=MW s F (u.x.code.length+u.y.code.length) i;rw [←hnx] at hs1;obtain ⟨hs1,_⟩:=hs1;obtain ⟨y1,y2,y3,y4⟩:=Th hs1;dsimp only at y1 y2 y3 y4;obtain ⟨⟨l1,a1,a2,a3,a4⟩,⟨l2,b1,b2,b3,b4⟩⟩:=htk.2 i hil;have hbti:=hbt _ (show (u.pl[i]?.getD default)∈u.pl by rw [aA hil];exact dY hil);have hl1:l1.length=m:=by rw [a4.1,Ao]
     have hl2':l2.length=m:=by rw [b4.1,Ao]
     refine aL 13 [1] ?_;refine aU U (jH (α:=TV) T.sl57 U U uK uJ) ?_;refine aU U (gB T.agg65 U (jV uK uJ) U) ?_;refine bB 20 U T.zero65 fun b5=>?_;refine aN 24 [20,0,0,20,20] ?_;refine jB 95 U (show _=Value.slice (q1[(i:Int).toNat]?.getD default).p.a l1.length (q1[(i:Int).toNat]?.getD default).p.c by rw [aH,a1]) ?_;refine jB 97 U (show _=Value.slice (q1[(i:Int).toNat]?.getD default).q.a l2.length (q1[(i:Int).toNat]?.getD default).q.c by rw [aH,b1]) ?_;refine oF 0 (.cells #[.int .i64 ((⟨(wY s F (u.x.code.length+u.y.code.length) i).lv,(wY s F (u.x.code.length+u.y.code.length) i).ca+1,(wY s F (u.x.code.length+u.y.code.length) i).pr,(wY s F (u.x.code.length+u.y.code.length) i).st⟩:TL).lv:Int),.int .i64 ((⟨(wY s F (u.x.code.length+u.y.code.length) i).lv,(wY s F (u.x.code.length+u.y.code.length) i).ca+1,(wY s F (u.x.code.length+u.y.code.length) i).pr,(wY s F (u.x.code.length+u.y.code.length) i).st⟩:TL).ca:Int),.int .i64 ((⟨(wY s F (u.x.code.length+u.y.code.length) i).lv,(wY s F (u.x.code.length+u.y.code.length) i).ca+1,(wY s F (u.x.code.length+u.y.code.length) i).pr,(wY s F (u.x.code.length+u.y.code.length) i).st⟩:TL).pr:Int),.int .i64 ((⟨(wY s F (u.x.code.length+u.y.code.length) i).lv,(wY s F (u.x.code.length+u.y.code.length) i).ca+1,(wY s F (u.x.code.length+u.y.code.length) i).pr,(wY s F (u.x.code.length+u.y.code.length) i).st⟩:TL).st:Int)] 37) U U ?_;refine cQ 0 U (ih m uJ _ hT hb hi _ _ _ _ l1 l2 _ _ (M+3*cL) (by rw [aH];exact a3) (by rw [aH];exact b3) Ob Ob a4 b4 (hbti.1.mono uJ) (hbti.2.mono uJ) uJ uJ uJ (by rw [hl1,hl2'];omega) ⟨(wY s F (u.x.code.length+u.y.code.length) i).lv,(wY s F (u.x.code.length+u.y.code.length) i).ca+1,(wY s F (u.x.code.length+u.y.code.length) i).pr,(wY s F (u.x.code.length+u.y.code.length) i).st⟩ (by rw [hl1,hl2',hF];exact hs1)) fun v2 G2 Ho2 hle2 hp=>?_;obtain ⟨o2,c2,q2,s2,rfl,hA2,hqc2,hq02,ho02,hB2,hs2,rfl⟩:=hp;rw [hl1,hl2',hF,hnx] at hs2;subst hs2;refine aN 20 [0] ?_;refine eV (α:=SV) 21 [⟨_,_,_⟩] U T.sl86 T.el39 U U U U U fun b6=>?_;refine fZ (α:=SV) 19 U T.sl86 T.el39 U U U Ei (fP 21 U) yH yH fun a1 c1 junk1 ho1=>?_;refine bA 8 [] ?_;refine eK ((i+1,G2,q++[(⟨o2,q2.length,c2⟩:SV)],(a1,c1,junk1))) ?_ ?_ U ⟨U,U,U,U,U,U,U,U,U,U,U,U,I8⟩ ⟨U,U,I8⟩
     · refine ⟨by omega,bH hgx hle2,by rw [aI,hqi];rfl,fun t ht=>?_,ho1⟩;rcases aK t i with h | h
       · rw [bC uJ];exact (hbq t h).up hle2
       obtain rfl:t=i:=uJ;rw [cD uJ,hqi,iW];exact ⟨q2,U,hqc2,hA2,hB2⟩
     show u.pl.length - (i+1)<u.pl.length - i;omega
   obtain rfl:i=u.pl.length:=uJ;have hpl:(As xs ys k1 k2 m u.pl).length=u.pl.length:=FV _ _ _ _ _ _;have hpat:∀ t:Nat,t<u.pl.length→(As xs ys k1 k2 m u.pl)[t]?.getD []=wT (zV xs k1 m (u.pl[t]?.getD default)) (zV ys k2 m (u.pl[t]?.getD default)):=fun t ht=>MZ ht;have hpe:C1 (2*(M+3*cL)+1) (2*m - 1) (As xs ys k1 k2 m u.pl):=fun zs hz=>by
    obtain ⟨r,hr,rfl⟩:=FW hz;exact ⟨MY hbp _ _,Qp ((hbt r hr).1.mono uJ) ((hbt r hr).2.mono uJ) (by rw [Ao];omega)⟩
   have hmz:=Yk (i:=u.pl.length) (lr:=u.x.code.length+u.y.code.length) (cz:=u.z.code.length) U (aG _) hs;obtain ⟨⟨w1,w2,w3,w4⟩,w5⟩:=hmz;have hml:=MX (s:=s) (F:=F) (lr:=u.x.code.length+u.y.code.length) (cz:=u.z.code.length) (n:=u.pl.length) U;obtain ⟨K,hjK⟩:=NA hbp hjoin (n:=la.length+lb.length - 1) (by rw [ea,eb]);have hcl:(wT xs ys).length=la.length+lb.length - 1:=by rw [Dd uJ uJ,ea,eb]
   refine dN 12 [0] ?_;refine oG 19 U hoq fun G8 hle8 hAq=>?_;replace hb:=hb.up hle8;replace hi:=hi.up hle8;replace hT:=hT.up hle8;refine aL 11 [] ?_;refine jB 120 U (show _=Value.int .i64 ((la.length+lb.length - 1:Nat):Int) by congr 1;omega) ?_;refine cQ 20 U (c95 _ hT u h b m (la.length+lb.length - 1) (2*(M+3*cL)+1) (2*m - 1) o d q (As xs ys k1 k2 m u.pl) hb hi hRz (by rw [hpl];exact hIz.2.1) (by have:=hIz.2.2.1;omega) hAq ⟨by rw [hpl];exact hqi,fun t ht=>by rw [hpat t uJ];exact (hbq t uJ).up hle8⟩ hpe uJ uJ hbp uJ uJ uJ) fun v2 G2 Ho2 hle2 hp=>?_;obtain ⟨rfl,⟨hno,_⟩ | ⟨os,hos,hcase⟩⟩:=hp
   · rw [hfz] at hno;cases hno
   rw [hfz] at hos;obtain rfl:=gH hos;rw [hjK] at hcase;obtain ⟨hz0,o9,q9,rfl,hA9,hq9,hB9⟩ | ⟨⟨k,hk,hkn⟩,_⟩:=hcase
   · rw [fA uJ,eQ uJ] at hB9;have hon:o9≠none:=by
      rcases hA9.2 with h0 | ⟨b9,oo,rfl,_⟩
      · omega
      exact fun h=>xY
     refine bA 31 [0,0] ?_;refine jZ (.inr U) (Ho:=Hp.only _ [0]) U (.tmp U) (.tmp U) (aV _ _) ?_;refine ⟨o9,la.length+lb.length - 1,q9,_,U,hA9,by omega,⟨fun h=>by omega,fun h=>absurd h hon⟩,fun h=>absurd h hon,hB9,U,?_⟩;rw [←hml];rfl
   refine absurd ?_ hkn;rw [cD uJ];cases hr:(List.replicate K (0:Int))[k - (wT xs ys).length]? with
   | none=>rfl
   | some v=>rw [iH (iR hr)];rfl
 have hfo:=Lr (n:=u.pl.length) (st:=u.x.code.length+u.y.code.length+u.z.code.length) he;rw [hfo] at hs ⊢;obtain ⟨s1,s2,s3,s4⟩:=hs;unfold TL.plus at s1 s2 s3 s4;dsimp only at s1 s2 s3 s4;have hdo:=zK he;rw [hdo,ML] at hlim;have hpn:xs.length*ys.length=la.length*lb.length:=by rw [ea,eb]
 refine bU Tryz.func71 U Tryz.ntmps71 U fun w=>?_;refine aL 14 [] ?_;refine dC U (c80 _ u h b k1 k2 la.length lb.length th hb e1 e2 uJ uJ hk1 hk2) ?_;refine aN 11 [] ?_;refine aU U (gF U) ?_;refine aN 7 [1] ?_;refine cQ 20 U (c38 _ aa ab ca cb la lb xs ys M ha hab hA hB hMx hMy uJ uJ uJ) fun v1 G1 Ho1 hle1 hp=>?_;obtain ⟨o,c,q,rfl,hA1,hqc,hq0,ho0,hqB,rfl⟩:=hp;rw [hpn];generalize la.length*lb.length=pn at *;refine bA 29 [0,0] ?_;refine jZ (.inr U) (Ho:=Hp.only _ [0]) U (.tmp U) (.tmp U) (aV _ _) ?_;exact ⟨o,c,q,_,U,hA1,hqc,hq0,ho0,hqB,U,by unfold TL.plus;simp only [fQ,pQ];rfl⟩
end
def Ct (u:UV):Nat:=u.x.code.length+u.y.code.length+u.z.code.length
structure Cnt (u:UV) (k1 k2:Nat):Prop where
 e1:u.k1=(k1:Int)
 e2:u.k2=(k2:Int)
 a1:1≤k1
 b1:k1≤8
 a2:1≤k2
 b2:k2≤8
 n:k1+k2=u.pl.length+1
def gh (t:TL):List Value:=[.int .i64 (t.lv:Int),.int .i64 (t.ca:Int),.int .i64 (t.pr:Int),.int .i64 (t.st:Int)]
theorem SP {u:UV} (h:vN u.k1 u.k2 u.pl u.x u.y u.z=(0,0)):∃ k1 k2,Cnt u k1 k2:=by
 have hW:vR u.k1 u.k2 u.pl=0:=by
  refine gC fun hW=>?_;unfold vN at h;rw [aM hW] at h;exact hW (Prod.mk.inj h).2
 obtain ⟨hP1,hP2,hL,hRL⟩:=Al hW;have h1:=hP1.1;have h2:=hP1.2;have h3:=hP2.1;have h4:=hP2.2;refine ⟨u.k1.toNat,u.k2.toNat,by omega,by omega,by omega,by omega,by omega,by omega,by omega⟩
section
attribute [local irreducible] vZ zA uZ
theorem c19 (G:A3) (u:UV) (h:UH) (k1 k2:Nat) (hc:Cnt u k1 k2) (hs:Ct u≤49152) (th:Int):∀ (N n1 n2:Nat),max n1 n2=N→N≤2048→
 Does Tryz.prog 19 [.agg (uC u h).toArray,.int .i64 (n1:Int),.int .i64 (n2:Int),.int .i64 th] G [] (fun v G' Ho=>v=.agg (gh (wP k1 k2 u.pl.length (Ct u) th n1 n2)).toArray∧G'=G∧Ho=[]):=by
 obtain ⟨uk1,uk2,pl,x,y,z⟩:=u;obtain ⟨e1,e2,a1,b1,a2,b2,hn⟩:=hc;dsimp only at e1 e2 hn;subst e1 e2;unfold Ct at hs ⊢;dsimp only at hs ⊢;generalize hst:x.code.length+y.code.length+z.code.length=st at hs ⊢;have hpl:pl.length≤15:=uJ;intro N;induction N using Nat.strongRecOn with
 | _ N ih =>
   intro n1 n2 hN hN2;have hf:=Vn (k1:=k1) (k2:=k2) (n:=pl.length) (st:=st) (n1:=n1) (n2:=n2) (th:=th) a1 b1 a2 b2 hn uJ hs;by_cases he:zA n1 n2 k1 k2 th
   · have hlt:vZ n1 n2 k1 k2<N:=by rw [←hN];exact (show zA n1 n2 k1 k2 th from he) |> fun g=>by unfold zA at g;exact g.2
     have ih':=ih _ hlt (vZ n1 n2 k1 k2) (vZ n1 n2 k1 k2) (Nat.max_self _) uJ;rw [Qk he] at hf ⊢;generalize wP k1 k2 pl.length st th (vZ n1 n2 k1 k2) (vZ n1 n2 k1 k2)=t at ih' hf ⊢;obtain ⟨f1,f2,f3,f4⟩:=hf;dsimp only at f1 f2 f3 f4;have hb:vZ n1 n2 k1 k2≤2048:=uJ;unfold uC;dsimp only;refine bU Tryz.func19 U Tryz.ntmps19 U fun w=>?_;refine aL 2 [] ?_;refine gU 0 U U U fun b3=>?_;refine bB 1 U T.zero37 fun b4=>?_;refine aN 12 [0,0] ?_;refine dC U (c30 _ _ _ _ _ _ uJ uJ uJ uJ) ?_;refine aU U (gF U) ?_;refine bY 2 [] ?_;refine jF U (fun hc1=>?_) fun hc1=>?_;refine aL 4 [] ?_;refine aU U (nC U U) ?_;refine aU U (fY (cs:=[_,_,_,_]) T.st37 U U U) ?_;refine bA 5 [1] ?_;refine cP (.inr U) (Ho:=Hp.only _ []) U (.agg 1 U U T.agg37) (aV _ _) ?_;rotate_left;refine aL 18 [0,0,0] ?_;refine dC U (c34 _ _ _ _ _ uJ uJ uJ uJ) ?_;refine aN 9 [0] ?_;refine dC U (by apply ih' <;> first | assumption | omega | rfl) ?_;refine bB 2 U T.zero37 fun b5=>?_;refine aN 8 [2,2] ?_;refine aU U (qZ U U uJ) ?_;refine aF 5 [2] ?_;refine aU U (qZ U U uJ) ?_;refine aF 4 [2] ?_;refine aU U (qZ U U uJ) ?_;refine aF 17 [0,0,0,2] ?_;refine aU U (qZ U U uJ) ?_;refine aF 1 [] ?_;refine aU U (fY (cs:=[_,_,_,_]) T.st37 U U U) ?_;refine bA 4 [1] ?_;refine cP (.inr U) (Ho:=Hp.only _ []) U (.agg 1 U U T.agg37) (aV _ _) ?_;rotate_left
     · exact absurd he uK
     refine ⟨?_,U,U⟩;unfold gh;dsimp only;rw [←hst];simp only [pQ,dS,Int.natCast_one]
   rw [Lr he] at hf ⊢;obtain ⟨f1,f2,f3,f4⟩:=hf;dsimp only at f1 f2 f3 f4;unfold uC;dsimp only;refine bU Tryz.func19 U Tryz.ntmps19 U fun w=>?_;refine aL 2 [] ?_;refine gU 0 U U U fun b3=>?_;refine bB 1 U T.zero37 fun b4=>?_;refine aN 12 [0,0] ?_;refine dC U (c30 _ _ _ _ _ _ uJ uJ uJ uJ) ?_;refine aU U (gF U) ?_;refine aN 7 [1] ?_;refine aU U (qZ U U uJ) ?_;refine aU U (fY (cs:=[_,_,_,_]) T.st37 U U U) ?_;refine bA 5 [1] ?_;refine cP (.inr U) (Ho:=Hp.only _ []) U (.agg 1 U U T.agg37) (aV _ _) ?_;refine ⟨?_,U,U⟩;unfold gh;dsimp only;simp only [dS];rfl
end
def IZ (n1 n2:Int):Prop:=((0≤n1∧0≤n2)∧n1≤2048)∧n2≤2048
instance (n1 n2:Int):Decidable (IZ n1 n2):=inferInstanceAs (Decidable (_∧_))
section
attribute [local irreducible] vZ zA uZ IZ
end
section
attribute [local irreducible] uM pb vJ uZ zV vY
theorem Ju (F:TL):TL.plus ⟨0,0,0,0⟩ F=F:=by
 unfold TL.plus;simp only [cF]
theorem c21 (u:UV) (h:UH) (b k1 k2 cL cB:Nat) (th:Int) (e1:u.k1=(k1:Int)) (e2:u.k2=(k2:Int)) (hU:vN (k1:Int) (k2:Int) u.pl u.x u.y u.z=(0,0)) (hcx:u.x.code.length≤cL) (hcy:u.y.code.length≤cL) (hcz:u.z.code.length≤cB) (G:A3) (hT:C6 G) (hb:B7 G b (uC u h)) (hi:I0 G u h) (aa ab:Option Addr) (ca cb:Nat) (la lb:List IV) (xs ys:List Int) (M:Nat) (ha:Arr G aa la) (hab:Arr G ab lb) (hca:la.length≤ca) (hcb:lb.length≤cb) (hA:A8 G la xs) (hB:A8 G lb ys) (hMx:Below M xs) (hMy:Below M ys)
 (h1:la.length≤2048) (h2:lb.length≤2048) (hlim:Nd cL cB (Cc k1 k2 th la.length lb.length) M≤1048576) (hs:(wP k1 k2 u.pl.length (u.x.code.length+u.y.code.length+u.z.code.length) th la.length lb.length).small) :
 Does Tryz.prog 21 [.pointer (some ⟨b,0,none⟩),.slice aa la.length ca,.slice ab lb.length cb,.int .i64 th] G [] (fun v G' Ho=>∃ (o:Option Addr) (c:Nat) (q:List IV),v=.tuple #[.slice o q.length c,.agg (gh (wP k1 k2 u.pl.length (u.x.code.length+u.y.code.length+u.z.code.length) th la.length lb.length)).toArray,.int .i64 0]∧
  Arr G' o q∧q.length≤c∧(q.length=0↔o=none)∧(o=none→c=0)∧A8 G' q (wT xs ys)∧Ho=[]):=by
 obtain ⟨F,hF⟩:∃ F,F=wP k1 k2 u.pl.length (u.x.code.length+u.y.code.length+u.z.code.length) th la.length lb.length:=⟨_,U⟩
 have hs0:(TL.plus ⟨0,0,0,0⟩ (wP k1 k2 u.pl.length (u.x.code.length+u.y.code.length+u.z.code.length) th la.length lb.length)).small:=by rw [Ju];exact hs
 have h71:=fun tb=>c71 u h b k1 k2 cL cB th e1 e2 hU hcx hcy hcz tb _ G hT hb hi aa ab ca cb la lb xs ys M ha hab hca hcb hA hB hMx hMy h1 h2 (aG _) hlim ⟨0,0,0,0⟩ hs0;rw [Ju] at h71;rw [←hF] at h71 ⊢;refine bU Tryz.func21 U Tryz.ntmps21 U fun w=>?_;refine aL 3 [] ?_;refine bB 0 U T.zero37 fun b1=>?_;refine aN 8 [] ?_;refine aU U (Qy.eqlPtrNil uO U U) ?_;refine bY 3 [] ?_;refine jF U (fun hc1=>?_) fun hc1=>?_;refine aL 2 [] ?_;refine aU U (fY (cs:=[_,_,_,_]) T.st37 U U U) ?_;refine bA 8 [0] ?_;refine sW (.inr U) (Ho:=Hp.only _ []) U (.tmp U) (.agg 0 U U T.agg37) (.tmp U) (aV _ _) ?_;rotate_left;refine aL 6 [] ?_;refine pJ 22 U vG ?_;refine aN 16 [0] ?_;refine bB 1 U T.zero37 fun b2=>?_;refine aN 8 [] ?_;rotate_left
 · exact absurd uK (show ¬(some (Addr.mk b 0 none)=none) by simp)
 refine oF 1 (.cells #[.int .i64 ((0:Nat):Int),.int .i64 ((0:Nat):Int),.int .i64 ((0:Nat):Int),.int .i64 ((0:Nat):Int)] 37) U U ?_;refine cQ 1 U (h71 b2) fun v1 G1 Ho1 hle1 hp=>?_;obtain ⟨o,c,q,s',rfl,hA1,hqc,hq0,ho0,hqB,rfl,rfl⟩:=hp;refine bY 18 [0] ?_;refine gV [0,1] [(0,3)] T.mixed U ?_;refine bO 0 [] [] ?_;refine bO 1 [1] [1] ?_;refine bO 2 [] [] ?_;refine fC 3 ?_;refine aF 1 [0] ?_;refine dG ?_;refine bO 4 [] [] ?_;refine eI ?_;refine iN 2 [] ?_;refine sW (.inr U) (Ho:=Hp.only _ []) U (.tmp U) (.agg 0 U U T.agg37) (.tmp U) (aV _ _) ?_;exact ⟨o,c,q,U,hA1,hqc,hq0,ho0,hqB,U⟩
end
theorem Vv {k1 k2:Int} {l:List R2} {x y z:PV} (h:(vN k1 k2 l x y z).2=0):vN k1 k2 l x y z=(0,0):=by
 unfold vN at h ⊢;split
 · rename_i hW;rw [aM hW] at h;exact absurd h hW
 rename_i hW;rw [aE hW] at h
 repeat' split at h
 all_goals first | (exact absurd h uR) | skip
 rw [aE uK,aE uK,aE uK,aE uK,aE uK,aE uK]
section
attribute [local irreducible] vN
theorem c70 (G:A3) (u:UV) (h:UH) (i:I0 G u h) (m:I3 u) :
 Does Tryz.prog 70 [.agg (uC u h).toArray] G [] (fun v G' Ho=>∃ (h':UH) (j:UJ),v=.agg (uC u h').toArray∧I5 u h' j∧Ho=SK 0 u h' j∧G'=G):=by
 obtain ⟨k1,k2,pl,xp,yp,zp⟩:=u;obtain ⟨pa,pc,xa,xc,xo,xd,ya,yc,yo,yd,za,zc,zo,zd⟩:=h;obtain ⟨hcap,hpa,hxc,hxo,hyc,hyo,hzc,hzo⟩:=i;obtain ⟨hpl,hx1,hx2,hy1,hy2,hz1,hz2⟩:=m;dsimp only at *;unfold uC;dsimp only;refine bU Tryz.func70 U Tryz.ntmps70 U fun w=>?_;refine aL 2 [] ?_;refine gU 0 U U U fun b1=>?_;refine bB 1 U T.zero28 fun b2=>?_;refine aN 6 [0] ?_;refine cQ 2 U (c25 _ _ _ _ uK uJ) fun v1 G1 Ho1 hle1 hp=>?_;obtain ⟨s1,d1,j1,rfl,hs1,rfl,rfl⟩:=hp;refine aN 10 [0] ?_;refine aU U (sU (cs:=[_,_,_]) T.ar205 U U U) ?_;refine bY 4 [] ?_;refine Ip (mA ?_);refine aL 13 [1] ?_;refine aU U (Ez.Qy.indexV (n:=3) (E:=150) uO uO uO U U uR U) ?_;refine aN 7 [] ?_;refine aU U (iF 0 T.agg26 U U U U) ?_;refine cQ 3 U (IX _ xp _ _ _ _ uK uK uJ uJ) fun v2 G2 Ho2 hle2 hp=>?_;obtain ⟨a2,o2,c2,d2,j2,m2,rfl,hc2,ho2,rfl,rfl⟩:=hp;refine aF 1 [] ?_;refine tW 0 T.size26 U U U U U U ?_;refine bA 7 [] ?_;refine dH 13 U (show _=Value.int .i64 (1:Int) from U) ?_;refine qW (mA ?_);refine aL 13 [1] ?_;refine aU U (Ez.Qy.indexV (n:=3) (E:=150) uO uO uO U U uR U) ?_;refine aN 7 [] ?_;refine aU U (iF 0 T.agg26 U U U U) ?_;refine cQ 5 U (IX _ yp _ _ _ _ uK uK uJ uJ) fun v3 G3 Ho3 hle3 hp=>?_;obtain ⟨a3,o3,c3,d3,j3,m3,rfl,hc3,ho3,rfl,rfl⟩:=hp;refine aF 1 [] ?_;refine tW 0 T.size26 U U U U U U ?_;refine bA 7 [] ?_;refine dH 13 U (show _=Value.int .i64 (2:Int) from U) ?_;refine qW (mA ?_);refine aL 13 [1] ?_;refine aU U (Ez.Qy.indexV (n:=3) (E:=150) uO uO uO U U uR U) ?_;refine aN 7 [] ?_;refine aU U (iF 0 T.agg26 U U U U) ?_;refine cQ 7 U (IX _ zp _ _ _ _ uK uK uJ uJ) fun v4 G4 Ho4 hle4 hp=>?_;obtain ⟨a4,o4,c4,d4,j4,m4,rfl,hc4,ho4,rfl,rfl⟩:=hp;refine aF 1 [] ?_;refine tW 0 T.size26 U U U U U U ?_;refine bA 7 [] ?_;refine dH 13 U (show _=Value.int .i64 (3:Int) from U) ?_;refine qW (mA ?_);refine cJ 19 [0,0,1] ?_;refine iY [2,3,4,5,6,7,8,1] uR (cP (.inr U) (Ho:=Hp.only _ [0,1,2,3,4,5,6]) U (.agg 7 U U T.agg28) (aV _ _) ?_);exact ⟨⟨s1,d1,a2,c2,o2,d2,a3,c3,o3,d3,a4,c4,o4,d4⟩,⟨j1,j2,m2,j3,m3,j4,m4⟩,U,⟨hs1,hc2,ho2,hc3,ho3,hc4,ho4⟩,U,U⟩
theorem c18 (G:A3) (u:UV) (h:UH) (i:I0 G u h) (m:I3 u) :
 Does Tryz.prog 18 [.agg (uC u h).toArray] G [] (fun v G' Ho =>
  ((vN u.k1 u.k2 u.pl u.x u.y u.z).2≠0∧v=.tuple #[.pointer none,.int .i64 (vN u.k1 u.k2 u.pl u.x u.y u.z).2]∧Ho=[])∨
  ((vN u.k1 u.k2 u.pl u.x u.y u.z).2=0∧∃ (b:Nat) (h':UH) (j:UJ),v=.tuple #[.pointer (some ⟨b,0,none⟩),.int .i64 0]∧I5 u h' j∧Ho=(0,some b,.cells (uC u h').toArray 127) :: SK 1 u h' j)):=by
 refine bU Tryz.func18 U Tryz.ntmps18 U fun w=>?_;refine aL 2 [] ?_;refine gU 0 U U U fun b1=>?_;refine aN 7 [0] ?_;refine cQ 1 U (tz _ u h i m) fun v1 G1 Ho1 hle1 hp=>?_;obtain ⟨rfl,rfl⟩:=hp;replace i:=i.up hle1;refine bY 14 [] ?_;refine jF U (fun hc1=>?_) fun hc1=>?_;refine cJ 9 [] ?_;rotate_left;refine aL 5 [0] ?_;refine cQ 1 U (c70 _ u h i m) fun v2 G2 Ho2 hle2 hp=>?_;obtain ⟨h2,j2,rfl,ho2,rfl,rfl⟩:=hp;refine aU U (fY (cs:=[_,_,_,_,_,_,_,_,_,_,_,_,_,_,_]) T.st127 U U U) ?_;refine gU 8 U U U fun b2=>?_;refine bA 5 [] ?_;rotate_left
 · refine fU ?_;exact .inl ⟨hc1,U,U⟩
 refine iY [8,1,2,3,4,5,6,7] uR (jZ (.inr U) (Ho:=Hp.only _ [0,1,2,3,4,5,6,7]) U (.tmp U) (.tmp U) (aV _ _) ?_);exact .inr ⟨jY.1 hc1,b2,h2,j2,U,ho2,U⟩
end
theorem um (G:A3) (u:UV) (h:UH) (i:I0 G u h) (m:I3 u) (hU:(vN u.k1 u.k2 u.pl u.x u.y u.z).2=0) :
 Does Tryz.prog 18 [.agg (uC u h).toArray] G [] (fun v G' Ho=>∃ (b:Nat) (h':UH) (j:UJ),v=.tuple #[.pointer (some ⟨b,0,none⟩),.int .i64 0]∧I5 u h' j∧Ho=(0,some b,.cells (uC u h').toArray 127) :: SK 1 u h' j):=
 (c18 G u h i m).mono fun v G' Ho _ hp=>hp.elim (fun k=>absurd hU k.1) fun k=>k.2
theorem uo (G:A3) (u:UV) (h:UH) (i:I0 G u h) (m:I3 u) (hU:¬(vN u.k1 u.k2 u.pl u.x u.y u.z).2=0) :
 Does Tryz.prog 18 [.agg (uC u h).toArray] G [] (fun v G' Ho=>v=.tuple #[.pointer none,.int .i64 (vN u.k1 u.k2 u.pl u.x u.y u.z).2]∧Ho=[]):=
 (c18 G u h i m).mono fun v G' Ho _ hp=>hp.elim (fun k=>k.2) fun k=>absurd k.1 hU
structure I6 (u:UV):Prop where
 pl:u.pl.length≤1048576
 x1:u.x.code.length≤1048576
 x2:u.x.outs.length≤1048576
 y1:u.y.code.length≤1048576
 y2:u.y.outs.length≤1048576
 z1:u.z.code.length≤1048576
 z2:u.z.outs.length≤1048576
def hX (p:PV) (a:Option Addr) (c:Nat) (o:Option Addr) (d:Nat):PH:=⟨p.ins,p.regs,a,p.code.length,c,o,p.outs.length,d⟩
def Vw (u:UV) (h:UH):Bool:=Ms u.pl.length [hX u.x h.xa h.xc h.xo h.xd,hX u.y h.ya h.yc h.yo h.yd,hX u.z h.za h.zc h.zo h.zd]
theorem SQ {u:UV} {h:UH} (b:I6 u) (hl:Vw u h=false):I3 u∧u.x.code.length+u.y.code.length+u.z.code.length≤600∧u.pl.length≤15:=by
 unfold Vw Ms at hl;simp only [Bool.or_eq_false_iff,eZ,cA,jO,List.sum_cons,List.sum_nil,hX] at hl;exact ⟨⟨b.pl,by omega,b.x2,by omega,b.y2,by omega,b.z2⟩,by omega,by omega⟩
theorem uq (G:A3) (u:UV) (h:UH) (b:I6 u):Does Tryz.prog 17 [.agg (uC u h).toArray] G [] (fun v G' Ho=>v=.bool (Vw u h)∧G'=G∧Ho=[]):=
 c17 G u.k1 u.k2 h.pa u.pl.length h.pc (hX u.x h.xa h.xc h.xo h.xd) (hX u.y h.ya h.yc h.yo h.yd) (hX u.z h.za h.zc h.zo h.zd) (aP b.x1 uR) (aP b.y1 uR) (aP b.z1 uR)
def CM (i:Sl.Instr):Prop:=i.op=1∧i.to=i.a
instance (i:Sl.Instr):Decidable (CM i):=inferInstanceAs (Decidable (_∧_))
theorem kv (G:A3) (u:UV) (h:UH) (i:I0 G u h) (m:I3 u) (hU:(vN u.k1 u.k2 u.pl u.x u.y u.z).2=0) :
 Does Tryz.prog 18 [.agg (uC u h).toArray] G [] (fun v G' Ho=>∃ (b:Nat) (h':UH),v=.tuple #[.pointer (some ⟨b,0,none⟩),.int .i64 0]∧B7 G' b (uC u h')∧I0 G' u h'∧Ho=[]):=
 (um G u h i m hU).frzAll.mono fun v G' Ho _ ⟨G0,Ho0,⟨b,h',j,e,hm,e2⟩,hle,hB,e3⟩=>by
  subst e2;exact ⟨b,h',e,B7.of (hB 0 b _ U),hm.lent hB (t:=1) U U U U U U U,e3⟩
section
attribute [local irreducible] vN Vw uZ IZ vZ zA
end
end Go.Proofs.YtngphgeghfdjbaaGreatDoor
