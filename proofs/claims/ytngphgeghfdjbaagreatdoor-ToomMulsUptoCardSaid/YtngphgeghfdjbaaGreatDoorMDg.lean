/- wG of the proof (part 7): what the rows' text needs of the texts that lead to it. -/
import Derived.Test.YtngphgeghfdjbaaGreatDoorMDf
set_option linter.unusedVariables false
set_option linter.unusedSimpArgs false
set_option linter.unusedSectionVars false
set_option maxHeartbeats 4000000
set_option maxRecDepth 100000
namespace Go.Proofs.YtngphgeghfdjbaaGreatDoor
open Go Go.Sl
section
attribute [local irreducible] uM pb vJ uZ p2 cst
def C1 (m N:Nat) (rs:List (List Int)):Prop:=∀ zs∈rs,zs.length=N∧Below m zs
theorem C1.at {m N:Nat} {rs:List (List Int)} (h:C1 m N rs) {k:Nat} (hk:k<rs.length):(rs[k]?.getD []).length=N∧Below m (rs[k]?.getD []):=by
 rw [aA hk];exact h _ (dY hk)
def Yi (i:Sl.Instr) (rs:List (List Int)) (H0:Hp) (v:Value) (G':A3) (Ho:Hp):Prop:=
 ∃ s:SV,v=.tuple #[.slice s.a s.n s.c,.bool (decide (zP i rs≠none))]∧(∀ z,zP i rs=some z→C8 G' s z)∧Ho=H0
theorem Ap {i:Sl.Instr} {rs:List (List Int)} {H0:Hp} {s:SV} {G':A3} {z:List Int} (h:zP i rs=some z) (hx:C8 G' s z):Yi i rs H0 (.tuple #[.slice s.a s.n s.c,.bool true]) G' H0:=
 ⟨s,by rw [cX (show zP i rs≠none from fun e=>by rw [e] at h;cases h)],fun z' h'=>by rw [h] at h';cases h';exact hx,U⟩
theorem CC {i:Sl.Instr} {rs:List (List Int)} {H0:Hp} {G':A3} (h:zP i rs=none):Yi i rs H0 (.tuple #[.slice none 0 0,.bool false]) G' H0:=
 ⟨⟨none,0,0⟩,by rw [cM (show ¬zP i rs≠none from fun e=>e h)],(fun z hz=>by rw [h] at hz;cases hz),U⟩
theorem zY {G:A3} {s:Option Addr} {r:List IV} {d:Nat} {zs:List Int} (hA:Arr G s r) (hd:r.length≤d) (hB:A8 G r zs):C8 G ⟨s,r.length,d⟩ zs:=⟨r,U,hd,hA,hB⟩
theorem SD (xs:List Int):(xs.map fun x=>-1*x)=xs.map fun x=>-x:=by
 congr 1;funext x;rw [lK,eO]
theorem SE (xs ys:List Int):List.zipWith (fun x y=>x+1*y) xs ys=List.zipWith (·+·) xs ys:=by
 congr 1;funext x y;rw [eO]
theorem SF (xs ys:List Int):List.zipWith (fun x y=>x+(-1)*y) xs ys=List.zipWith (· - ·) xs ys:=by
 congr 1;funext x y;rw [lK,eO];rfl
theorem sr (G:A3) (i:Sl.Instr) (o:Option Addr) (d:Nat) (r:List SV) (j:List Value) (rs:List (List Int)) (m N:Nat) (hob:A5 o d r j) (hg:B5 G r rs) (hm:C1 m N rs) (hN:N≤1048576) (hm2:m≤268435456)
 (hop:1≤i.op∧i.op≤8) (ha:0≤i.a∧i.a<r.length) (hb:0≤i.b∧i.b<r.length)
 (hcst:i.op≠1→i.op≠2→i.op≠3→i.op≠4→cst i≠0∧((cst i).natAbs:Int)<pb 3)
 (hc1:i.op=5∨i.op=6→-9223372036854775808≤i.c∧i.c≤9223372036854775807) (hc2:¬(i.op=5∨i.op=6)→0≤i.c∧i.c≤64) :
 Does Tryz.prog 292 [SC,.slice o r.length d,.agg (A2.enc i).toArray] G [(0,o.map (·.block),Row 39 r j)] (fun v G' Ho=>Yi i rs [(0,o.map (·.block),Row 39 r j)] v G' Ho):=by
 have hca:=hob.le;obtain ⟨la,a1,a2,a3,a4⟩:=hg.2 i.a.toNat uJ;obtain ⟨lb,b1,b2,b3,b4⟩:=hg.2 i.b.toNat uJ;have hrl:=hg.1;obtain ⟨na,ma⟩:=hm.at (k:=i.a.toNat) uJ;obtain ⟨nb,mb⟩:=hm.at (k:=i.b.toNat) uJ;have hla:la.length≤1048576:=by rw [a4.1,na];exact hN
 have hlab:la.length=lb.length:=by rw [a4.1,b4.1,na,nb]
 refine D0 Tryz.func292 Tryz.ntmps292 fun w=>?_;have h118:=se G _ (r[i.a.toNat]?.getD default).c la _ m a3 a4 ma hm2 hla;have h119:=sm G _ _ (r[i.a.toNat]?.getD default).c (r[i.b.toNat]?.getD default).c la lb _ _ m a3 b3 a4 b4 ma mb hm2 hlab hla;have h121:=sn G _ _ (r[i.a.toNat]?.getD default).c (r[i.b.toNat]?.getD default).c la lb _ _ m a3 b3 a4 b4 ma mb hm2 hlab hla;rw [a1] at h118;rw [a1,b1] at h119 h121;have h123:∀ G1 y z,G.le G1→B9 G1 y z→y.n≤268435456→Does Tryz.prog 298 [.slice (r[i.a.toNat]?.getD default).a (r[i.a.toNat]?.getD default).n (r[i.a.toNat]?.getD default).c,.agg (A2.enc y).toArray] G1 [] (fun v G' Ho=>Jt G' v ((rs[i.a.toNat]?.getD []).map fun x=>z*x)∧Ho=[]):=fun G1 y z hG hy hyn=>by
  have h:=sj G1 _ (r[i.a.toNat]?.getD default).c la _ y z m (a3.up hG) (a4.up hG) ma hm2 hla hy hyn;rw [a1] at h;exact h
 have h124:∀ G1 y z,G.le G1→B9 G1 y z→y.n≤268435456→z≠0→Does Tryz.prog 299 [.slice (r[i.a.toNat]?.getD default).a (r[i.a.toNat]?.getD default).n (r[i.a.toNat]?.getD default).c,.agg (A2.enc y).toArray] G1 [] (fun v G' Ho=>(xN z (rs[i.a.toNat]?.getD [])→∃ (s:Option Addr) (r':List IV) (d:Nat),v=.tuple #[.slice s r'.length d,.bool true]∧Arr G' s r'∧r'.length≤d∧A8 G' r' ((rs[i.a.toNat]?.getD []).map (· / z)))∧
  (¬xN z (rs[i.a.toNat]?.getD [])→v=.tuple #[.slice none 0 0,.bool false])∧Ho=[]):=fun G1 y z hG hy hyn hz=>by
  have h:=so G1 _ (r[i.a.toNat]?.getD default).c la _ y z m (a3.up hG) (a4.up hG) ma hm2 hla hy hyn hz;rw [a1] at h;exact h
 by_cases h2:i.op=2
 · refine aL 2 [] ?_;refine fK 1 fun b5=>?_;refine fK 2 fun b6=>?_;refine bY 5 [] ?_;refine gK [0,1,2] [] T.mixed [[0],[1],[2,2]] ?_;refine nE (α:=SV) 3 T.sl86 ?_;refine oQ 4 0 0 T.one39 ?_;refine gS [[5],[6],[7,2]] ?_;refine nE (α:=SV) 8 T.sl86 ?_;refine oQ 9 0 0 T.one39 ?_;refine gS [[10],[11]] ?_;refine eI ?_;refine rH 21 [2,1,1] ?_;refine fM (fst:=[]) (cap:=[]) 3 U T.fn293 U U (h118) (vA I8) fun v1 G1 Ho1 hle1 hp=>?_;obtain ⟨⟨s1,r1,d1,rfl,hA1,hl81,hB1⟩,rfl⟩:=hp;replace a3:=a3.up hle1;replace a4:=a4.up hle1;replace b3:=b3.up hle1;replace b4:=b4.up hle1;refine bA 7 [] ?_;refine tV [0] ?_;exact Ap (by unfold zP;simp only [h2,fI];rw [SD]) (zY hA1 hl81 hB1)
 by_cases h3:i.op=3
 · refine aL 2 [] ?_;refine fK 1 fun b5=>?_;refine fK 2 fun b6=>?_;refine bY 5 [] ?_;refine gK [0,1,2] [] T.mixed [[0],[1],[2,2]] ?_;refine nE (α:=SV) 3 T.sl86 ?_;refine oQ 4 0 0 T.one39 ?_;refine gS [[5],[6],[7,2]] ?_;refine nE (α:=SV) 8 T.sl86 ?_;refine oQ 9 0 0 T.one39 ?_;refine gS [[10],[11]] ?_;refine eI ?_;refine rH 29 [2,0,1,1] ?_;refine fM (fst:=[]) (cap:=[]) 3 U T.fn294 U U (h119) (vA I8) fun v1 G1 Ho1 hle1 hp=>?_;obtain ⟨⟨s1,r1,d1,rfl,hA1,hl81,hB1⟩,rfl⟩:=hp;replace a3:=a3.up hle1;replace a4:=a4.up hle1;replace b3:=b3.up hle1;replace b4:=b4.up hle1;refine bA 7 [] ?_;refine tV [0] ?_;exact Ap (by unfold zP;simp only [h3,fI];rw [aE (by decide),SE]) (zY hA1 hl81 hB1)
 by_cases h4:i.op=4
 · refine aL 2 [] ?_;refine fK 1 fun b5=>?_;refine fK 2 fun b6=>?_;refine bY 5 [] ?_;refine gK [0,1,2] [] T.mixed [[0],[1],[2,2]] ?_;refine nE (α:=SV) 3 T.sl86 ?_;refine oQ 4 0 0 T.one39 ?_;refine gS [[5],[6],[7,2]] ?_;refine nE (α:=SV) 8 T.sl86 ?_;refine oQ 9 0 0 T.one39 ?_;refine gS [[10],[11]] ?_;refine eI ?_;refine rH 36 [2,0,0,1,1] ?_;refine fM (fst:=[]) (cap:=[]) 3 U T.fn296 U U (h121) (vA I8) fun v1 G1 Ho1 hle1 hp=>?_;obtain ⟨⟨s1,r1,d1,rfl,hA1,hl81,hB1⟩,rfl⟩:=hp;replace a3:=a3.up hle1;replace a4:=a4.up hle1;replace b3:=b3.up hle1;replace b4:=b4.up hle1;refine bA 7 [] ?_;refine tV [0] ?_;exact Ap (by unfold zP;simp only [h4,fI];rw [aE (by decide),aE (by decide),SF]) (zY hA1 hl81 hB1)
 by_cases h1:i.op=1
 · refine aL 2 [] ?_;refine fK 1 fun b5=>?_;refine fK 2 fun b6=>?_;refine bY 5 [] ?_;refine gK [0,1,2] [] T.mixed [[0],[1],[2,2]] ?_;refine nE (α:=SV) 3 T.sl86 ?_;refine oQ 4 0 0 T.one39 ?_;refine gS [[5],[6],[7,2]] ?_;refine nE (α:=SV) 8 T.sl86 ?_;refine oQ 9 0 0 T.one39 ?_;refine gS [[10],[11]] ?_;refine eI ?_;refine iN 69 [2,0,0,0,0,0,0,0] ?_;refine tV [0] ?_;exact Ap (by unfold zP;simp only [h1];rfl) ⟨la,a1,a2,a3,a4⟩
 obtain ⟨hk0,hk3⟩:=hcst h1 h2 h3 h4;by_cases h5:i.op=5
 · have hc9:=hc1 (.inl h5);have e5:cst i=i.c:=AM (.inl h5);rw [e5] at hk3;refine aL 2 [] ?_;refine fK 1 fun b5=>?_;refine fK 2 fun b6=>?_;refine bY 5 [] ?_;refine gK [0,1,2] [] T.mixed [[0],[1],[2,2]] ?_;refine nE (α:=SV) 3 T.sl86 ?_;refine oQ 4 0 0 T.one39 ?_;refine gS [[5],[6],[7,2]] ?_;refine nE (α:=SV) 8 T.sl86 ?_;refine oQ 9 0 0 T.one39 ?_;refine gS [[10],[11]] ?_;refine eI ?_;refine rI 38 [2,0,0,0,1] ?_;refine gK [0,1,2] [(2,6),(1,6),(0,6)] T.mixed [[0],[1,1],[2],[3]] ?_;refine fC 4 ?_;refine aF 1 [2] ?_;refine eD 5 ?_;refine cQ 3 U (OC _ i.c hc9) fun v1 G1 Ho1 hle1 hp=>?_;obtain ⟨rk,rfl,hrk,rfl⟩:=hp;replace a3:=a3.up hle1;replace a4:=a4.up hle1;replace b3:=b3.up hle1;replace b4:=b4.up hle1;refine eD 6 ?_;refine fM (fst:=[]) (cap:=[]) 3 U T.fn298 U U (h123 _ rk _ uK hrk (aP (jG hrk hk3) uR)) (vA I8) fun v2 G2 Ho2 hle2 hp=>?_;obtain ⟨⟨s2,r2,d2,rfl,hA2,hl82,hB2⟩,rfl⟩:=hp;replace hrk:=hrk.up hle2;replace a3:=a3.up hle2;replace a4:=a4.up hle2;replace b3:=b3.up hle2;replace b4:=b4.up hle2;refine dG ?_;refine gS [[7],[8]] ?_;refine eI ?_;refine iN 4 [] ?_;refine tV [0] ?_;all_goals exact Ap (by unfold zP;simp only [h5,true_or,fI];rw [aE (by decide),aE (by decide),aE (by decide),e5]) (zY uK uK uK)
 by_cases h6:i.op=6
 · have hc9:=hc1 (.inr h6);have e5:cst i=i.c:=AM (.inr h6);rw [e5] at hk3 hk0;have h124Y:xN (i.c) (rs[i.a.toNat]?.getD [])→∀ G1 y,G.le G1→B9 G1 y (i.c)→y.n≤268435456→Does Tryz.prog 299 [.slice (r[i.a.toNat]?.getD default).a (r[i.a.toNat]?.getD default).n (r[i.a.toNat]?.getD default).c,.agg (A2.enc y).toArray] G1 [] (fun v G' Ho=>(∃ (s:Option Addr) (r':List IV) (d:Nat),v=.tuple #[.slice s r'.length d,.bool true]∧Arr G' s r'∧r'.length≤d∧A8 G' r' ((rs[i.a.toNat]?.getD []).map (· / (i.c))))∧Ho=[]):=
    fun hd G1 y hG hy hyn=>(h124 G1 y _ hG hy hyn hk0).mono fun v G' Ho _ ⟨p1,p2,p3⟩=>⟨p1 hd,p3⟩
   have h124N:¬xN (i.c) (rs[i.a.toNat]?.getD [])→∀ G1 y,G.le G1→B9 G1 y (i.c)→y.n≤268435456→Does Tryz.prog 299 [.slice (r[i.a.toNat]?.getD default).a (r[i.a.toNat]?.getD default).n (r[i.a.toNat]?.getD default).c,.agg (A2.enc y).toArray] G1 [] (fun v G' Ho=>v=.tuple #[.slice none 0 0,.bool false]∧Ho=[]):=
    fun hd G1 y hG hy hyn=>(h124 G1 y _ hG hy hyn hk0).mono fun v G' Ho _ ⟨p1,p2,p3⟩=>⟨p2 hd,p3⟩
   by_cases hd:xN (i.c) (rs[i.a.toNat]?.getD [])
   · skip;refine aL 2 [] ?_;refine fK 1 fun b5=>?_;refine fK 2 fun b6=>?_;refine bY 5 [] ?_;refine gK [0,1,2] [] T.mixed [[0],[1],[2,2]] ?_;refine nE (α:=SV) 3 T.sl86 ?_;refine oQ 4 0 0 T.one39 ?_;refine gS [[5],[6],[7,2]] ?_;refine nE (α:=SV) 8 T.sl86 ?_;refine oQ 9 0 0 T.one39 ?_;refine gS [[10],[11]] ?_;refine eI ?_;refine rI 52 [2,0,0,0,0,0,1] ?_;refine gK [0,1,2] [(2,6),(1,6),(0,6)] T.mixed [[0],[1,1],[2],[3]] ?_;refine fC 4 ?_;refine aF 1 [2] ?_;refine eD 5 ?_;refine cQ 3 U (OC _ i.c hc9) fun v1 G1 Ho1 hle1 hp=>?_;obtain ⟨rk,rfl,hrk,rfl⟩:=hp;replace a3:=a3.up hle1;replace a4:=a4.up hle1;replace b3:=b3.up hle1;replace b4:=b4.up hle1;refine eD 6 ?_;refine fM (fst:=[]) (cap:=[]) 3 U T.fn299 U U (h124Y hd _ rk uK hrk (aP (jG hrk hk3) uR)) (vA I8) fun v2 G2 Ho2 hle2 hp=>?_;obtain ⟨⟨s2,r2,d2,rfl,hA2,hl82,hB2⟩,rfl⟩:=hp;replace hrk:=hrk.up hle2;replace a3:=a3.up hle2;replace a4:=a4.up hle2;replace b3:=b3.up hle2;replace b4:=b4.up hle2;refine dG ?_;refine gS [[7],[8],[9],[10]] ?_;refine eI ?_;refine iN 4 [] ?_;refine tV [0] ?_;all_goals exact Ap (by unfold zP;simp only [h6,true_or,fI];first | (rw [aE (by decide),aE (by decide),aE (by decide),aE (by decide),e5,aM hd]) | (rw [aE (by decide),aE (by decide),aE (by decide),aE (by decide)];exact (by rw [e5];exact aM hd))) (zY uK uK uK)
   skip;refine aL 2 [] ?_;refine fK 1 fun b5=>?_;refine fK 2 fun b6=>?_;refine bY 5 [] ?_;refine gK [0,1,2] [] T.mixed [[0],[1],[2,2]] ?_;refine nE (α:=SV) 3 T.sl86 ?_;refine oQ 4 0 0 T.one39 ?_;refine gS [[5],[6],[7,2]] ?_;refine nE (α:=SV) 8 T.sl86 ?_;refine oQ 9 0 0 T.one39 ?_;refine gS [[10],[11]] ?_;refine eI ?_;refine rI 52 [2,0,0,0,0,0,1] ?_;refine gK [0,1,2] [(2,6),(1,6),(0,6)] T.mixed [[0],[1,1],[2],[3]] ?_;refine fC 4 ?_;refine aF 1 [2] ?_;refine eD 5 ?_;refine cQ 3 U (OC _ i.c hc9) fun v1 G1 Ho1 hle1 hp=>?_;obtain ⟨rk,rfl,hrk,rfl⟩:=hp;replace a3:=a3.up hle1;replace a4:=a4.up hle1;replace b3:=b3.up hle1;replace b4:=b4.up hle1;refine eD 6 ?_;refine fM (fst:=[]) (cap:=[]) 3 U T.fn299 U U (h124N hd _ rk uK hrk (aP (jG hrk hk3) uR)) (vA I8) fun v2 G2 Ho2 hle2 hp=>?_;obtain ⟨rfl,rfl⟩:=hp;replace hrk:=hrk.up hle2;replace a3:=a3.up hle2;replace a4:=a4.up hle2;replace b3:=b3.up hle2;replace b4:=b4.up hle2;refine dG ?_;refine gS [[7],[8],[9],[10]] ?_;refine eI ?_;refine iN 4 [] ?_;refine tV [0] ?_;all_goals exact CC (by unfold zP;simp only [h6,true_or,fI];rw [aE (by decide),aE (by decide),aE (by decide),aE (by decide),e5,aE hd])
 have hc64:=hc2 (fun h=>h.elim h5 h6);have e5:cst i=p2 i.c.toNat:=QP (fun h=>h.elim h5 h6);rw [e5] at hk3 hk0;by_cases h7:i.op=7
 · refine aL 2 [] ?_;refine fK 1 fun b5=>?_;refine fK 2 fun b6=>?_;refine bY 5 [] ?_;refine gK [0,1,2] [] T.mixed [[0],[1],[2,2]] ?_;refine nE (α:=SV) 3 T.sl86 ?_;refine oQ 4 0 0 T.one39 ?_;refine gS [[5],[6],[7,2]] ?_;refine nE (α:=SV) 8 T.sl86 ?_;refine oQ 9 0 0 T.one39 ?_;refine gS [[10],[11]] ?_;refine eI ?_;refine rI 45 [2,0,0,0,0,1] ?_;refine gK [0,1,2] [(2,6),(1,6),(0,6)] T.mixed [[0],[1,1],[2],[3]] ?_;refine fC 4 ?_;refine aF 1 [2] ?_;refine eD 5 ?_;refine cQ 3 U (RD _ i.c hc64) fun v1 G1 Ho1 hle1 hp=>?_;obtain ⟨rk,rfl,hrk,rfl⟩:=hp;replace a3:=a3.up hle1;replace a4:=a4.up hle1;replace b3:=b3.up hle1;replace b4:=b4.up hle1;refine eD 6 ?_;refine fM (fst:=[]) (cap:=[]) 3 U T.fn298 U U (h123 _ rk _ uK hrk (aP (jG hrk hk3) uR)) (vA I8) fun v2 G2 Ho2 hle2 hp=>?_;obtain ⟨⟨s2,r2,d2,rfl,hA2,hl82,hB2⟩,rfl⟩:=hp;replace hrk:=hrk.up hle2;replace a3:=a3.up hle2;replace a4:=a4.up hle2;replace b3:=b3.up hle2;replace b4:=b4.up hle2;refine dG ?_;refine gS [[7],[8]] ?_;refine eI ?_;refine iN 4 [] ?_;refine tV [0] ?_;all_goals exact Ap (by unfold zP;simp only [h7,or_true,fI];rw [aE (by decide),aE (by decide),aE (by decide),e5]) (zY uK uK uK)
 have h8:i.op=8:=uJ;have h124Y:xN (p2 i.c.toNat) (rs[i.a.toNat]?.getD [])→∀ G1 y,G.le G1→B9 G1 y (p2 i.c.toNat)→y.n≤268435456→Does Tryz.prog 299 [.slice (r[i.a.toNat]?.getD default).a (r[i.a.toNat]?.getD default).n (r[i.a.toNat]?.getD default).c,.agg (A2.enc y).toArray] G1 [] (fun v G' Ho=>(∃ (s:Option Addr) (r':List IV) (d:Nat),v=.tuple #[.slice s r'.length d,.bool true]∧Arr G' s r'∧r'.length≤d∧A8 G' r' ((rs[i.a.toNat]?.getD []).map (· / (p2 i.c.toNat))))∧Ho=[]):=
  fun hd G1 y hG hy hyn=>(h124 G1 y _ hG hy hyn hk0).mono fun v G' Ho _ ⟨p1,p2,p3⟩=>⟨p1 hd,p3⟩
 have h124N:¬xN (p2 i.c.toNat) (rs[i.a.toNat]?.getD [])→∀ G1 y,G.le G1→B9 G1 y (p2 i.c.toNat)→y.n≤268435456→Does Tryz.prog 299 [.slice (r[i.a.toNat]?.getD default).a (r[i.a.toNat]?.getD default).n (r[i.a.toNat]?.getD default).c,.agg (A2.enc y).toArray] G1 [] (fun v G' Ho=>v=.tuple #[.slice none 0 0,.bool false]∧Ho=[]):=
  fun hd G1 y hG hy hyn=>(h124 G1 y _ hG hy hyn hk0).mono fun v G' Ho _ ⟨p1,p2,p3⟩=>⟨p2 hd,p3⟩
 by_cases hd:xN (p2 i.c.toNat) (rs[i.a.toNat]?.getD [])
 · skip;refine aL 2 [] ?_;refine fK 1 fun b5=>?_;refine fK 2 fun b6=>?_;refine bY 5 [] ?_;refine gK [0,1,2] [] T.mixed [[0],[1],[2,2]] ?_;refine nE (α:=SV) 3 T.sl86 ?_;refine oQ 4 0 0 T.one39 ?_;refine gS [[5],[6],[7,2]] ?_;refine nE (α:=SV) 8 T.sl86 ?_;refine oQ 9 0 0 T.one39 ?_;refine gS [[10],[11]] ?_;refine eI ?_;refine rI 59 [2,0,0,0,0,0,0,1] ?_;refine gK [0,1,2] [(2,6),(1,6),(0,6)] T.mixed [[0],[1,1],[2],[3]] ?_;refine fC 4 ?_;refine aF 1 [2] ?_;refine eD 5 ?_;refine cQ 3 U (RD _ i.c hc64) fun v1 G1 Ho1 hle1 hp=>?_;obtain ⟨rk,rfl,hrk,rfl⟩:=hp;replace a3:=a3.up hle1;replace a4:=a4.up hle1;replace b3:=b3.up hle1;replace b4:=b4.up hle1;refine eD 6 ?_;refine fM (fst:=[]) (cap:=[]) 3 U T.fn299 U U (h124Y hd _ rk uK hrk (aP (jG hrk hk3) uR)) (vA I8) fun v2 G2 Ho2 hle2 hp=>?_;obtain ⟨⟨s2,r2,d2,rfl,hA2,hl82,hB2⟩,rfl⟩:=hp;replace hrk:=hrk.up hle2;replace a3:=a3.up hle2;replace a4:=a4.up hle2;replace b3:=b3.up hle2;replace b4:=b4.up hle2;refine dG ?_;refine gS [[7],[8],[9],[10]] ?_;refine eI ?_;refine iN 4 [] ?_;refine tV [0] ?_;all_goals exact Ap (by unfold zP;simp only [h8,or_true,fI];first | (rw [aE (by decide),aE (by decide),aE (by decide),aE (by decide),e5,aM hd]) | (rw [aE (by decide),aE (by decide),aE (by decide),aE (by decide)];exact (by rw [e5];exact aM hd))) (zY uK uK uK)
 skip;refine aL 2 [] ?_;refine fK 1 fun b5=>?_;refine fK 2 fun b6=>?_;refine bY 5 [] ?_;refine gK [0,1,2] [] T.mixed [[0],[1],[2,2]] ?_;refine nE (α:=SV) 3 T.sl86 ?_;refine oQ 4 0 0 T.one39 ?_;refine gS [[5],[6],[7,2]] ?_;refine nE (α:=SV) 8 T.sl86 ?_;refine oQ 9 0 0 T.one39 ?_;refine gS [[10],[11]] ?_;refine eI ?_;refine rI 59 [2,0,0,0,0,0,0,1] ?_;refine gK [0,1,2] [(2,6),(1,6),(0,6)] T.mixed [[0],[1,1],[2],[3]] ?_;refine fC 4 ?_;refine aF 1 [2] ?_;refine eD 5 ?_;refine cQ 3 U (RD _ i.c hc64) fun v1 G1 Ho1 hle1 hp=>?_;obtain ⟨rk,rfl,hrk,rfl⟩:=hp;replace a3:=a3.up hle1;replace a4:=a4.up hle1;replace b3:=b3.up hle1;replace b4:=b4.up hle1;refine eD 6 ?_;refine fM (fst:=[]) (cap:=[]) 3 U T.fn299 U U (h124N hd _ rk uK hrk (aP (jG hrk hk3) uR)) (vA I8) fun v2 G2 Ho2 hle2 hp=>?_;obtain ⟨rfl,rfl⟩:=hp;replace hrk:=hrk.up hle2;replace a3:=a3.up hle2;replace a4:=a4.up hle2;replace b3:=b3.up hle2;replace b4:=b4.up hle2;refine dG ?_;refine gS [[7],[8],[9],[10]] ?_;refine eI ?_;refine iN 4 [] ?_;refine tV [0] ?_;all_goals exact CC (by unfold zP;simp only [h8,or_true,fI];rw [aE (by decide),aE (by decide),aE (by decide),aE (by decide),e5,aE hd])
end
theorem Hs {m k:Nat} {xs:List Int} {f:Int→Int} (h:∀ x:Int,(x.natAbs:Int)<pb m→((f x).natAbs:Int)<pb k) (hx:Below m xs):Below k (xs.map f):=fun z hz=>by
 obtain ⟨x,h1,rfl⟩:=cV.1 hz;exact h x (hx x h1)
theorem Qr {m k:Nat} {xs ys:List Int} {f:Int→Int→Int} (h:∀ x y:Int,(x.natAbs:Int)<pb m→(y.natAbs:Int)<pb m→((f x y).natAbs:Int)<pb k) (hx:Below m xs) (hy:Below m ys):Below k (List.zipWith f xs ys):=fun z hz=>by
 rw [mT] at hz;obtain ⟨n,hn,rfl⟩:=hz;rw [List.getElem_zipWith];exact h _ _ (hx _ (dY _)) (hy _ (dY _))
theorem Vp {i:Sl.Instr} {rs:List (List Int)} {m N:Nat} {x:List Int} (he:C1 m N rs) (ha:0≤i.a∧i.a<rs.length) (hb:i.op=3∨i.op=4→0≤i.b∧i.b<rs.length)
 (hz:i.op=5∨i.op=7→((cst i).natAbs:Int)<pb 3) (h:zP i rs=some x):x.length=N∧Below (m+3) x:=by
 obtain ⟨haL,haB⟩:=he.at (k:=i.a.toNat) uJ;have hp:=xV m;have h4:4294967296*pb m≤pb (m+3):=by rw [←yI];exact Pc uJ
 unfold zP at h;simp only at h;split at h
 · cases h;exact ⟨by rw [aW];exact haL,Hs (fun x hx=>by omega) haB⟩
 split at h
 · rename_i h3;obtain ⟨hbL,hbB⟩:=he.at (k:=i.b.toNat) (by have:=hb (.inl h3);omega);cases h;exact ⟨by rw [jA,haL,hbL,tO],Qr (fun x y hx hy=>by omega) haB hbB⟩
 split at h
 · rename_i h4;obtain ⟨hbL,hbB⟩:=he.at (k:=i.b.toNat) (by have:=hb (.inr h4);omega);cases h;exact ⟨by rw [jA,haL,hbL,tO],Qr (fun x y hx hy=>by omega) haB hbB⟩
 split at h
 · rename_i h57;cases h;exact ⟨by rw [aW];exact haL,Hs (fun x hx=>by rw [tQ];exact LQ (hz h57) hx) haB⟩
 split at h
 · split at h
   · cases h;refine ⟨by rw [aW];exact haL,Hs (fun x hx=>?_) haB⟩;have h1:(x / cst i).natAbs≤x.natAbs:=Int.natAbs_ediv_le_natAbs _ _;omega
   cases h
 cases h;exact ⟨haL,haB.mono uJ⟩
theorem C1.mono {m k N:Nat} {rs:List (List Int)} (h:C1 m N rs) (hk:m≤k):C1 k N rs:=fun zs hz=>⟨(h zs hz).1,(h zs hz).2.mono hk⟩
theorem Vq {m N:Nat} {rs:List (List Int)} {x:List Int} (h:C1 m N rs) (hx:x.length=N∧Below m x) (k:Nat):C1 m N (rs.set k x):=fun zs hz=>by
 rcases kU hz with h1 | h1
 · exact h zs h1
 rw [h1];exact hx
theorem B5.set {G:A3} {r:List SV} {rs:List (List Int)} (h:B5 G r rs) {s:SV} {x:List Int} (hs:C8 G s x) (k:Nat):B5 G (r.set k s) (rs.set k x):=by
 refine ⟨by rw [aJ,aJ];exact h.1,fun i hi=>?_⟩;rw [aJ] at hi;have hrl:=h.1;rw [gL,gL];by_cases e:k=i
 · subst e;rw [aM rfl,aM rfl,aM hi,aM (by omega)];exact hs
 rw [aE e,aE e];exact h.2 i hi
section
attribute [local irreducible] uM pb vJ uZ p2 cst zP
theorem su (G:A3) (k:Int) (s:SV):Does Tryz.prog 252 [.int .i64 k,.slice s.a s.n s.c] G [] (fun v G' Ho=>v=.bool true∧G'=G∧Ho=[]):=by
 refine D0 Tryz.func252 Tryz.ntmps252 fun w=>?_;refine cJ 11 [] ?_;refine cZ ?_;exact ⟨U,U,U⟩
def SG (p:PV) (gs:List (List Int)) (m N:Nat) (o:Option Addr) (d:Nat) (r:List SV) (j:List Value) (v:Value) (G':A3) (Ho:Hp):Prop:=
 ∃ (r':List SV) (k:Int),v=.int .i64 k∧Ho=[(0,o.map (·.block),Row 39 r' j)]∧r'.length=r.length∧A5 o d r' j∧
  ((∃ rs',zG p gs p.code.length=some rs'∧k=-1∧B5 G' r' rs'∧C1 (m+3*p.code.length) N rs')∨(vH p gs=none∧0≤k))
theorem sv (G:A3) (p:PV) (gs:List (List Int)) (ac ao:Option Addr) (cc co:Nat) (o:Option Addr) (d:Nat) (r:List SV) (j:List Value) (m N:Nat) (hc:Arr G ac p.code) (hob:A5 o d r j) (hg:B5 G r (wW p gs)) (hm:C1 m N (wW p gs)) (hN:N≤1048576)
 (hmm:m+3*p.code.length≤268435456) (hlen:p.code.length≤16384) (hr:(r.length:Int)=p.regs) (hrr:r.length≤128) (hmay:∀ i∈p.code,yM i p.regs=true) :
 Does Tryz.prog 250 [SC,.agg (J6 p ac cc ao co),.slice o r.length d,.func (.func 252) #[] #[]] G [(0,o.map (·.block),Row 39 r j)] (SG p gs m N o d r j):=by
 refine D0 Tryz.func250 Tryz.ntmps250 fun w=>?_;refine aL 2 [] ?_;refine fK 1 fun b1=>?_;refine fK 2 fun b2=>?_;refine bY 3 [] ?_;refine Wc.scope ?_;refine dN 13 [2] ?_;refine Wc.lg (ι:=Nat×A3×List SV×List (List Int)) (fun (i,Gx,r2,rs)=>([(16,.int .i64 (i:Int)),(2,.slice o r2.length d),(15,.int .i64 (↑p.code.length:Int)),(14,.slice ac p.code.length cc),(4,.pointer (some ⟨b1,0,none⟩)),(3,.func (Go.Fn.func 252) #[] #[])],[(0,o.map (·.block),Row 39 r2 j),(2,some b2,.cells (J6 p ac cc ao co) 26),(1,some b1,.cells #[.func (Go.Fn.func 293) #[] #[],.func (Go.Fn.func 294) #[] #[],.func (Go.Fn.func 296) #[] #[],.func (Go.Fn.func 298) #[] #[],.func (Go.Fn.func 299) #[] #[]] 352)])) (fun (i,Gx,r2,rs)=>Gx) (fun (i,Gx,r2,rs)=>i≤p.code.length∧G.le Gx∧r2.length=r.length∧A5 o d r2 j∧B5 Gx r2 rs∧C1 (m+3*i) N rs∧zG p gs i=some rs) (fun (i,Gx,r2,rs)=>p.code.length - i) ((0,G,r,wW p gs)) (⟨aS _,cC _,U,hob,hg,hm,U⟩) fun ⟨i,Gx,r2,rs⟩=>fun hk=>?_;obtain ⟨hi0,hgx,hr2,ho2,hg2,hb2,hrun⟩:=hk;replace hc:=hc.up hgx;have hrl:=hg2.1;rcases aK i p.code.length with hic | hic
 · have hmem:(p.code[(i:Int).toNat]?.getD default)∈p.code:=by
    rw [aH,aA hic];exact dY hic
   have hmi:=hmay _ hmem;obtain ⟨m1,m2,m3,m4,m5,m6,m7,m8⟩:=Fy hmi;have m9:(p.code[(i:Int).toNat]?.getD default).a<rs.length:=uJ;have hbz:(p.code[(i:Int).toNat]?.getD default).op=3∨(p.code[(i:Int).toNat]?.getD default).op=4∨(p.code[(i:Int).toNat]?.getD default).b=0:=by
    unfold yM at hmi;rw [aB,aB,aY] at hmi;exact hmi.1.1.2.2.2.2
   have mb:0≤(p.code[(i:Int).toNat]?.getD default).b∧(p.code[(i:Int).toNat]?.getD default).b<r2.length:=by
    rcases hbz with h | h | h
    · have:=m4 (.inl h);omega
    · have:=m4 (.inr h);omega
    omega
   have mt:0≤(p.code[(i:Int).toNat]?.getD default).to∧(p.code[(i:Int).toNat]?.getD default).to<r2.length:=uJ;have ma:0≤(p.code[(i:Int).toNat]?.getD default).a∧(p.code[(i:Int).toNat]?.getD default).a<r2.length:=uJ;have hmi9:m+3*i≤268435456:=uJ;have hk3:(p.code[(i:Int).toNat]?.getD default).op≠1→(p.code[(i:Int).toNat]?.getD default).op≠2→(p.code[(i:Int).toNat]?.getD default).op≠3→(p.code[(i:Int).toNat]?.getD default).op≠4→cst (p.code[(i:Int).toNat]?.getD default)≠0∧((cst (p.code[(i:Int).toNat]?.getD default)).natAbs:Int)<pb 3:=fun a b c d=>⟨(m6 a b c d).1,jJ (m6 a b c d).2 HX⟩
   refine aL 14 [1] ?_;refine fF (α:=Sl.Instr) T.sl23 ?_;refine qF T.agg211 ?_;refine bB 3 U T.zero211 fun b3=>?_;refine aN 9 [3,1,3] ?_;refine cQ 0 U (sr _ (p.code[(i:Int).toNat]?.getD default) o d r2 j rs (m+3*i) N ho2 hg2 hb2 hN hmi9 m1 ma mb hk3 m7 m8) fun v1 G1 Ho1 hle1 hp=>?_;obtain ⟨x,rfl,hx,rfl⟩:=hp;replace hc:=hc.up hle1;replace hg2:=hg2.up hle1;by_cases hd:zP (p.code[((i:Nat):Int).toNat]?.getD default) rs=none
   · have hd2:¬zP (p.code[(i:Int).toNat]?.getD default) rs≠none:=fun h=>h hd;refine aN 11 [] ?_;refine aT (gF U) ?_;refine bA 16 [1] ?_;refine oE ?_;refine rT [0] ?_;exact ⟨r2,(i:Int),U,U,hr2,ho2,.inr ⟨Pm hrun hd hic,by omega⟩⟩
   obtain ⟨z,hz⟩:=Option.ne_none_iff_exists'.1 hd;have hxz:=hx z hz;have hok:zP (p.code[(i:Int).toNat]?.getD default) rs≠none:=hd;refine aN 11 [] ?_;refine aT (gF U) ?_;refine bY 2 [] ?_;refine hZ (fun hc1=>?_) fun hc1=>?_;refine cJ 13 [] ?_;refine oE ?_;refine rT [0] ?_;rotate_left;refine aL 8 [3] ?_;refine kZ (α:=SV) T.sl86 ?_;refine fL (z:=_) 0 T.size39 U U U uK uJ U fun ho1=>?_;refine aN 7 [] ?_;refine fM (fst:=[]) (cap:=[]) 4 U T.fn252 U U (su _ _ _) (vA I8) fun v2 G2 Ho2 hle2 hp=>?_;obtain ⟨rfl,rfl,rfl⟩:=hp;refine bA 11 [0] ?_;rotate_left
   · exact absurd hok hc1
   refine dH 2 U (show _=Value.slice o (r2.set (p.code[(i:Int).toNat]?.getD default).to.toNat x).length d by rw [aJ]) ?_;refine eH ((i+1,_,r2.set (p.code[(i:Int).toNat]?.getD default).to.toNat x,rs.set (p.code[(i:Int).toNat]?.getD default).to.toNat z)) ?_ ?_
   · refine ⟨by omega,bH hgx hle1,by rw [aJ];exact hr2,by assumption,hg2.set hxz _,?_,Hc (x:=rs) hrun hz⟩;have hs:=Vp (i:=p.code[(i:Int).toNat]?.getD default) hb2 (by rw [←hrl];exact ma) (fun _=>by rw [←hrl];exact mb) (fun h=>(hk3 (fun e=>by rw [e] at h;omega) (fun e=>by rw [e] at h;omega) (fun e=>by rw [e] at h;omega) (fun e=>by rw [e] at h;omega)).2) hz;rw [show m+3*(i+1)=m+3*i+3 by omega];exact Vq (hb2.mono uJ) hs _
   show p.code.length - (i+1)<p.code.length - i;omega
 have hii:i=p.code.length:=uJ;subst hii;refine cJ 18 [0] ?_;refine oE ?_;refine rT [0] ?_;exact ⟨r2,-1,U,U,hr2,ho2,.inl ⟨rs,hrun,U,hg2,hb2⟩⟩
end
theorem Vr {G:A3} {r:List SV} {rs:List (List Int)} {k:Nat} {s:SV} (h:∀ q:Nat,q<k→C8 G (r[q]?.getD default) (rs[q]?.getD [])) (hk:k<r.length) (hs:C8 G s (rs[k]?.getD [])):∀ q:Nat,q<k+1→C8 G ((r.set k s)[q]?.getD default) (rs[q]?.getD []):=fun q hq=>by
 rw [gL];by_cases he:k=q
 · subst he;rw [aM rfl,aM hk];exact hs
 rw [aE he];exact h q uJ
theorem CD {G G':A3} {r:List SV} {rs:List (List Int)} {k:Nat} (h:∀ q:Nat,q<k→C8 G (r[q]?.getD default) (rs[q]?.getD [])) (hl:G.le G'):∀ q:Nat,q<k→C8 G' (r[q]?.getD default) (rs[q]?.getD []):=fun q hq=>(h q hq).up hl
section
attribute [local irreducible] uM pb vJ uZ p2 cst zP
theorem sw (G:A3) (p:PV) (ac ao ga:Option Addr) (cc co gc:Nat) (gl:List SV) (gs:List (List Int)) (m N:Nat) (hc:Arr G ac p.code) (ho:Arr G ao p.outs) (hga:Arr G ga gl) (hgg:B5 G gl gs) (hev:C1 m N gs) (hN:N≤4096) (hR:uY p=true) (hgi:(gl.length:Int)=p.ins) :
 Does Tryz.prog 249 [.agg (J6 p ac cc ao co),.slice ga gl.length gc] G [] (fun v G' Ho=>∃ b r,v=.tuple #[.slice (some ⟨b,0,none⟩) r.length p.regs.toNat,.int .i64 0]∧B5 G' r (wW p gs)∧r.length=p.regs.toNat∧Ho=[(1,some b,Row 39 r [])]):=by
 obtain ⟨f1,f2,f3,f4,f5,f6,f7,f8⟩:=vW hR;have h1:p.code.length≤1099511627776:=uJ;have h2:p.outs.length≤1099511627776:=uJ;have hgl:=hgg.1;obtain ⟨R,hRR⟩:∃ R:Nat,p.regs=(R:Int):=⟨p.regs.toNat,by omega⟩
 refine D0 Tryz.func249 Tryz.ntmps249 fun w=>?_;have hM:p.regs.toNat=R:=uJ;have hrl0:=Bg p gs;rw [hM] at hrl0;have hgl0:0<gl.length:=uJ;obtain ⟨h0L,h0B⟩:=hev.at (k:=0) uJ;obtain ⟨l0,e1,e2,e3,e4⟩:=hgg.2 0 uJ;have h0n:(gl[(0:Int).toNat]?.getD default).n=N:=by
  show (gl[0]?.getD default).n=N;rw [←e1,e4.1,h0L]
 refine aL 2 [] ?_;refine fK 0 fun b1=>?_;refine aN 10 [0] ?_;refine dC U (rp _ p _ _ _ _ uK uK h1 h2 hR _ hgi) ?_;refine aN 15 [0] ?_;refine fF (α:=SV) T.sl86 ?_;refine aU U (cS T.one39 U (gZ uK uJ 0 U U)) ?_;refine aN 8 [0] ?_;refine jL (α:=SV) 1 U T.sl86 T.el39 U U uJ uJ fun b2=>?_;refine bY 12 [] ?_;rw [hM];have hown:∀ r:List SV,r.length=R→A5 (some ⟨b2,0,none⟩) R r []:=fun r hr=>.inr ⟨b2,U,by rw [hr];rfl,by omega,by simp only [maxLen];omega⟩;refine iD 8 U (show _=Value.slice (some ⟨b2,0,none⟩) (List.replicate R (default:SV)).length R by rw [aC]) ?_;refine iD 7 U (show _=Value.int .i64 (N:Int) by rw [h0n]) ?_;refine iD 25 U (show _=Value.int .i64 (R:Int) by rw [aC]) ?_;refine Wc.lg (ι:=Nat×A3×List SV) (fun (k,Gx,r)=>([(26,.int .i64 (k:Int)),(8,.slice (some ⟨b2,0,none⟩) r.length R),(25,.int .i64 (↑R:Int)),(7,.int .i64 (↑N:Int)),(1,.slice ga (List.length gl) gc)],[(1,some b2,Row 39 r []),(0,some b1,.cells (J6 p ac cc ao co) 26)])) (fun (k,Gx,r)=>Gx) (fun (k,Gx,r)=>k≤R∧G.le Gx∧r.length=R∧∀ q:Nat,q<k→C8 Gx (r[q]?.getD default) ((wW p gs)[q]?.getD [])) (fun (k,Gx,r)=>R - k) ((0,G,List.replicate R (default:SV))) (⟨aS _,cC _,aC,fun q hq=>by omega⟩) fun ⟨k,Gx,r⟩=>fun hk=>?_;obtain ⟨hk0,hgx,hrR,hrow⟩:=hk;replace hga:=hga.up hgx;replace hgg:=hgg.up hgx;have hor:=hown r hrR;rcases aK k R with hkR | hkR
 · by_cases hkg:k<gl.length
   · have hkn:(gl[(k:Int).toNat]?.getD default).n=N:=by
      obtain ⟨l1,a1,a2,a3,a4⟩:=hgg.2 k hkg;rw [aH,←a1,a4.1];exact (hev.at (k:=k) uJ).1
     refine aL 22 [1] ?_;refine jL (α:=IV) 2 U T.sl39 T.el89 U U uJ uJ fun b3=>?_;refine kZ (α:=SV) T.sl86 ?_;refine jB 32 U (show _=Value.slice (some ⟨b3,0,none⟩) N N by rw [aC];rfl) ?_;refine oF 2 (Row 89 (List.replicate N (default:IV)) []) U U ?_;refine fL (z:=(⟨some ⟨b3,0,none⟩,N,N⟩:SV)) (m:=(k:Int)) 1 T.size39 U U U hor uJ U fun ho1=>?_;have hrk:((r.set k (⟨some ⟨b3,0,none⟩,N,N⟩:SV))[k]?.getD default)=⟨some ⟨b3,0,none⟩,N,N⟩:=by rw [gL,aM rfl,aM (by omega)];rfl
     have ho3:A5 (some ⟨b3,0,none⟩) N (List.replicate N (default:IV)) []:=.inr ⟨b3,U,by rw [aC];rfl,by rw [aC];exact aG _,by simp only [maxLen];omega⟩;rw [aH] at ho1 ⊢;obtain ⟨r9,hr9⟩:∃ r9,r9=r.set k (⟨some ⟨b3,0,none⟩,N,N⟩:SV):=⟨_,U⟩
     have hr9l:r9.length=R:=by rw [hr9,aJ];exact hrR
     rw [←hr9] at ho1 hrk ⊢;refine aN 16 [1] ?_;refine fF (α:=SV) T.sl86 ?_;refine iT 0 T.one39 ?_;refine aF 4 [] ?_;refine pR 45 ?_;refine bY 10 [0] ?_;refine gK [0,2,1] [(1,8),(2,8)] T.mixed [[0],[1]] ?_;refine nE (α:=SV) 2 T.sl86 ?_;refine eP 3 [0,1] U (nI 1 0 T.one39 U U uK uJ U U) ?_;refine gS [[4],[5]] ?_;refine qN (α:=SV) 6 T.sl86 ?_;refine rS 7 [0] 0 T.one39 ?_;refine fC 8 ?_;obtain ⟨l1,a1,a2,a3,a4⟩:=hgg.2 k hkg;have hl1:l1.length=N:=by rw [a1];exact hkn
     refine jB 52 U (show _=Value.slice (some ⟨b3,0,none⟩) (List.replicate N (default:IV)).length N by rw [aH,hrk,aC]) ?_;refine jB 56 U (show _=Value.slice (gl[k]?.getD default).a l1.length (gl[k]?.getD default).c by rw [a1];rfl) ?_;refine Hb (α:=IV) 2 U T.sl39 U U U (mX a3) (by rw [hl1,aC];exact aG _) ?_;refine oF 2 (Row 89 l1 []) U (by rw [hl1,List.drop_replicate,iW,List.replicate_zero,fH]) ?_;have ho4:A5 (some ⟨b3,0,none⟩) N l1 []:=.inr ⟨b3,U,by rw [hl1];rfl,by rw [hl1];exact aG _,by simp only [maxLen];omega⟩;refine lC ?_;refine iN 6 [] ?_;refine dX 2 U ho4 fun G1 hle1 hA1=>?_;refine dH 8 U (show _=Value.slice (some ⟨b2,0,none⟩) r9.length R by rw [hr9l,hrR]) ?_;refine eH ((k+1,G1,r9)) ?_ ?_
     · have hs9:C8 G1 ⟨some ⟨b3,0,none⟩,N,N⟩ ((wW p gs)[k]?.getD []):=by
        rw [Jf uJ,aM (by omega)];exact ⟨l1,hl1,aG _,hA1,a4.up hle1⟩
       refine ⟨by omega,bH hgx hle1,hr9l,fun q hq=>?_⟩;rw [hr9];exact Vr (CD hrow hle1) uJ hs9 q hq
     show R - (k+1)<R - k;omega
   refine aL 22 [1] ?_;refine jL (α:=IV) 2 U T.sl39 T.el89 U U uJ uJ fun b3=>?_;refine kZ (α:=SV) T.sl86 ?_;refine jB 32 U (show _=Value.slice (some ⟨b3,0,none⟩) N N by rw [aC];rfl) ?_;refine oF 2 (Row 89 (List.replicate N (default:IV)) []) U U ?_;refine fL (z:=(⟨some ⟨b3,0,none⟩,N,N⟩:SV)) (m:=(k:Int)) 1 T.size39 U U U hor uJ U fun ho1=>?_;have hrk:((r.set k (⟨some ⟨b3,0,none⟩,N,N⟩:SV))[k]?.getD default)=⟨some ⟨b3,0,none⟩,N,N⟩:=by rw [gL,aM rfl,aM (by omega)];rfl
   have ho3:A5 (some ⟨b3,0,none⟩) N (List.replicate N (default:IV)) []:=.inr ⟨b3,U,by rw [aC];rfl,by rw [aC];exact aG _,by simp only [maxLen];omega⟩;rw [aH] at ho1 ⊢;obtain ⟨r9,hr9⟩:∃ r9,r9=r.set k (⟨some ⟨b3,0,none⟩,N,N⟩:SV):=⟨_,U⟩
   have hr9l:r9.length=R:=by rw [hr9,aJ];exact hrR
   rw [←hr9] at ho1 hrk ⊢;refine bA 18 [0] ?_;refine dX 2 U ho3 fun G1 hle1 hA1=>?_;refine dH 8 U (show _=Value.slice (some ⟨b2,0,none⟩) r9.length R by rw [hr9l,hrR]) ?_;refine eH ((k+1,G1,r9)) ?_ ?_
   · have hs9:C8 G1 ⟨some ⟨b3,0,none⟩,N,N⟩ ((wW p gs)[k]?.getD []):=by
      rw [Jf uJ,aE (by omega),h0L];exact ⟨_,aC,aG _,hA1,pC _ _⟩
     refine ⟨by omega,bH hgx hle1,hr9l,fun q hq=>?_⟩;rw [hr9];exact Vr (CD hrow hle1) uJ hs9 q hq
   show R - (k+1)<R - k;omega
 refine cJ 20 [0] ?_;refine jZ (.inr U) (Ho:=[(1,some b2,Row 39 r [])]) U (.tmp U) (.tmp U) ⟨U,I8⟩ ?_;exact ⟨b2,r,U,⟨by omega,fun i hi=>hrow i uJ⟩,hrR,U⟩
end
theorem Ge {G:A3} {q:List SV} {os:List (List Int)} {i:Nat} {s:SV} (h:∀ t:Nat,t<i→C8 G (q[t]?.getD default) (os[t]?.getD [])) (hq:q.length=i) (hs:C8 G s (os[i]?.getD [])):∀ t:Nat,t<i+1→C8 G ((q++[s])[t]?.getD default) (os[t]?.getD []):=fun t ht=>by
 rcases aK t i with h1 | h1
 · rw [bC uJ];exact h t h1
 have e:t=i:=uJ;subst e;rw [cD uJ,hq,iW];exact hs
theorem IT {p:PV} {rs:List (List Int)} {i:Nat} (hi:i<p.outs.length):(xE p rs)[i]?.getD []=rs[(p.outs[((i:Nat):Int).toNat]?.getD default).toNat]?.getD []:=by
 unfold xE;rw [bJ,aH,aA hi];rfl
section
attribute [local irreducible] uM pb vJ uZ p2 cst zP
theorem ci (G:A3) (a:Option Addr) (c:Nat) (l:List IV) (ha:Arr G a l) (hl:l.length≤1048576) :
 Does Tryz.prog 222 [.slice a l.length c] G [] (fun v G' Ho=>∃ s d,v=.slice s l.length d∧Arr G' s l∧l.length≤d∧Ho=[]):=by
 by_cases hne:a=none
 · have h0:l=[]:=by
    rcases ha.2 with h | ⟨b,o,h,_⟩
    · exact bS h
    rw [hne] at h;cases h
   subst hne;subst h0;have hyes:(none:Option Addr)=none:=rfl;refine D0 Tryz.func222 Tryz.ntmps222 fun w=>?_;refine aL 9 [] ?_;refine aT (iG T.sl39 U U) ?_;refine bA 10 [1] ?_;refine cZ ?_;exact ⟨none,0,U,oT _,aG _,U⟩
 refine D0 Tryz.func222 Tryz.ntmps222 fun w=>?_;refine aL 9 [] ?_;refine aT (iG T.sl39 U U) ?_;refine aN 7 [0] ?_;refine sS 0 U T.sl39 fun b1=>?_;refine aF 1 [] ?_;refine oF 0 (Row 89 ([]:List IV) []) U U ?_;refine fZ (α:=IV) (xs:=[]) (ys:=l) (junk:=[]) 0 U T.sl39 T.el89 U U U (.inr ⟨b1,U,U,aG _,aS _⟩) (mX ha) (by rw [cR];omega) OE fun a1 c1 junk1 ho1=>?_;rw [gI] at ho1 ⊢;have hc1:=ho1.le;refine bA 4 [] ?_;refine dX 0 U ho1 fun G1 hle1 hA1=>?_;refine cZ ?_;exact ⟨a1,c1,U,hA1,hc1,U⟩
def SH (p:PV) (gs:List (List Int)) (m N:Nat) (v:Value) (G':A3) (Ho:Hp):Prop:=
 Ho=[]∧((∃ os b r c',vH p gs=some os∧v=.tuple #[.slice b (List.length r) c',.int .i64 0,.int .i64 0]∧Arr G' b r∧List.length r≤c'∧B5 G' r os∧C1 (m+3*p.code.length) N os)∨(vH p gs=none∧∃ k,v=.tuple #[.slice none 0 0,.int .i64 k,.int .i64 20]))
theorem jt (G:A3) (p:PV) (ac ao ga:Option Addr) (cc co gc:Nat) (gl:List SV) (gs:List (List Int)) (m N:Nat) (hc:Arr G ac p.code) (ho:Arr G ao p.outs) (hga:Arr G ga gl) (hgg:B5 G gl gs) (hev:C1 m N gs) (hmm:m≤1048576) (hN:N≤4096) (hR:uY p=true) (hgi:(gl.length:Int)=p.ins) :
 Does Tryz.prog 208 [.agg (J6 p ac cc ao co),.slice ga gl.length gc] G [] (SH p gs m N):=by
 obtain ⟨f1,f2,f3,f4,f5,f6,f7,f8⟩:=vW hR;obtain ⟨R,hRR⟩:∃ R:Nat,p.regs=(R:Int):=⟨p.regs.toNat,by omega⟩
 refine D0 Tryz.func208 Tryz.ntmps208 fun w=>?_;refine gA 0 (Row 39 ([]:List SV) []) ?_;refine aL 2 [] ?_;refine fK 1 fun b1=>?_;refine aN 9 [1] ?_;refine cQ 2 U (sw _ p ac ao ga cc co gc gl gs m N hc ho hga hgg hev hN hR hgi) fun v1 G1 Ho1 hle1 hp=>?_;obtain ⟨b9,r0,rfl,hg0,hr0,rfl⟩:=hp;replace hc:=hc.up hle1;replace ho:=ho.up hle1;have hrl0:=Bg p gs;have hm0:C1 m N (wW p gs):=fun zs hz=>by
  unfold wW at hz;obtain ⟨k,hk,rfl⟩:=cV.1 hz;have hN9:=(hev.at (k:=0) (by have:=hgg.1;omega)).1;split
  · exact hev.at (k:=k) uJ
  rw [hN9];exact ⟨aC,Mu m _⟩
 refine bY 19 [0] ?_;refine gK [0,1,3] [(3,3),(1,3),(0,3)] T.mixed [[1,1],[2]] ?_;refine fC 0 ?_;refine dC U (sq _) ?_;refine eD 3 ?_;refine cQ 3 U (sv _ p gs ac ao cc co (some ⟨b9,0,none⟩) p.regs.toNat r0 [] m N hc (.inr ⟨b9,U,by rw [hr0];rfl,by omega,by simp only [maxLen];omega⟩) hg0 hm0 uJ uJ f4 uJ uJ f8) fun v9 G9 Ho9 hle9 hp=>?_;obtain ⟨r9,k9,rfl,rfl,hr9,ho9,hcase⟩:=hp;replace ho:=ho.up hle9;rcases hcase with ⟨rs,hrs,rfl,hg9,he9⟩ | ⟨hno,hk9⟩
 · have hrs1:=hg9.1;have lr9:r9.length=R:=uJ;have hfol:vH p gs=some (xE p rs):=by unfold vH;rw [hrs];rfl
   refine dG ?_;refine gS [[4]] ?_;refine eI ?_;refine rI 25 [0,1] ?_;refine iD 7 U (show _=Value.slice (some ⟨b9,0,none⟩) r9.length p.regs.toNat by rw [hr9]) ?_;refine fX (ι:=Nat×A3×List SV×(Option Addr×Nat×List Value)) (fun (i,Gx,q,(o,d,j))=>([(32,.int .i64 (i:Int)),(10,.slice o q.length d),(7,.slice (some (Addr.mk b9 0 none)) (List.length r9) (Int.toNat p.regs)),(31,.int .i64 (↑p.outs.length:Int)),(30,.slice ao p.outs.length co),(6,.int .i64 0),(5,.int .i64 0),(4,.slice none 0 0)],[(0,o.map (·.block),Row 39 q j),(3,some b9,Row 39 r9 []),(1,some b1,.cells (J6 p ac cc ao co) 26)])) (fun (i,Gx,q,(o,d,j))=>Gx) (fun (i,Gx,q,(o,d,j))=>i≤p.outs.length∧G9.le Gx∧q.length=i∧(∀ t:Nat,t<i→C8 Gx (q[t]?.getD default) ((xE p rs)[t]?.getD []))∧A5 o d q j) (fun (i,Gx,q,(o,d,j))=>p.outs.length - i) ((0,G9,[],(none,0,[]))) (⟨aS _,cC _,U,fun t ht=>by omega,fN⟩) U ⟨U,U,U,U,U,U,U,U,I8⟩ ⟨U,U,U,I8⟩ fun ⟨i,Gx,q,(o,d,j)⟩=>fun hk=>?_;obtain ⟨hi0,hgx,hqi,hbq,hoq⟩:=hk;replace ho:=ho.up hgx;rcases aK i p.outs.length with hio | hio
   · have hmem:p.outs[(i:Int).toNat]?.getD default∈p.outs:=by
      rw [aH,aA hio];exact dY hio
     have hrg:=f7 _ hmem;obtain ⟨l1,a1,a2,a3,a4⟩:=hg9.2 (p.outs[(i:Int).toNat]?.getD default).toNat uJ;have hN1:=(he9.at (k:=(p.outs[(i:Int).toNat]?.getD default).toNat) uJ).1;have hl1:l1.length=N:=by rw [a4.1,hN1]
     refine aL 13 [1] ?_;refine fF (α:=Int) T.sl24 ?_;refine iT 0 T.one3 ?_;refine aN 7 [] ?_;refine kZ (α:=SV) T.sl86 ?_;refine Wl.lo 3 0 T.one39 ?_;refine jB 40 U (show _=Value.slice (r9[(p.outs[(i:Int).toNat]?.getD default).toNat]?.getD default).a l1.length (r9[(p.outs[(i:Int).toNat]?.getD default).toNat]?.getD default).c by rw [a1]) ?_;refine cQ 20 U (ci _ _ _ l1 (a3.up hgx) uJ) fun v1 G2 Ho1 hle2 hp=>?_;obtain ⟨s2,d2,rfl,hA2,hd2,rfl⟩:=hp;refine eV (α:=SV) 4 [⟨_,_,_⟩] U T.sl86 T.el39 U U U U U fun b2=>?_;refine qG (α:=SV) 0 T.sl86 T.el39 (fP 4 U) fun a1 c1 junk1 ho1=>?_;refine bA 8 [] ?_;refine eH ((i+1,G2,q++[⟨s2,l1.length,d2⟩],(a1,c1,junk1))) ?_ ?_
     · refine ⟨by omega,bH hgx hle2,by rw [aI,hqi];rfl,Ge (fun t ht=>(hbq t ht).up hle2) hqi ?_,ho1⟩;rw [IT hio];exact ⟨l1,U,hd2,hA2,a4.up (bH hgx hle2)⟩
     show p.outs.length - (i+1)<p.outs.length - i;omega
   have hii:i=p.outs.length:=uJ;subst hii;have hqd:=hoq.le;refine cJ 21 [0] ?_;refine dX 0 U hoq fun G8 hle8 hA=>?_;refine sW (.inr U) (Ho:=[]) U (.tmp U) (.tmp U) (.tmp U) I8 ?_;have hol:(xE p rs).length=p.outs.length:=by unfold xE;rw [aW]
   refine ⟨U,.inl ⟨xE p rs,o,q,d,hfol,U,hA,hqd,⟨by omega,fun t ht=>(hbq t uJ).up hle8⟩,fun zs hz=>?_⟩⟩;unfold xE at hz;obtain ⟨x,hx,rfl⟩:=cV.1 hz;have hx7:=f7 x hx;exact he9.at (k:=x.toNat) uJ
 refine dG ?_;refine gS [[4]] ?_;refine eI ?_;refine iN 18 [1] ?_;refine sW (.inr U) (Ho:=[]) U (.tmp U) (.tmp U) (.tmp U) I8 ?_;exact ⟨U,.inr ⟨hno,k9,U⟩⟩
end
section
attribute [local irreducible] uM pb vJ uZ p2 cst zP
theorem tc (G:A3) (n:Nat) (hn:n≤4096) :
 Does Tryz.prog 254 [.int .i64 (n:Int)] G [] (fun v G' Ho=>∃ b,v=.tuple #[.slice (some ⟨b,0,none⟩) (List.replicate n (default:IV)).length n,.int .i64 0]∧G'=G∧Ho=[(0,some b,Row 89 (List.replicate n (default:IV)) [])]):=by
 refine D0 Tryz.func254 Tryz.ntmps254 fun w=>?_;refine aL 12 [] ?_;refine pR 6 ?_;refine aN 13 [0] ?_;refine jL (α:=IV) 0 U T.sl39 T.el89 U U uJ uJ fun b1=>?_;refine bA 5 [] ?_;refine jZ (.inr U) (Ho:=[(0,some b1,Row 89 (List.replicate n (default:IV)) [])]) U (.tmp U) (.tmp U) ⟨U,I8⟩ ?_;exact ⟨b1,by simp,rfl,rfl⟩
theorem tf (G:A3) (n j:Nat) (hn:n≤4096) (hj:j<n) :
 Does Tryz.prog 212 [.int .i64 (n:Int),.int .i64 (j:Int)] G [] (fun v G' Ho=>∃ s l d,v=.tuple #[.slice s (List.length l) d,.int .i64 0]∧Arr G' s l∧List.length l=n∧n≤d∧A8 G' l (wX n j)∧Ho=[]):=by
 refine D0 Tryz.func212 Tryz.ntmps212 fun w=>?_;refine aL 9 [] ?_;refine cQ 0 U (tc _ n hn) fun v1 G1 Ho1 hle1 hp=>?_;obtain ⟨b1,rfl,rfl,rfl⟩:=hp;have ho3:A5 (some ⟨b1,0,none⟩) n (List.replicate n (default:IV)) []:=.inr ⟨b1,U,by rw [aC];rfl,by rw [aC];exact aG _,by simp only [maxLen];omega⟩;obtain ⟨r0,hr0⟩:∃ r0,r0=List.replicate n (default:IV):=⟨_,U⟩
 have lr0:r0.length=n:=by rw [hr0,aC]
 rw [←hr0] at ho3 ⊢;refine aN 22 [0] ?_;refine pR 20 ?_;refine aN 18 [0] ?_;refine cQ 1 U (OC _ _ uR) fun v2 G2 Ho2 hle2 hp=>?_;obtain ⟨ri2,rfl,hri2,rfl⟩:=hp;refine kZ (α:=IV) T.sl39 ?_;refine fL (z:=ri2) (m:=(j:Int)) 0 T.size89 U U U ho3 uJ U fun ho1=>?_;have hB:A8 G2 (r0.set j ri2) (wX n j):=by
  rw [hr0];unfold wX;exact (pC G2 n).set j hri2
 have hl9:(r0.set j ri2).length=n:=by rw [aJ];exact lr0
 rw [aH] at ho1 ⊢;obtain ⟨r9,hr9⟩:∃ r9,r9=r0.set j ri2:=⟨_,U⟩
 rw [←hr9] at ho1 hB hl9 ⊢;refine bA 10 [] ?_;refine dX 0 U ho1 fun G3 hle3 hA3=>?_;refine dH 4 U (show _=Value.slice (some ⟨b1,0,none⟩) r9.length n by rw [hl9,lr0]) ?_;refine fU ?_;exact ⟨_,r9,n,U,hA3,hl9,aG _,hB.up hle3,U⟩
end
theorem Yj:pb 2=pw 4:=by unfold pb pw;decide
theorem Qs {N:Nat} {gs:List (List Int)} (h:bd 4 N gs):C1 2 N gs:=fun zs hz=>⟨(h zs hz).1,fun z hz'=>by rw [Yj];exact (h zs hz).2 z hz'⟩
theorem CE (n j:Nat):Below 2 (wX n j):=fun z hz=>by
 rw [Yj];exact Pp n j 4 uJ z hz
theorem SI {os:List (List Int)} {n:Nat} (hl:os.length=n):(os=(List.range n).map (wX n))↔∀ t:Nat,t<n→os[t]?.getD []=wX n t:=by
 constructor
 · intro h t ht;rw [h,bJ,dP ht];rfl
 intro h;refine dW fun i=>?_;rcases aK i n with h1 | h1
 · have:=h i h1;rw [aA uJ] at this ⊢;rw [bJ,dP h1];show some os[i]=some (wX n i);rw [←this];rfl
 rw [bF uJ,bF (by rw [aW,dO];omega)]
section
attribute [local irreducible] uM pb pw vJ uZ p2 cst zP vH yD uY wX
theorem SJ (G:A3) (p:PV) (ac ao:Option Addr) (cc co:Nat) (hc:Arr G ac p.code) (ho:Arr G ao p.outs) (h1:p.code.length≤1099511627776) (h2:p.outs.length≤1099511627776) (hP:¬uY p=true) :
 Does Tryz.prog 124 [.agg (J6 p ac cc ao co)] G [] (fun v G' Ho=>v=.tuple #[.int .i64 (yU p).1,.int .i64 80]∧G'=G∧Ho=[]):=by
 have hf:(yU p).2=true:=by unfold uY at hP;simpa using hP
 have h:=aw G p ac ao cc co hc ho h1 h2;rw [hf] at h;exact h
theorem ju (G:A3) (p:PV) (ac ao:Option Addr) (cc co:Nat) (a:Option Addr) (c:Nat) (l:List R2) (hc:Arr G ac p.code) (ho:Arr G ao p.outs) (hcl:p.code.length≤1099511627776) (hol:p.outs.length≤1099511627776) (ha:Arr G a l) (hac:l.length≤c) (hl:l.length≤1048576) (hR:yO l) (hP:uY p=true) :
 Does Tryz.prog 172 [.agg (J6 p ac cc ao co),.slice a l.length c] G [] (fun v G' Ho=>v=.tuple #[.bool (decide (wF p l)),.int .i64 0]∧Ho=[]):=by
 have hl1:=hR.1;have hl15:=hR.2.1;have hev:=Qs (EQ hl15 (fun i hi=>(hR.2.2.1 i hi).1));have hgl:=EP l;obtain ⟨f1,f2,f3,f4,f5,f6,f7,f8⟩:=vW hP;refine D0 Tryz.func172 Tryz.ntmps172 fun w=>?_;by_cases hI:p.ins=l.length
 · by_cases hO:p.outs.length=l.length
   · refine aL 2 [] ?_;refine fK 0 fun b1=>?_;refine aN 7 [] ?_;refine cQ 1 U (QS _ a c l uK uJ hac hR hl15 hR.2.2.1) fun v1 G1 Ho1 hle1 hp=>?_;obtain ⟨gs1,gr1,gc1,rfl,hga1,hgb1,hgc1,rfl⟩:=hp;replace hc:=hc.up hle1;replace ho:=ho.up hle1;replace ha:=ha.up hle1;refine aN 21 [0,0] ?_;refine dC U (Mt _ p _ _ _ _ uK uK hcl hol hP) ?_;refine aN 24 [0,0] ?_;refine pR 35 ?_;refine aN 22 [0,0,0] ?_;refine cQ 20 U (jt _ p ac ao gs1 cc co gc1 gr1 (yD l) 2 l.length uK uK uK uK hev uJ uJ hP (by rw [hgb1.1,hgl,hI])) fun v9 G9 Ho9 hle9 hp=>?_;obtain ⟨rfl,⟨os,ob,orr,oc,hfo,rfl,hoA,hol9,hoB,hoE⟩ | ⟨hno,k9,rfl⟩⟩:=hp
     · have hos:=Po hfo;have hoL:=hoB.1;replace ha:=ha.up hle9;have hiff:wF p l↔∀ t:Nat,t<l.length→os[t]?.getD []=wX l.length t:=by
        rw [←SI uJ];unfold wF;rw [hfo];exact ⟨fun h=>gH h.2.2.2,fun h=>⟨hP,hI,hO,by rw [h]⟩⟩
       refine bY 28 [0] ?_;refine Wc.lg (ι:=Nat×A3) (fun (i,Gx)=>([(54,.int .i64 (i:Int)),(53,.int .i64 (orr.length:Int)),(52,.slice ob (List.length orr) oc),(1,.slice a (List.length l) c)],[(0,some b1,.cells (J6 p ac cc ao co) 26)])) (fun (i,Gx)=>Gx) (fun (i,Gx)=>i≤l.length∧G9.le Gx∧∀ t:Nat,t<i→os[t]?.getD []=wX l.length t) (fun (i,Gx)=>l.length - i) ((0,G9)) (⟨aS _,cC _,fun t ht=>by omega⟩) fun ⟨i,Gx⟩=>fun hk=>?_;obtain ⟨hi0,hgx,hall⟩:=hk;replace hoA:=hoA.up hgx;rcases aK i l.length with hil | hil
       · obtain ⟨l1,a1,a2,a3,a4⟩:=(hoB.up hgx).2 i uJ;have hE1:=hoE.at (k:=i) uJ;refine aL 14 [1] ?_;refine fF (α:=SV) T.sl86 ?_;refine iT 0 T.one39 ?_;refine aN 9 [] ?_;refine cQ 20 U (tf _ l.length i uJ hil) fun v1 G2 Ho1 hle2 hp=>?_;obtain ⟨s2,l2,d2,rfl,hA2,hl2,hd2,hB2,rfl⟩:=hp;refine aN 11 [] ?_;refine jB 66 U (show _=Value.slice (orr[i]?.getD default).a l1.length (orr[i]?.getD default).c by rw [a1];rfl) ?_;refine cQ 20 U (rr _ _ _ _ _ l1 l2 (os[i]?.getD []) (wX l.length i) (a3.up hle2) hA2 (a4.up hle2) hB2 (by rw [a4.1,hE1.1];omega) uJ (2+3*p.code.length) uJ hE1.2 ((CE _ _).mono uJ)) fun v1 G3 Ho1 hle3 hp=>?_;obtain ⟨rfl,rfl,rfl⟩:=hp;by_cases he:os[i]?.getD []=wX l.length i
         · have he2:¬¬(os[i]?.getD []=wX l.length i):=fun h=>h he;refine aT (gF U) ?_;refine bA 10 [0] ?_;refine eH ((i+1,G3)) ?_ ?_
           · refine ⟨by omega,bH hgx hle2,fun t ht=>?_⟩;rcases aK t i with h1 | h1
             · exact hall t h1
             have e:t=i:=uJ;rw [e];exact he
           show l.length - (i+1)<l.length - i;omega
         have hnI:¬wF p l:=fun h=>he (hiff.1 h i hil);refine aT (gF U) ?_;refine bA 15 [1] ?_;refine fU ?_;exact ⟨by rw [cM hnI],U⟩
       have hyI:wF p l:=hiff.2 (fun t ht=>hall t uJ);refine cJ 19 [0] ?_;refine fU ?_;exact ⟨by rw [cX hyI],U⟩
     have hnI:¬wF p l:=fun h=>by have:=h.2.2.2;rw [hno] at this;cases this
     refine bA 25 [1] ?_;refine fU ?_;exact ⟨by rw [cM hnI],U⟩
   have hnI:¬wF p l:=fun h=>hO h.2.2.1;refine aL 2 [] ?_;refine fK 0 fun b1=>?_;refine aN 7 [] ?_;refine cQ 1 U (QS _ a c l uK uJ hac hR hl15 hR.2.2.1) fun v1 G1 Ho1 hle1 hp=>?_;obtain ⟨gs1,gr1,gc1,rfl,hga1,hgb1,hgc1,rfl⟩:=hp;replace hc:=hc.up hle1;replace ho:=ho.up hle1;replace ha:=ha.up hle1;refine aN 21 [0,0] ?_;refine dC U (Mt _ p _ _ _ _ uK uK hcl hol hP) ?_;refine aN 24 [0,0] ?_;refine pR 35 ?_;refine bA 24 [0,1] ?_;refine fU ?_;all_goals exact ⟨by rw [cM hnI],U⟩
 have hnI:¬wF p l:=fun h=>hI h.2.1;refine aL 2 [] ?_;refine fK 0 fun b1=>?_;refine aN 7 [] ?_;refine cQ 1 U (QS _ a c l uK uJ hac hR hl15 hR.2.2.1) fun v1 G1 Ho1 hle1 hp=>?_;obtain ⟨gs1,gr1,gc1,rfl,hga1,hgb1,hgc1,rfl⟩:=hp;replace hc:=hc.up hle1;replace ho:=ho.up hle1;replace ha:=ha.up hle1;refine aN 21 [0,0] ?_;refine dC U (Mt _ p _ _ _ _ uK uK hcl hol hP) ?_;refine aN 24 [0,0] ?_;refine Zv 35 ?_;refine bA 18 [1] ?_;refine fU ?_;all_goals exact ⟨by rw [cM hnI],U⟩
end
theorem MN {G:A3} {n j:Nat} {x:IV} (hx:B9 G x 1) (hj:j<n):A8 G ((List.replicate n (default:IV)).set j x) (wX n j):=by
 unfold wX;exact (pC G n).set j hx
section
attribute [local irreducible] uM uS pb pw vJ uZ p2 yP yD vH uY wX cst zP
theorem ti (G:A3) (k:Nat) (hk15:k≤15):Does Tryz.prog 209 [.int .i64 (k:Int)] G [] (fun v G' Ho=>∃ (s:Option Addr) (r:List SV) (c':Nat),v=.slice s r.length c'∧Arr G' s r∧B5 G' r (xW k)∧r.length≤c'∧Ho=[]):=by
 refine D0 Tryz.func209 Tryz.ntmps209 fun w=>?_;refine gA 9 (Row 39 ([]:List SV) []) ?_;refine dN 18 [] ?_;refine fX (ι:=Nat×A3×List SV×(Option Addr×Nat×List Value)) (fun (i,Gx,r,(o,d,j))=>([(7,.int .i64 (i:Int)),(3,.slice o r.length d),(6,.int .i64 (↑k:Int)),(2,.slice none 0 0),(0,.int .i64 (↑k:Int))],[(9,o.map (·.block),Row 39 r j)])) (fun (i,Gx,r,(o,d,j))=>Gx) (fun (i,Gx,r,(o,d,j))=>i≤k∧G.le Gx∧r.length=i∧B5 Gx r ((xW k).take i)∧A5 o d r j) (fun (i,Gx,r,(o,d,j))=>k - i) ((0,G,[],(none,0,[]))) (⟨aS _,cC _,U,by rw [bX];exact B5.nil _,fN⟩) U ⟨U,U,U,U,U,I8⟩ ⟨U,I8⟩ fun ⟨i,Gx,r,(o,d,j)⟩=>fun hk=>?_;obtain ⟨hi1,hi2,hi3,hi4,hi5⟩:=hk;rcases aK i k with hil | hil
 · refine aL 20 [1] ?_;refine jL (α:=IV) 10 U T.sl39 T.el89 U U uJ uJ fun b1=>?_;refine aN 7 [] ?_;refine cQ 11 U (OC _ 1 uR) fun v1 G1 Ho1 hle1 hp=>?_;obtain ⟨ro1,rfl,hro1,rfl⟩:=hp;have ho2:A5 (some ⟨b1,0,none⟩) (List.replicate ((k:Int)).toNat (default:IV)).length (List.replicate ((k:Int)).toNat (default:IV)) []:=kW (by rw [aC];simp only [maxLen];omega);refine aT (dJ (α:=IV) T.sl39 U U ho2 Oc) ?_;refine fL (α:=IV) (z:=ro1) (m:=(i:Int)) 10 T.size89 U U U ho2 Oc U fun ho3=>?_;refine eC 10 U ho3 fun G3 hle3 hA3=>?_;refine aN 5 [] ?_;refine eV (α:=SV) 11 [⟨_,_,_⟩] U T.sl86 T.el39 U U U U U fun b2=>?_;refine qG (α:=SV) 9 T.sl86 T.el39 (fP 11 U) fun a1 c1 junk1 ho1=>?_;refine bA 8 [] ?_;refine dH 7 U (show _=Value.int .i64 ((i+1:Nat):Int) from U) ?_;refine eH ((i+1,_,r++[⟨some ⟨b1,0,none⟩,(List.replicate ((k:Int)).toNat (default:IV)).length,(List.replicate ((k:Int)).toNat (default:IV)).length⟩],(a1,c1,junk1))) ?_ ?_
   · refine ⟨by omega,bH hi2 (bH hle1 hle3),by rw [aI,hi3];rfl,?_,ho1⟩;have e:(xW k).take (i+1)=(xW k).take i++[wX k i]:=by
      rw [fW];congr 1;unfold xW;rw [bJ,dP hil];rfl
     rw [e];exact B5.snoc (hi4.up (bH hle1 hle3)) ⟨_,by rw [aJ],aG _,hA3,(MN hro1 hil).up hle3⟩
   show k - (i+1)<k - i;omega
 have hie:i=k:=uJ;subst hie;have e:(xW i).take i=xW i:=eQ (by rw [Hf];exact aG _);rw [e] at hi4;refine cJ 19 [0] ?_;refine dX 9 U hi5 fun G8 hle8 hA8=>?_;refine cZ ?_;exact ⟨_,_,_,U,hA8,hi4.up hle8,hi5.le,U⟩
end
theorem tj (G:A3) (a:Option Addr) (c:Nat) (l:List R2) (ha:Arr G a l) (hl:l.length≤1048576) :
 Does Tryz.prog 25 [.slice a l.length c] G [] (fun v G' Ho=>∃ s d,v=.slice s l.length d∧Arr G' s l∧l.length≤d∧Ho=[]):=by
 refine D0 Tryz.func25 Tryz.ntmps25 fun w=>?_;by_cases hne:a=none
 · subst hne;have hl0:l=[]:=by
    rcases ha.2 with h0 | ⟨_,_,h,_⟩
    · exact List.length_eq_zero_iff.mp h0
    cases h
   subst hl0;refine gA 0 (Row 51 ([]:List R2) []) ?_;refine aL 9 [] ?_;refine aT (iG T.sl22 U U) ?_;refine bY 2 [] ?_;refine hZ (fun hc1=>?_) fun hc1=>?_;refine cJ 7 [] ?_;rotate_left;refine aL 4 [] ?_;refine sS 1 U T.sl22 fun b1=>?_;refine aF 1 [] ?_;rotate_left;refine cZ ?_
   · exact ⟨none,0,U,⟨U,.inl U⟩,aG _,U⟩
   exact absurd U hc1
 refine aL 9 [] ?_;refine aT (iG T.sl22 U U) ?_;refine aN 7 [0] ?_;refine sS 0 U T.sl22 fun b1=>?_;refine aF 1 [] ?_;refine oF 0 (Row 51 ([]:List R2) []) U U ?_;refine fZ (α:=R2) (xs:=[]) (ys:=l) (junk:=[]) 0 U T.sl22 T.el51 U U U (.inr ⟨b1,U,U,aG _,aS _⟩) (mX ha) (by rw [cR];omega) OE fun a1 c1 junk1 ho1=>?_;rw [gI] at ho1 ⊢;refine bA 4 [] ?_;refine dX 0 U ho1 fun G1 hle1 harr1=>?_;refine cZ ?_;exact ⟨a1,c1,U,harr1,ho1.le,U⟩
noncomputable instance (l:List R2):Decidable (Bq l):=Classical.propDecidable _
theorem jv (G:A3) (a:Option Addr) (c:Nat) (l:List R2) (ha:Arr G a l) (h1:l.length≤1048576):Does Tryz.prog 165 [.slice a l.length c,.func (.func 166) #[] #[]] G [] (fun v G' Ho=>v=.bool (decide (Bq l))∧G'=G∧Ho=[]):=by
 refine (rb G a c l ha h1).mono fun v G' Ho _ ⟨b,e,h1,h2,h3⟩=>?_;subst e;refine ⟨?_,h2,h3⟩;congr 1;by_cases h:Bq l
 · rw [cX h];exact h1.2 h
 rw [cM h];exact Bool.eq_false_iff.2 (fun h2=>h (h1.1 h2))
theorem jx (G:A3) (k1 k2:Int) (a:Option Addr) (c:Nat) (l:List R2) (ha:Arr G a l) (hl:l.length≤1048576) (hlc:l.length≤c) :
 Does Tryz.prog 122 [.int .i64 k1,.int .i64 k2,.slice a l.length c] G [] (fun v G' Ho=>∃ pv:Value,v=.tuple #[pv,.int .i64 (vR k1 k2 l)]∧Ho=[]):=by
 refine D0 Tryz.func122 Tryz.ntmps122 fun w=>?_;refine aL 10 [] ?_;refine dC U (by apply jc <;> first | assumption | omega | rfl) ?_;refine aT (gF U) ?_;refine aF 1 [] ?_;apply fG 4 16 20 U;intro hg1;refine aF 3 [] ?_;refine dC U (by apply jc <;> first | assumption | omega | rfl) ?_;refine aF 1 [] ?_;refine aT (gF U) ?_;refine aF 1 [] ?_;exact gO 4 0;intro hg1;refine aF 4 [] ?_;exact gO 4 0;refine bY 2 [] ?_;refine hZ (fun hc1=>?_) fun hc1=>?_;refine cJ 8 [] ?_;rotate_left;refine dN 11 [] ?_;rotate_left
 · refine fU ?_;exact ⟨_,by rw [Ji (by unfold wG;omega)],U⟩
 have hP:wG k1∧wG k2:=by unfold wG;omega
 refine kL (ι:=Nat) (fun j=>([(23,.int .i64 (j:Int)),(0,.int .i64 k1),(1,.int .i64 k2),(2,.slice a l.length c),(22,.int .i64 (l.length:Int)),(21,.slice a (List.length l) c)],[])) (fun j=>j≤l.length∧∀ i:Nat,i<j→yN (l[i]?.getD default).a (l[i]?.getD default).b) (fun j=>l.length - j) (0) (⟨aS _,fun i h=>absurd h uJ⟩) fun j=>fun hk=>?_;obtain ⟨hj,hno⟩:=hk;refine dN 6 [] ?_;refine hZ (fun hc2=>?_) fun hc2=>?_;refine aL 6 [] ?_;refine fF (α:=R2) T.sl22 ?_;refine qF T.agg51 ?_;refine bB 0 U T.zero51 fun b1=>?_;refine aN 6 [0,0] ?_;refine dC U Tv ?_;refine aT (gF U) ?_;refine bY 2 [] ?_;refine hZ (fun hc3=>?_) fun hc3=>?_;refine cJ 12 [] ?_;rotate_left;refine cJ 7 [] ?_;rotate_left;refine aL 16 [] ?_;apply fG 3 38 41 U;intro hg1;refine aF 3 [] ?_;refine dC U (jv _ _ _ _ uK uJ) ?_;refine aF 1 [] ?_;exact gO 3 0;intro hg1;refine aF 3 [] ?_;exact gO 3 0;refine bY 2 [] ?_;refine hZ (fun hc3=>?_) fun hc3=>?_;refine cJ 8 [] ?_;rotate_left;refine aL 5 [] ?_;refine cQ 0 U (iz _ _ _ _ uK uJ vG) fun v1 G1 Ho1 hle1 hp=>?_;obtain ⟨ti1,tj1,tb1,rfl,htb1,rfl,rfl⟩:=hp;refine bY 15 [] ?_;refine Og U (fun hc4=>?_) fun hc4=>?_;refine cJ 8 [] ?_;rotate_left;refine aL 7 [] ?_;refine cQ 0 U (tj _ _ _ _ uK uJ) fun v2 G2 Ho2 hle2 hp=>?_;obtain ⟨s2,d2,rfl,hs2,hsd2,rfl⟩:=hp;refine aT (fY (cs:=[_,_,_]) T.st251 U U U) ?_;refine fK 0 fun b1=>?_;refine bA 5 [] ?_;rotate_left
 · refine fU ?_;exact ⟨_,by rw [AR (fun h=>absurd (h j uJ) uK)],U⟩
 · refine dH 23 U (show _=Value.int .i64 ((j+1:Nat):Int) from U) ?_;refine eH (j+1) ?_ ?_
   · refine ⟨by omega,fun i hi=>?_⟩;rcases aK i j with h | h
     · exact hno i h
     have e:i=j:=uJ;subst e;exact jY.1 uK
   omega
 · have hA:Jh l:=fun i hi=>hno i uJ;have e:vR k1 k2 l=71:=hc3.elim (fun h=>Us hP hA h) (fun h=>Le hP hA (.inl h));refine fU ?_;exact ⟨_,by rw [e],U⟩
 · have hA:Jh l:=fun i hi=>hno i uJ;have e:vR k1 k2 l=71:=Le hP hA (.inr (htb1.1 uK));refine fU ?_;exact ⟨_,by rw [e],U⟩
 have hA:Jh l:=fun i hi=>hno i uJ;have e:vR k1 k2 l=0:=QX hP hA (gC fun h=>hc3 (.inl h)) (fun h=>h.elim (fun h=>hc3 (.inr h)) (fun h=>absurd (htb1.2 h) (by rw [hc4];decide)));refine fU ?_;exact ⟨_,by rw [e],U⟩
theorem tk (G:A3) (a:Option Addr) (c:Nat) (l:List R2) (ha:Arr G a l) (hl:l.length≤1048576) (hR:yO l) :
 Does Tryz.prog 184 [.slice a l.length c] G [] (fun v G' Ho=>v=.bool (decide (1=1))∧G'=G∧Ho=[]):=by
 refine D0 Tryz.func184 Tryz.ntmps184 fun w=>?_;refine dN 14 [] ?_;refine kL (ι:=Nat) (fun j=>([(7,.int .i64 (j:Int)),(6,.int .i64 (l.length:Int)),(5,.slice a (List.length l) c),(0,.slice a (List.length l) c)],[])) (fun j=>j≤l.length) (fun j=>l.length - j) (0) (aS _) fun j=>fun (hk:j≤l.length)=>?_;refine dN 6 [] ?_;refine hZ (fun hc1=>?_) fun hc1=>?_;refine aL 6 [] ?_;refine fF (α:=R2) T.sl22 ?_;refine qF T.agg51 ?_;refine bB 0 U T.zero51 fun b1=>?_;refine aN 6 [0,0] ?_;refine dC U Tv ?_;refine aT (gF U) ?_;refine bY 2 [] ?_;refine hZ (fun hc2=>?_) fun hc2=>?_;refine cJ 11 [] ?_;rotate_left;refine cJ 7 [] ?_;rotate_left;refine aL 11 [] ?_;apply gE 4 18 22 U;intro hg1;refine aF 7 [] ?_;exact gO 4 0;intro hg1;refine aF 4 [] ?_;exact gO 4 0;refine bA 4 [] ?_;rotate_left
 · exfalso;have h:=(hR.2.2.1 j uJ).1;exact absurd h uK
 · refine dH 7 U (show _=Value.int .i64 ((j+1:Nat):Int) from U) ?_;refine eH (j+1) ?_ ?_
   · omega
   omega
 refine cZ ?_;have h1:=hR.1;have h2:=hR.2.1;exact ⟨by rw [cX uJ,cX rfl],U,U⟩
theorem CF {x y:Int}:vJ x y=0↔x=y:=by
 unfold vJ;split
 · omega
 split <;> omega
theorem FO {a b:Int} {n:Nat} (h:yN a b) (hn:n≤15):Below 2 (yP a b n):=fun z hz=>by
 rw [Yj];exact (Uq h hn).2 z hz
theorem jy (G:A3) (p:PV) (ac ao ga:Option Addr) (cc co gc:Nat) (gl:List SV) (gs:List (List Int)) (m N:Nat) (hc:Arr G ac p.code) (ho:Arr G ao p.outs) (hga:Arr G ga gl) (hgg:B5 G gl gs) (hev:C1 m N gs) (hmm:m≤1048576) (hN:N≤4096) (hR:uY p=true) (hgi:(gl.length:Int)=p.ins) (os:List (List Int)) (hf:vH p gs=some os) :
 Does Tryz.prog 208 [.agg (J6 p ac cc ao co),.slice ga gl.length gc] G [] (fun v G' Ho=>∃ b r c',v=.tuple #[.slice b (List.length r) c',.int .i64 0,.int .i64 0]∧Arr G' b r∧B5 G' r os∧C1 (m+3*p.code.length) N os∧Ho=[]):=by
 refine (jt G p ac ao ga cc co gc gl gs m N hc ho hga hgg hev hmm hN hR hgi).mono fun v G' Ho _ h=>?_;obtain ⟨h0,⟨os2,b,r,c',h1,h2,h3,h4,h5,h6⟩ | ⟨h1,_⟩⟩:=h
 · rw [hf] at h1;obtain rfl:=gH h1;exact ⟨b,r,c',h2,h3,h5,h6,h0⟩
 rw [hf] at h1;cases h1
section
attribute [local irreducible] uM uS pb pw vJ uZ p2 yP yD vH uY wX cst zP
theorem jz (G:A3) (p:PV) (ac ao a:Option Addr) (cc co c k:Nat) (l:List R2) (hc:Arr G ac p.code) (ho:Arr G ao p.outs) (ha:Arr G a l) (hcl:p.code.length≤16384) (hol:p.outs.length≤1099511627776) (hRL:yO l) (hR:uY p=true) (hk1:1≤k) (hk8:k≤8) :
 Does Tryz.prog 169 [.agg (J6 p ac cc ao co),.int .i64 (k:Int),.slice a l.length c] G [] (fun v G' Ho=>v=.tuple #[.bool (decide (xH p (k:Int) l)),.int .i64 0]∧Ho=[]):=by
 have hl15:l.length≤15:=hRL.2.1;have hnr:∀ i:Nat,i<l.length→yN (l[i]?.getD default).a (l[i]?.getD default).b:=fun i hi=>(hRL.2.2.1 i hi).1;refine D0 Tryz.func169 Tryz.ntmps169 fun w=>?_;refine aL 2 [] ?_;refine fK 0 fun b1=>?_;refine aN 10 [] ?_;refine pR 22 ?_;refine aF 6 [] ?_;refine pR 26 ?_;refine aF 3 [] ?_;refine dC U (tk _ _ _ _ uK uJ hRL) ?_;refine aF 1 [] ?_;refine aT (gF U) ?_;refine aN 9 [0,0] ?_;refine dC U (Mt _ p _ _ _ _ uK uK uJ hol hR) ?_;refine aN 25 [0,0] ?_;apply fG 7 43 50 U;intro hg1;refine aF 13 [0] ?_;exact gO 7 0;intro hg1;refine aF 7 [] ?_;exact gO 7 0;refine bY 2 [] ?_;refine hZ (fun hc1=>?_) fun hc1=>?_;refine cJ 8 [] ?_;rotate_left;refine dN 12 [0] ?_;rotate_left
 · refine fU ?_;exact ⟨by rw [cM (fun h=>hc1.elim (fun h2=>h2 h.1) (fun h2=>h2 (by have:=h.2.1;omega)))],U⟩
 have hI:p.ins=(k:Int):=gC fun h=>hc1 (.inl h);have hO:p.outs.length=l.length:=gC fun h=>hc1 (.inr uJ);refine kL (ι:=Nat) (fun j=>([(54,.int .i64 (j:Int)),(1,.int .i64 (k:Int)),(2,.slice a l.length c),(53,.int .i64 (↑p.code.length:Int)),(52,.slice ac p.code.length cc),(9,.int .i64 0),(3,.pointer (some ⟨b1,0,none⟩))],[(0,some b1,.cells (J6 p ac cc ao co) 26)])) (fun j=>j≤p.code.length∧∀ i:Nat,i<j→¬((p.code[i]?.getD default).op=6∨(p.code[i]?.getD default).op=8)) (fun j=>p.code.length - j) (0) (⟨aS _,fun i h=>absurd h uJ⟩) fun j=>fun hk=>?_;obtain ⟨hj,hno⟩:=hk;rcases aK j p.code.length with hjl | hjl
 · refine aL 13 [1] ?_;refine fF (α:=Sl.Instr) T.sl23 ?_;refine qF T.agg211 ?_;refine bB 1 U T.zero211 fun b2=>?_;refine aN 9 [1,1] ?_;apply fG 4 61 65 U;intro hg1;refine aF 7 [1] ?_;exact gO 4 0;intro hg1;refine aF 4 [] ?_;exact gO 4 0;refine bY 2 [] ?_;refine hZ (fun hc2=>?_) fun hc2=>?_;refine cJ 12 [] ?_;rotate_left;refine cJ 7 [] ?_;rotate_left
   · refine fU ?_;refine ⟨by rw [cM (fun h=>h.2.2.1 (p.code[j]?.getD default) (by rw [aA hjl];exact dY _) uK)],U⟩
   refine dH 54 U (show _=Value.int .i64 ((j+1:Nat):Int) from U) ?_;refine eH (j+1) ?_ ?_
   · refine ⟨by omega,fun i hi=>?_⟩;rcases aK i j with h | h
     · exact hno i h
     have e:i=j:=uJ;subst e;assumption
   show p.code.length - (j+1)<p.code.length - j;omega
 have hND:AQ p:=fun i hi=>by
  obtain ⟨t,ht,rfl⟩:=mT.1 hi;have:=hno t uJ;rw [aA ht] at this;exact this
 obtain ⟨os,hf⟩:=Xw hND (xW k);have hosl:os.length=l.length:=by rw [Po hf,hO]
 have hiff:xH p (k:Int) l↔∀ t:Nat,t<l.length→os[t]?.getD []=yP (l[t]?.getD default).a (l[t]?.getD default).b k:=by
  rw [←QW hosl];unfold xH;rw [aH,hf];exact ⟨fun h=>gH h.2.2.2,fun h=>⟨hI,hO,hND,by rw [h]⟩⟩
 refine dN 13 [0] ?_;refine gK [0] [] T.mixed [[0,0],[1]] ?_;refine fC 2 ?_;refine cQ 1 U (ti _ k uJ) fun v1 G1 Ho1 hle1 hp=>?_;obtain ⟨us1,ur1,uc1,rfl,huA1,huB1,huL1,rfl⟩:=hp;replace hc:=hc.up hle1;replace ho:=ho.up hle1;replace ha:=ha.up hle1;refine eD 3 ?_;refine cQ 1 U (jy _ p _ _ _ _ _ _ _ (xW k) 2 k uK uK uK uK (Qs (AP k)) uJ uJ hR (by rw [huB1.1,Hf];omega) os hf) fun v2 G2 Ho2 hle2 hp=>?_;obtain ⟨ob2,or2,oc2,rfl,hoA2,hoB2,hoE2,rfl⟩:=hp;replace huA1:=huA1.up hle2;replace hc:=hc.up hle2;replace ho:=ho.up hle2;replace ha:=ha.up hle2;refine dG ?_;refine gS [[4],[5],[6],[7],[8],[9],[10]] ?_;refine eI ?_;refine rI 20 [0] ?_;have hol2:or2.length=l.length:=by rw [hoB2.1];exact hosl
 refine Wc.lg (ι:=Nat×A3) (fun (i,Gx)=>([(79,.int .i64 (i:Int)),(1,.int .i64 (k:Int)),(2,.slice a l.length c),(78,.int .i64 (l.length:Int)),(77,.slice a (List.length l) c),(12,.slice ob2 (List.length or2) oc2)],[(0,some b1,.cells (J6 p ac cc ao co) 26)])) (fun (i,Gx)=>Gx) (fun (i,Gx)=>i≤l.length∧G2.le Gx∧∀ t:Nat,t<i→os[t]?.getD []=yP (l[t]?.getD default).a (l[t]?.getD default).b k) (fun (i,Gx)=>l.length - i) ((0,G2)) (⟨aS _,cC _,fun t ht=>absurd ht uJ⟩) fun ⟨i,Gx⟩=>fun hk=>?_;obtain ⟨hi0,hgx,hall⟩:=hk;replace ha:=ha.up hgx;replace hoA2:=hoA2.up hgx;rcases aK i l.length with hil | hil
 · have hnear:yN (l[(i:Int).toNat]?.getD default).a (l[(i:Int).toNat]?.getD default).b:=hnr i hil;refine aL 14 [1] ?_;refine fF (α:=R2) T.sl22 ?_;refine qF T.agg51 ?_;refine bB 1 U T.zero51 fun b2=>?_;refine aN 8 [1,1] ?_;refine cQ 2 U (ja _ _ _ k hnear uJ) fun v3 G3 Ho3 hle3 hp=>?_;obtain ⟨ps3,pr3,pc3,rfl,hpA3,hpB3,hpL3,rfl⟩:=hp;replace ha:=ha.up hle3;replace hoA2:=hoA2.up hle3;refine aN 11 [] ?_;refine fF (α:=SV) T.sl86 ?_;refine iT 0 T.one39 ?_;refine bY 5 [] ?_;obtain ⟨q,hq1,hq2,hq3,hq4⟩:=(hoB2.up (bH hgx hle3)).2 i uJ;have hE:=hoE2.at (k:=i) uJ;have hql:q.length=k:=hq4.1.trans hE.1;have hP:Below 2 (yP (l[i]?.getD default).a (l[i]?.getD default).b k):=FO (hnr i hil) uJ;have hpl:pr3.length=k:=hpB3.1.trans (Pr _ _ _);refine iD 93 U (show _=Value.slice (or2[(i:Int).toNat]?.getD default).a q.length (or2[(i:Int).toNat]?.getD default).c by rw [hq1];rfl) ?_;refine iD 94 U (show _=Value.int .i64 (q.length:Int) by rw [hq1];rfl) ?_;refine kL (ι:=Nat) (fun j=>([(95,.int .i64 (j:Int)),(93,.slice (or2[(i:Int).toNat]?.getD default).a q.length (or2[(i:Int).toNat]?.getD default).c),(94,.int .i64 (q.length:Int)),(16,.slice ps3 pr3.length pc3),(12,.slice ob2 or2.length oc2),(1,.int .i64 (k:Int)),(2,.slice a l.length c),(77,.slice a l.length c),(78,.int .i64 (l.length:Int)),(79,.int .i64 (i:Int))],[(1,some b2,.cells (List.toArray (A2.enc (Option.getD l[Int.toNat (↑i:Int)]? default))) 51),(0,some b1,.cells (J6 p ac cc ao co) 26)])) (fun j=>j≤k∧∀ t:Nat,t<j→(os[i]?.getD [])[t]?.getD 0=(yP (l[i]?.getD default).a (l[i]?.getD default).b k)[t]?.getD 0) (fun j=>k - j) (0) (⟨aS _,fun i h=>absurd h uJ⟩) fun j=>fun hk=>?_;obtain ⟨hj9,hjj⟩:=hk;rcases aK j k with hjk | hjk
   · have hx:=hq4.at (k:=(j:Int)) uJ;have hy:=hpB3.at (k:=(j:Int)) uJ;have hxn:=jG hx (hE.2.at _);have hyn:=jG hy (hP.at _);refine aL 14 [1] ?_;refine fF (α:=IV) T.sl39 ?_;refine qF T.agg89 ?_;refine bB 2 U T.zero89 fun b3=>?_;refine bY 5 [2] ?_;refine gK [0,1,2] [] T.mixed [[0,2],[1],[2]] ?_;refine qN (α:=IV) 3 T.sl39 ?_;refine Gm.le 4 T.agg89 ?_;refine fC 5 ?_;refine dC U (c57 _ _ _ _ _ hx hy uJ uJ) ?_;refine dG ?_;refine gS [[6]] ?_;refine eI ?_;refine bE ?_;refine hZ (fun hc2=>?_) fun hc2=>?_;refine cJ 16 [] ?_;rotate_left;refine cJ 7 [] ?_;rotate_left
     · refine fU ?_;have hne:¬((os[i]?.getD [])[j]?.getD 0=(yP (l[i]?.getD default).a (l[i]?.getD default).b k)[j]?.getD 0):=fun h=>absurd (CF.2 h) uK;exact ⟨by rw [cM (fun h=>hne (by rw [hiff.1 h i hil]))],U⟩
     refine dH 95 U (show _=Value.int .i64 ((j+1:Nat):Int) from U) ?_;refine eH (j+1) ?_ ?_
     · refine ⟨by omega,fun t ht=>?_⟩;rcases aK t j with h | h
       · exact hjj t h
       have e:t=j:=uJ;subst e;exact CF.1 (jY.1 uK)
     show k - (j+1)<k - j;omega
   have hjk:j=k:=uJ;subst hjk;refine cJ 17 [0] ?_;refine dH 79 U (show _=Value.int .i64 ((i+1:Nat):Int) from U) ?_;refine eH ((i+1,G3)) ?_ ?_
   · refine ⟨by omega,bH hgx hle3,fun t ht=>?_⟩;rcases aK t i with h | h
     · exact hall t h
     have e:t=i:=uJ;subst e;exact (WT hE.1 (Pr _ _ _)).2 hjj
   show l.length - (i+1)<l.length - i;omega
 refine cJ 19 [0] ?_;refine fU ?_;exact ⟨by rw [cX (hiff.2 (fun t ht=>hall t uJ))],U⟩
end
theorem cj {k1 k2:Int} {l:List R2} {x y z:PV} (h:¬vR k1 k2 l=0):vN k1 k2 l x y z=(0,vR k1 k2 l):=by unfold vN;rw [aM h]
theorem XP {k1 k2:Int} {l:List R2} {x y z:PV} (h:vR k1 k2 l=0) (h1:¬uY x=true):vN k1 k2 l x y z=(1,80):=by
 unfold vN;rw [aE (fun h0=>h0 h),aM h1]
theorem XQ {k1 k2:Int} {l:List R2} {x y z:PV} (h:vR k1 k2 l=0) (h1:uY x=true) (h2:¬xH x k1 l):vN k1 k2 l x y z=(1,180):=by
 unfold vN;rw [aE (fun h0=>h0 h),aE (fun h0=>h0 h1),aM h2]
theorem XR {k1 k2:Int} {l:List R2} {x y z:PV} (h:vR k1 k2 l=0) (h1:uY x=true) (h2:xH x k1 l) (h3:¬uY y=true):vN k1 k2 l x y z=(2,80):=by
 unfold vN;rw [aE (fun h0=>h0 h),aE (fun h0=>h0 h1),aE (fun h0=>h0 h2),aM h3]
theorem XS {k1 k2:Int} {l:List R2} {x y z:PV} (h:vR k1 k2 l=0) (h1:uY x=true) (h2:xH x k1 l) (h3:uY y=true) (h4:¬xH y k2 l):vN k1 k2 l x y z=(2,180):=by
 unfold vN;rw [aE (fun h0=>h0 h),aE (fun h0=>h0 h1),aE (fun h0=>h0 h2),aE (fun h0=>h0 h3),aM h4]
theorem XT {k1 k2:Int} {l:List R2} {x y z:PV} (h:vR k1 k2 l=0) (h1:uY x=true) (h2:xH x k1 l) (h3:uY y=true) (h4:xH y k2 l) (h5:¬uY z=true):vN k1 k2 l x y z=(3,80):=by
 unfold vN;rw [aE (fun h0=>h0 h),aE (fun h0=>h0 h1),aE (fun h0=>h0 h2),aE (fun h0=>h0 h3),aE (fun h0=>h0 h4),aM h5]
theorem XU {k1 k2:Int} {l:List R2} {x y z:PV} (h:vR k1 k2 l=0) (h1:uY x=true) (h2:xH x k1 l) (h3:uY y=true) (h4:xH y k2 l) (h5:uY z=true) (h6:¬wF z l):vN k1 k2 l x y z=(3,180):=by
 unfold vN;rw [aE (fun h0=>h0 h),aE (fun h0=>h0 h1),aE (fun h0=>h0 h2),aE (fun h0=>h0 h3),aE (fun h0=>h0 h4),aE (fun h0=>h0 h5),aM h6]
theorem XV {k1 k2:Int} {l:List R2} {x y z:PV} (h:vR k1 k2 l=0) (h1:uY x=true) (h2:xH x k1 l) (h3:uY y=true) (h4:xH y k2 l) (h5:uY z=true) (h6:wF z l):vN k1 k2 l x y z=(0,0):=by
 unfold vN;rw [aE (fun h0=>h0 h),aE (fun h0=>h0 h1),aE (fun h0=>h0 h2),aE (fun h0=>h0 h3),aE (fun h0=>h0 h4),aE (fun h0=>h0 h5),aE (fun h0=>h0 h6)]
section
attribute [local irreducible] xH wF vR uY yO
end
theorem Qt {G:A3} {b:Nat} {c:Array Value} {ty:TypeId} {z:Nat×Nat} (h:G b=some (.cells c ty z)) {k:Nat} {v:Value} (hv:c[k]?=some v):G.cell b k=some v:=by
 unfold A3.cell;rw [h];exact hv
structure PF where
 p:PH
 f:Nat
 b:Nat
instance:Inhabited PF:=⟨⟨default,0,0⟩⟩
instance:A2 PF:=⟨5,fun x=>[.int .i64 x.p.ins,.int .i64 x.p.regs,.slice x.p.ac x.p.cn x.p.cc,.slice x.p.ao x.p.on x.p.oc,.func (.func x.f) #[] #[.pointer (some ⟨x.b,0,none⟩)]],fun _=>rfl,fun _=>rfl⟩
section
attribute [local irreducible] xH wF vR uY yO
theorem tn (G:A3) (k:Nat) (b:Nat) (cs:Array Value) (ty:TypeId) (zz:Nat×Nat) (p:PV) (ac ao a:Option Addr) (cc co c:Nat) (l:List R2) (hU:G b=some (.cells cs ty zz)) (h0:cs[0]?=some (.int .i64 (k:Int))) (h2:cs[2]?=some (.slice a l.length c)) (hc:Arr G ac p.code) (ho:Arr G ao p.outs) (ha:Arr G a l) (hac:l.length≤c) (hl:l.length≤1048576) (hcl:p.code.length≤16384) (hol:p.outs.length≤1099511627776) (hRL:yO l) (hR:uY p=true) (hk1:1≤k) (hk8:k≤8) :
 Does Tryz.prog 168 [.agg (J6 p ac cc ao co),.pointer (some ⟨b,0,none⟩)] G [] (fun v G' Ho=>v=.tuple #[.bool (decide (xH p (k:Int) l)),.int .i64 0]∧Ho=[]):=by
 refine D0 Tryz.func168 Tryz.ntmps168 fun w=>?_;refine aL 2 [] ?_;refine fK 0 fun b1=>?_;refine aN 8 [0] ?_;refine aT (cS T.one3 U ((by rw [cF]:G.cell b (0+0)=G.cell b 0).trans (Qt hU h0))) ?_;refine aF 1 [] ?_;refine aT (cS T.one22 U ((by rw [cF]:G.cell b (0+2)=G.cell b 2).trans (Qt hU h2))) ?_;refine cQ 1 U (jz _ _ _ _ _ _ _ _ _ _ uK uK uK uJ uJ hRL hR uJ uJ) fun v1 G1 Ho1 hle1 hp=>?_;obtain ⟨rfl,rfl⟩:=hp;replace hc:=hc.up hle1;replace ho:=ho.up hle1;replace ha:=ha.up hle1;refine bA 7 [] ?_;refine fU ?_;exact ⟨U,U⟩
theorem tr (G:A3) (k:Nat) (b:Nat) (cs:Array Value) (ty:TypeId) (zz:Nat×Nat) (p:PV) (ac ao a:Option Addr) (cc co c:Nat) (l:List R2) (hU:G b=some (.cells cs ty zz)) (h0:cs[1]?=some (.int .i64 (k:Int))) (h2:cs[2]?=some (.slice a l.length c)) (hc:Arr G ac p.code) (ho:Arr G ao p.outs) (ha:Arr G a l) (hac:l.length≤c) (hl:l.length≤1048576) (hcl:p.code.length≤16384) (hol:p.outs.length≤1099511627776) (hRL:yO l) (hR:uY p=true) (hk1:1≤k) (hk8:k≤8) :
 Does Tryz.prog 170 [.agg (J6 p ac cc ao co),.pointer (some ⟨b,0,none⟩)] G [] (fun v G' Ho=>v=.tuple #[.bool (decide (xH p (k:Int) l)),.int .i64 0]∧Ho=[]):=by
 refine D0 Tryz.func170 Tryz.ntmps170 fun w=>?_;refine aL 2 [] ?_;refine fK 0 fun b1=>?_;refine aN 8 [0] ?_;refine aT (cS T.one3 U ((by rw [cF]:G.cell b (0+1)=G.cell b 1).trans (Qt hU h0))) ?_;refine aF 1 [] ?_;refine aT (cS T.one22 U ((by rw [cF]:G.cell b (0+2)=G.cell b 2).trans (Qt hU h2))) ?_;refine cQ 1 U (jz _ _ _ _ _ _ _ _ _ _ uK uK uK uJ uJ hRL hR uJ uJ) fun v1 G1 Ho1 hle1 hp=>?_;obtain ⟨rfl,rfl⟩:=hp;replace hc:=hc.up hle1;replace ho:=ho.up hle1;replace ha:=ha.up hle1;refine bA 7 [] ?_;refine fU ?_;exact ⟨U,U⟩
theorem tu (G:A3) (b:Nat) (cs:Array Value) (ty:TypeId) (zz:Nat×Nat) (p:PV) (ac ao a:Option Addr) (cc co c:Nat) (l:List R2) (hU:G b=some (.cells cs ty zz)) (h2:cs[2]?=some (.slice a l.length c)) (hc:Arr G ac p.code) (ho:Arr G ao p.outs) (ha:Arr G a l) (hac:l.length≤c) (hl:l.length≤1048576) (hcl:p.code.length≤16384) (hol:p.outs.length≤1099511627776) (hRL:yO l) (hR:uY p=true) :
 Does Tryz.prog 171 [.agg (J6 p ac cc ao co),.pointer (some ⟨b,0,none⟩)] G [] (fun v G' Ho=>v=.tuple #[.bool (decide (wF p l)),.int .i64 0]∧Ho=[]):=by
 refine D0 Tryz.func171 Tryz.ntmps171 fun w=>?_;refine aL 2 [] ?_;refine fK 0 fun b1=>?_;refine aN 8 [0] ?_;refine aT (cS T.one22 U ((by rw [cF]:G.cell b (0+2)=G.cell b 2).trans (Qt hU h2))) ?_;refine cQ 1 U (ju _ _ _ _ _ _ _ _ _ uK uK uJ uJ uK hac hl hRL hR) fun v1 G1 Ho1 hle1 hp=>?_;obtain ⟨rfl,rfl⟩:=hp;replace hc:=hc.up hle1;replace ho:=ho.up hle1;replace ha:=ha.up hle1;refine bA 7 [] ?_;refine fU ?_;exact ⟨U,U⟩
theorem tw (G:A3) (k1 k2:Int) (pl:List R2) (pa:Option Addr) (pc:Nat) (xp yp zp:PV) (xac xao yac yao zac zao:Option Addr) (xcc xoc ycc yoc zcc zoc:Nat) :
 Does Tryz.prog 123 [.agg #[.int .i64 k1,.int .i64 k2,.slice pa pl.length pc,.int .i64 xp.ins,.int .i64 xp.regs,.slice xac xp.code.length xcc,.slice xao xp.outs.length xoc,.int .i64 yp.ins,.int .i64 yp.regs,.slice yac yp.code.length ycc,.slice yao yp.outs.length yoc,.int .i64 zp.ins,.int .i64 zp.regs,.slice zac zp.code.length zcc,.slice zao zp.outs.length zoc]] G [] (fun v G' Ho=>∃ (s:Option Addr) (b:Nat),v=.slice s ([⟨⟨xp.ins,xp.regs,xac,xp.code.length,xcc,xao,xp.outs.length,xoc⟩,168,b⟩,⟨⟨yp.ins,yp.regs,yac,yp.code.length,ycc,yao,yp.outs.length,yoc⟩,170,b⟩,⟨⟨zp.ins,zp.regs,zac,zp.code.length,zcc,zao,zp.outs.length,zoc⟩,171,b⟩]:List PF).length 3∧Arr G' s ([⟨⟨xp.ins,xp.regs,xac,xp.code.length,xcc,xao,xp.outs.length,xoc⟩,168,b⟩,⟨⟨yp.ins,yp.regs,yac,yp.code.length,ycc,yao,yp.outs.length,yoc⟩,170,b⟩,⟨⟨zp.ins,zp.regs,zac,zp.code.length,zcc,zao,zp.outs.length,zoc⟩,171,b⟩]:List PF)∧G' b=some (.cells #[.int .i64 k1,.int .i64 k2,.slice pa pl.length pc,.int .i64 xp.ins,.int .i64 xp.regs,.slice xac xp.code.length xcc,.slice xao xp.outs.length xoc,.int .i64 yp.ins,.int .i64 yp.regs,.slice yac yp.code.length ycc,.slice yao yp.outs.length yoc,.int .i64 zp.ins,.int .i64 zp.regs,.slice zac zp.code.length zcc,.slice zao zp.outs.length zoc] 28 (0,0))∧Ho=[]):=by
 refine D0 Tryz.func123 Tryz.ntmps123 fun w=>?_;refine aL 2 [] ?_;refine fK 0 fun b1=>?_;refine aN 6 [] ?_;refine aT (iF 0 T.agg26 U U U U) ?_;refine aT (jS U U) ?_;refine aT (fY (cs:=[_,_,_,_,_]) T.st203 U U U) ?_;refine aF 1 [] ?_;refine aT (iF 0 T.agg26 U U U U) ?_;refine aT (jS U U) ?_;refine aT (fY (cs:=[_,_,_,_,_]) T.st203 U U U) ?_;refine aF 1 [] ?_;refine aT (iF 0 T.agg26 U U U U) ?_;refine aT (jS U U) ?_;refine aT (fY (cs:=[_,_,_,_,_]) T.st203 U U U) ?_;refine eV (α:=PF) 1 [⟨⟨xp.ins,xp.regs,xac,xp.code.length,xcc,xao,xp.outs.length,xoc⟩,168,b1⟩,⟨⟨yp.ins,yp.regs,yac,yp.code.length,ycc,yao,yp.outs.length,yoc⟩,170,b1⟩,⟨⟨zp.ins,zp.regs,zac,zp.code.length,zcc,zao,zp.outs.length,zoc⟩,171,b1⟩] U T.sl199 T.el203 U U U U U fun b2=>?_;refine bA 4 [] ?_;refine sX 0 U fun G1 hle1 hb1=>?_;have hoF:A5 (some ⟨b2,0,none⟩) 3 ([⟨⟨xp.ins,xp.regs,xac,xp.code.length,xcc,xao,xp.outs.length,xoc⟩,168,b1⟩,⟨⟨yp.ins,yp.regs,yac,yp.code.length,ycc,yao,yp.outs.length,yoc⟩,170,b1⟩,⟨⟨zp.ins,zp.regs,zac,zp.code.length,zcc,zao,zp.outs.length,zoc⟩,171,b1⟩]:List PF) []:=kW Oe;refine dX (α:=PF) 1 U hoF fun G2 hle2 hA2=>?_;refine cZ ?_;exact ⟨_,b1,U,hA2,hle2 _ _ hb1,U⟩
end
section
attribute [local irreducible] xH wF vR uY yO
theorem c69 (G:A3) (k1 k2:Int) (pl:List R2) (pa:Option Addr) (pc:Nat) (xp yp zp:PV) (xac xao yac yao zac zao:Option Addr) (xcc xoc ycc yoc zcc zoc:Nat) (hpa:Arr G pa pl) (hpc:pl.length≤pc) (hpl:pl.length≤1048576) (hxc:Arr G xac xp.code) (hxo:Arr G xao xp.outs) (hx1:xp.code.length≤16384) (hx2:xp.outs.length≤1048576) (hyc:Arr G yac yp.code) (hyo:Arr G yao yp.outs) (hy1:yp.code.length≤16384) (hy2:yp.outs.length≤1048576) (hzc:Arr G zac zp.code) (hzo:Arr G zao zp.outs) (hz1:zp.code.length≤16384) (hz2:zp.outs.length≤1048576) :
 Does Tryz.prog 69 [.agg #[.int .i64 k1,.int .i64 k2,.slice pa pl.length pc,.int .i64 xp.ins,.int .i64 xp.regs,.slice xac xp.code.length xcc,.slice xao xp.outs.length xoc,.int .i64 yp.ins,.int .i64 yp.regs,.slice yac yp.code.length ycc,.slice yao yp.outs.length yoc,.int .i64 zp.ins,.int .i64 zp.regs,.slice zac zp.code.length zcc,.slice zao zp.outs.length zoc]] G [] (fun v G' Ho=>v=.tuple #[.int .i64 (vN k1 k2 pl xp yp zp).1,.int .i64 (vN k1 k2 pl xp yp zp).2]∧Ho=[]):=by
 refine D0 Tryz.func69 Tryz.ntmps69 fun w=>?_;by_cases hW:vR k1 k2 pl=0
 case neg =>
  refine aL 2 [] ?_;refine fK 0 fun b1=>?_;refine aN 12 [0,0,0] ?_;refine cQ 1 U (jx _ _ _ _ _ _ uK uJ uJ) fun v1 G1 Ho1 hle1 hp=>?_;obtain ⟨pv1,rfl,rfl⟩:=hp;replace hpa:=hpa.up hle1;replace hxc:=hxc.up hle1;replace hxo:=hxo.up hle1;replace hyc:=hyc.up hle1;replace hyo:=hyo.up hle1;replace hzc:=hzc.up hle1;replace hzo:=hzo.up hle1;refine bA 24 [1] ?_;refine fU ?_;exact ⟨by rw [cj hW],U⟩
 obtain ⟨hP1,hP2,hL,hRL⟩:=Al hW;obtain ⟨n1,rfl⟩:∃ n:Nat,k1=(n:Int):=⟨k1.toNat,by have:=hP1.1;omega⟩
 obtain ⟨n2,rfl⟩:∃ n:Nat,k2=(n:Int):=⟨k2.toNat,by have:=hP2.1;omega⟩
 have hn1:1≤n1∧n1≤8:=by have:=hP1.1;have:=hP1.2;omega
 have hn2:1≤n2∧n2≤8:=by have:=hP2.1;have:=hP2.2;omega
 refine aL 2 [] ?_;refine fK 0 fun b1=>?_;refine aN 12 [0,0,0] ?_;refine cQ 1 U (jx _ _ _ _ _ _ uK uJ uJ) fun v1 G1 Ho1 hle1 hp=>?_;obtain ⟨pv1,rfl,rfl⟩:=hp;replace hpa:=hpa.up hle1;replace hxc:=hxc.up hle1;replace hxo:=hxo.up hle1;replace hyc:=hyc.up hle1;replace hyo:=hyo.up hle1;replace hzc:=hzc.up hle1;replace hzo:=hzo.up hle1;refine aN 21 [0,0] ?_;refine cQ 1 U (tw _ _ _ _ _ _ xp yp zp _ _ _ _ _ _ _ _ _ _ _ _) fun v2 G2 Ho2 hle2 hp=>?_;obtain ⟨sp2,bp2,rfl,hpA2,hpB2,rfl⟩:=hp;replace hpa:=hpa.up hle2;replace hxc:=hxc.up hle2;replace hxo:=hxo.up hle2;replace hyc:=hyc.up hle2;replace hyo:=hyo.up hle2;replace hzc:=hzc.up hle2;replace hzo:=hzo.up hle2;refine bY 5 [] ?_;refine Wc.lg (ι:=Nat×A3) (fun (i,Gx)=>([(27,.int .i64 (i:Int)),(26,.int .i64 3),(25,.slice sp2 (List.length [PF.mk (PH.mk xp.ins xp.regs xac xp.code.length xcc xao xp.outs.length xoc) 168 bp2,PF.mk (PH.mk yp.ins yp.regs yac yp.code.length ycc yao yp.outs.length yoc) 170 bp2,PF.mk (PH.mk zp.ins zp.regs zac zp.code.length zcc zao zp.outs.length zoc) 171 bp2]) 3)],[(0,some b1,.cells #[.int .i64 (↑n1:Int),.int .i64 (↑n2:Int),.slice pa (List.length pl) pc,.int .i64 xp.ins,.int .i64 xp.regs,.slice xac xp.code.length xcc,.slice xao xp.outs.length xoc,.int .i64 yp.ins,.int .i64 yp.regs,.slice yac yp.code.length ycc,.slice yao yp.outs.length yoc,.int .i64 zp.ins,.int .i64 zp.regs,.slice zac zp.code.length zcc,.slice zao zp.outs.length zoc] 28)])) (fun (i,Gx)=>Gx) (fun (i,Gx)=>i≤3∧G2.le Gx∧(0<i→uY xp=true∧xH xp (n1:Int) pl)∧(1<i→uY yp=true∧xH yp (n2:Int) pl)∧(2<i→uY zp=true∧wF zp pl)) (fun (i,Gx)=>3 - i) ((0,G2)) (⟨aS _,cC _,fun h=>absurd h uJ,fun h=>absurd h uJ,fun h=>absurd h uJ⟩) fun ⟨i,Gx⟩=>fun hk=>?_;obtain ⟨hi0,hgx,hx9,hy9,hz9⟩:=hk;have hB:=hgx _ _ hpB2;replace hpA2:=hpA2.up hgx;replace hpa:=hpa.up hgx;replace hxc:=hxc.up hgx;replace hxo:=hxo.up hgx;replace hyc:=hyc.up hgx;replace hyo:=hyo.up hgx;replace hzc:=hzc.up hgx;replace hzo:=hzo.up hgx;have hi4:i=0∨i=1∨i=2∨i=3:=uJ;rcases hi4 with rfl | rfl | rfl | rfl
 · refine aL 14 [1] ?_;refine aT (jH (α:=PF) T.sl199 U U hpA2 (show 0≤((0:Nat):Int)∧((0:Nat):Int)<((3:Nat):Int) by omega)) ?_;refine aT (gB T.agg203 U (jV hpA2 (show 0≤((0:Nat):Int)∧((0:Nat):Int)<((3:Nat):Int) by omega)) U) ?_;refine jB 31 U (show _=Value.agg #[.int .i64 xp.ins,.int .i64 xp.regs,.slice xac xp.code.length xcc,.slice xao xp.outs.length xoc,.func (.func 168) #[] #[.pointer (some ⟨bp2,0,none⟩)]] from U) ?_;by_cases hr:uY xp=true
   · skip;refine bB 1 U T.zero203 fun b2=>?_;refine aN 7 [1] ?_;refine aT (iF 1 T.agg26 U U U U) ?_;refine dC U (Mt _ xp _ _ _ _ uK uK uJ uJ hr) ?_;refine aN 22 [0,1] ?_;refine aT (iF 1 T.agg26 U U U U) ?_;refine fM (fst:=[]) (cap:=[.pointer (some ⟨bp2,0,none⟩)]) 2 U T.fn168 U U (tn _ n1 bp2 _ _ _ xp xac xao pa xcc xoc pc pl hB U U hxc hxo hpa hpc hpl hx1 uJ hRL hr uJ uJ) (vA I8) fun v9 G9 Ho9 hle9 hp=>?_;obtain ⟨rfl,rfl⟩:=hp;refine aN 12 [] ?_;refine pR 53 ?_;refine aF 3 [] ?_;refine aT (gF U) ?_;refine bY 3 [] ?_;refine hZ (fun hc1=>?_) fun hc1=>?_;refine cJ 14 [] ?_;rotate_left;refine cJ 7 [] ?_;rotate_left
     · refine fU ?_;exact ⟨by rw [XQ hW hr uK];rfl,U⟩
     refine dH 27 U (show _=Value.int .i64 ((1:Nat):Int) from U) ?_;refine eH ((1,G9)) ?_ ?_
     · exact ⟨by omega,bH hgx hle9,fun _=>⟨hr,jY.1 uK⟩,fun h=>absurd h uJ,fun h=>absurd h uJ⟩
     show 3 - 1<3 - 0;omega
   skip;refine bB 1 U T.zero203 fun b2=>?_;refine aN 7 [1] ?_;refine aT (iF 1 T.agg26 U U U U) ?_;refine dC U (SJ _ xp _ _ _ _ uK uK uJ uJ hr) ?_;refine bA 31 [1] ?_;refine fU ?_;exact ⟨by rw [XP hW uK];rfl,U⟩
 · refine aL 14 [1] ?_;refine aT (jH (α:=PF) T.sl199 U U hpA2 (show 0≤((1:Nat):Int)∧((1:Nat):Int)<((3:Nat):Int) by omega)) ?_;refine aT (gB T.agg203 U (jV hpA2 (show 0≤((1:Nat):Int)∧((1:Nat):Int)<((3:Nat):Int) by omega)) U) ?_;refine jB 31 U (show _=Value.agg #[.int .i64 yp.ins,.int .i64 yp.regs,.slice yac yp.code.length ycc,.slice yao yp.outs.length yoc,.func (.func 170) #[] #[.pointer (some ⟨bp2,0,none⟩)]] from U) ?_;by_cases hr:uY yp=true
   · skip;refine bB 1 U T.zero203 fun b2=>?_;refine aN 7 [1] ?_;refine aT (iF 1 T.agg26 U U U U) ?_;refine dC U (Mt _ yp _ _ _ _ uK uK uJ uJ hr) ?_;refine aN 22 [0,1] ?_;refine aT (iF 1 T.agg26 U U U U) ?_;refine fM (fst:=[]) (cap:=[.pointer (some ⟨bp2,0,none⟩)]) 2 U T.fn170 U U (tr _ n2 bp2 _ _ _ yp yac yao pa ycc yoc pc pl hB U U hyc hyo hpa hpc hpl hy1 uJ hRL hr uJ uJ) (vA I8) fun v9 G9 Ho9 hle9 hp=>?_;obtain ⟨rfl,rfl⟩:=hp;refine aN 12 [] ?_;refine pR 53 ?_;refine aF 3 [] ?_;refine aT (gF U) ?_;refine bY 3 [] ?_;refine hZ (fun hc1=>?_) fun hc1=>?_;refine cJ 14 [] ?_;rotate_left;refine cJ 7 [] ?_;rotate_left
     · refine fU ?_;exact ⟨by rw [XS hW (hx9 uJ).1 (hx9 uJ).2 hr uK];rfl,U⟩
     refine dH 27 U (show _=Value.int .i64 ((2:Nat):Int) from U) ?_;refine eH ((2,G9)) ?_ ?_
     · exact ⟨by omega,bH hgx hle9,fun _=>hx9 uJ,fun _=>⟨hr,jY.1 uK⟩,fun h=>absurd h uJ⟩
     show 3 - 2<3 - 1;omega
   skip;refine bB 1 U T.zero203 fun b2=>?_;refine aN 7 [1] ?_;refine aT (iF 1 T.agg26 U U U U) ?_;refine dC U (SJ _ yp _ _ _ _ uK uK uJ uJ hr) ?_;refine bA 31 [1] ?_;refine fU ?_;exact ⟨by rw [XR hW (hx9 uJ).1 (hx9 uJ).2 uK];rfl,U⟩
 · refine aL 14 [1] ?_;refine aT (jH (α:=PF) T.sl199 U U hpA2 (show 0≤((2:Nat):Int)∧((2:Nat):Int)<((3:Nat):Int) by omega)) ?_;refine aT (gB T.agg203 U (jV hpA2 (show 0≤((2:Nat):Int)∧((2:Nat):Int)<((3:Nat):Int) by omega)) U) ?_;refine jB 31 U (show _=Value.agg #[.int .i64 zp.ins,.int .i64 zp.regs,.slice zac zp.code.length zcc,.slice zao zp.outs.length zoc,.func (.func 171) #[] #[.pointer (some ⟨bp2,0,none⟩)]] from U) ?_;by_cases hr:uY zp=true
   · skip;refine bB 1 U T.zero203 fun b2=>?_;refine aN 7 [1] ?_;refine aT (iF 1 T.agg26 U U U U) ?_;refine dC U (Mt _ zp _ _ _ _ uK uK uJ uJ hr) ?_;refine aN 22 [0,1] ?_;refine aT (iF 1 T.agg26 U U U U) ?_;refine fM (fst:=[]) (cap:=[.pointer (some ⟨bp2,0,none⟩)]) 2 U T.fn171 U U (tu _ bp2 _ _ _ zp zac zao pa zcc zoc pc pl hB U hzc hzo hpa hpc hpl hz1 uJ hRL hr) (vA I8) fun v9 G9 Ho9 hle9 hp=>?_;obtain ⟨rfl,rfl⟩:=hp;refine aN 12 [] ?_;refine pR 53 ?_;refine aF 3 [] ?_;refine aT (gF U) ?_;refine bY 3 [] ?_;refine hZ (fun hc1=>?_) fun hc1=>?_;refine cJ 14 [] ?_;rotate_left;refine cJ 7 [] ?_;rotate_left
     · refine fU ?_;exact ⟨by rw [XU hW (hx9 uJ).1 (hx9 uJ).2 (hy9 uJ).1 (hy9 uJ).2 hr uK];rfl,U⟩
     refine dH 27 U (show _=Value.int .i64 ((3:Nat):Int) from U) ?_;refine eH ((3,G9)) ?_ ?_
     · exact ⟨by omega,bH hgx hle9,fun _=>hx9 uJ,fun _=>hy9 uJ,fun _=>⟨hr,jY.1 uK⟩⟩
     show 3 - 3<3 - 2;omega
   skip;refine bB 1 U T.zero203 fun b2=>?_;refine aN 7 [1] ?_;refine aT (iF 1 T.agg26 U U U U) ?_;refine dC U (SJ _ zp _ _ _ _ uK uK uJ uJ hr) ?_;refine bA 31 [1] ?_;refine fU ?_;exact ⟨by rw [XT hW (hx9 uJ).1 (hx9 uJ).2 (hy9 uJ).1 (hy9 uJ).2 uK];rfl,U⟩
 refine cJ 19 [0] ?_;refine fU ?_;exact ⟨by rw [XV hW (hx9 uJ).1 (hx9 uJ).2 (hy9 uJ).1 (hy9 uJ).2 (hz9 uJ).1 (hz9 uJ).2],U⟩
end
structure UH where
 pa:Option Addr
 pc:Nat
 xa:Option Addr
 xc:Nat
 xo:Option Addr
 xd:Nat
 ya:Option Addr
 yc:Nat
 yo:Option Addr
 yd:Nat
 za:Option Addr
 zc:Nat
 zo:Option Addr
 zd:Nat
def uC (u:UV) (h:UH):List Value:=[.int .i64 u.k1,.int .i64 u.k2,.slice h.pa u.pl.length h.pc,.int .i64 u.x.ins,.int .i64 u.x.regs,.slice h.xa u.x.code.length h.xc,.slice h.xo u.x.outs.length h.xd,.int .i64 u.y.ins,.int .i64 u.y.regs,.slice h.ya u.y.code.length h.yc,.slice h.yo u.y.outs.length h.yd,.int .i64 u.z.ins,.int .i64 u.z.regs,.slice h.za u.z.code.length h.zc,.slice h.zo u.z.outs.length h.zd]
structure I0 (G:A3) (u:UV) (h:UH):Prop where
 cap:u.pl.length≤h.pc
 pl:Arr G h.pa u.pl
 xc:Arr G h.xa u.x.code
 xo:Arr G h.xo u.x.outs
 yc:Arr G h.ya u.y.code
 yo:Arr G h.yo u.y.outs
 zc:Arr G h.za u.z.code
 zo:Arr G h.zo u.z.outs
theorem I0.up {G G':A3} {u:UV} {h:UH} (i:I0 G u h) (hl:G.le G'):I0 G' u h:=⟨i.cap,i.pl.up hl,i.xc.up hl,i.xo.up hl,i.yc.up hl,i.yo.up hl,i.zc.up hl,i.zo.up hl⟩
structure I3 (u:UV):Prop where
 pl:u.pl.length≤1048576
 x1:u.x.code.length≤16384
 x2:u.x.outs.length≤1048576
 y1:u.y.code.length≤16384
 y2:u.y.outs.length≤1048576
 z1:u.z.code.length≤16384
 z2:u.z.outs.length≤1048576
structure UJ where
 p:List Value
 x:List Value
 a:List Value
 y:List Value
 b:List Value
 z:List Value
 c:List Value
def SK (t:Nat) (u:UV) (h:UH) (j:UJ):Hp:=[(t,h.pa.map (·.block),Row 51 u.pl j.p),(t+1,h.xa.map (·.block),Row 211 u.x.code j.x),(t+2,h.xo.map (·.block),Row 3 u.x.outs j.a),(t+3,h.ya.map (·.block),Row 211 u.y.code j.y),(t+4,h.yo.map (·.block),Row 3 u.y.outs j.b),(t+5,h.za.map (·.block),Row 211 u.z.code j.z),(t+6,h.zo.map (·.block),Row 3 u.z.outs j.c)]
structure I5 (u:UV) (h:UH) (j:UJ):Prop where
 pl:A5 h.pa h.pc u.pl j.p
 xc:A5 h.xa h.xc u.x.code j.x
 xo:A5 h.xo h.xd u.x.outs j.a
 yc:A5 h.ya h.yc u.y.code j.y
 yo:A5 h.yo h.yd u.y.outs j.b
 zc:A5 h.za h.zc u.z.code j.z
 zo:A5 h.zo h.zd u.z.outs j.c
theorem I5.lent {u:UV} {h:UH} {j:UJ} {H:Hp} {G:A3} (o:I5 u h j) (hb:Xg H G) {t:Nat} (h0:H.get t=some (h.pa.map (·.block),Row 51 u.pl j.p)) (h1:H.get (t+1)=some (h.xa.map (·.block),Row 211 u.x.code j.x)) (h2:H.get (t+2)=some (h.xo.map (·.block),Row 3 u.x.outs j.a)) (h3:H.get (t+3)=some (h.ya.map (·.block),Row 211 u.y.code j.y)) (h4:H.get (t+4)=some (h.yo.map (·.block),Row 3 u.y.outs j.b)) (h5:H.get (t+5)=some (h.za.map (·.block),Row 211 u.z.code j.z)) (h6:H.get (t+6)=some (h.zo.map (·.block),Row 3 u.z.outs j.c)):I0 G u h:=
 ⟨o.pl.le,qV hb _ h0 o.pl,qV hb _ h1 o.xc,qV hb _ h2 o.xo,qV hb _ h3 o.yc,qV hb _ h4 o.yo,qV hb _ h5 o.zc,qV hb _ h6 o.zo⟩
theorem tz (G:A3) (u:UV) (h:UH) (i:I0 G u h) (m:I3 u) :
 Does Tryz.prog 69 [.agg (uC u h).toArray] G [] (fun v G' Ho=>v=.tuple #[.int .i64 (vN u.k1 u.k2 u.pl u.x u.y u.z).1,.int .i64 (vN u.k1 u.k2 u.pl u.x u.y u.z).2]∧Ho=[]):=
 c69 G u.k1 u.k2 u.pl h.pa h.pc u.x u.y u.z h.xa h.xo h.ya h.yo h.za h.zo h.xc h.xd h.yc h.yd h.zc h.zd i.pl i.cap m.pl i.xc i.xo m.x1 m.x2 i.yc i.yo m.y1 m.y2 i.zc i.zo m.z1 m.z2
end Go.Proofs.YtngphgeghfdjbaaGreatDoor
namespace Go.Sl.Ez
open Go Go.Sl
section
variable {P:Program} {w:World}
theorem run_mark {t e:TypeId} {b o n c:Nat} {cs:Array Value} {ty:TypeId} (ht:P.underlying t=some (.slice e)) (he:P.underlying e=some (.int .u8)) (hb:w.heap[b]?=some (.cells cs ty (0,0))) :
 (convert t t (.slice (some ⟨b,o,none⟩) n c)).run P w=.ok (.slice (some ⟨b,o,none⟩) n c) (w.freeze ⟨b,cs.size,none⟩ 1):=by
 have hsh:w.shape? b=some (ty,cs.size):=by unfold World.shape?;rw [hb]
 simp [convert,aQ ht,aQ he,markStringish,hsh]
theorem freeze_upd {b k:Nat}:D2 (·=b) w (w.freeze ⟨b,k,none⟩ 1):=⟨U,U,U,by simp [World.freeze],fun j _ hj=>by
 have hj':b≠j:=fun e=>hj e.symm;simp [World.freeze,kT,hj']⟩
theorem freeze_at {b k:Nat} {cs:Array Value} {ty:TypeId} (hb:w.heap[b]?=some (.cells cs ty (0,0))):(w.freeze ⟨b,k,none⟩ 1).heap[b]?=some (.cells cs ty (k,k+1)):=by
 simp [World.freeze,kT,hb]
end
section
variable {P:Program} {e:B0} {H:Hp} {G:A3} {ty T:TypeId}
theorem Qy.indexV {x i:Operand} {n E:Nat} {k:IntKind} {m:Int} {vs:List Value} {v:Value} (hu:P.underlying T=some (.array n E)) (h1:xB P E=true) (hs:(P.info? E).map (·.size)=some 1) (hx:e.ev x=some (.agg vs.toArray)) (hi:e.ev i=some (.int k m))
 (hb:0≤m∧m<n) (hv:vs[m.toNat]?=some v):Qy P (.index T x i) ty e H G v:=fun a w _ _ _ _ hh=>by
 simp [execOp,Instr.index,hh.eval hx,hh.eval hi,asIntOf,aQ hu,hb,run_sizeOf w hs,part,xS w h1,hv]
end
end Go.Sl.Ez
namespace Go.Proofs.YtngphgeghfdjbaaGreatDoor
open Go Go.Sl
theorem SL {n k:Nat} (hk:1≤k):FL n k=if n / k*k<n then n / k+1 else n / k:=by
 unfold FL;have h1:=lY n k;have h2:=iX n hk;have h3:n / k*k=k*(n / k):=eG _ _;split
 · rw [show n+k - 1=(n % k - 1)+k*(n / k+1) by rw [pM,jT];omega,Nat.add_mul_div_left _ _ hk,Nat.div_eq_of_lt uJ];omega
 rw [show n+k - 1=(k - 1)+k*(n / k) by omega,Nat.add_mul_div_left _ _ hk,Nat.div_eq_of_lt uJ];omega
theorem kd (a b:Nat):(if (a:Int)<(b:Int) then (b:Int) else (a:Int))=((max a b:Nat):Int):=by split <;> omega
theorem ua {n1 n2 k1 k2:Nat} {th:Int}:((if th<1 then 1 else th)<(if (n2:Int)<(n1:Int) then (n2:Int) else (n1:Int))∧(vZ n1 n2 k1 k2:Int)<if (n1:Int)<(n2:Int) then (n2:Int) else (n1:Int))↔zA n1 n2 k1 k2 th:=by
 unfold zA;split <;> split <;> split <;> constructor <;> intro h <;> omega
theorem ub {n1 n2 k1 k2:Nat} {th:Int}:(((if th<1 then 1 else th)<(n1:Int)∧(if th<1 then 1 else th)<(n2:Int))∧(vZ n1 n2 k1 k2:Int)<if (n1:Int)<(n2:Int) then (n2:Int) else (n1:Int))↔zA n1 n2 k1 k2 th:=by
 unfold zA;split <;> split <;> constructor <;> intro h <;> omega
theorem ke (G:A3) (n k:Nat) (hn:n≤1048576) (hk:1≤k∧k≤8) :
 Does Tryz.prog 147 [.int .i64 (n:Int),.int .i64 (k:Int)] G [] (fun v G' Ho=>v=.int .i64 (FL n k:Int)∧G'=G∧Ho=[]):=by
 refine bU Tryz.func147 U Tryz.ntmps147 U fun w=>?_;refine aL 12 [] ?_;refine aU U (nB U U uJ) ?_;refine bA 4 [] ?_;refine cZ ?_;refine ⟨?_,U,U⟩;rw [show ((n:Int)+(k:Int) - 1)=((n+k - 1:Nat):Int) by omega,←Int.natCast_ediv];rfl
theorem uc (G:A3) (n1 n2 k1 k2:Nat) (h1:n1≤4096) (h2:n2≤4096) (h3:1≤k1∧k1≤8) (h4:1≤k2∧k2≤8) :
 Does Tryz.prog 146 [.int .i64 (n1:Int),.int .i64 (n2:Int),.int .i64 (k1:Int),.int .i64 (k2:Int)] G [] (fun v G' Ho=>v=.bool (decide (1=1))∧G'=G∧Ho=[]):=by
 refine bU Tryz.func146 U Tryz.ntmps146 U fun w=>?_;refine aL 10 [] ?_;refine aU U (sU (cs:=[_,_]) T.ar279 U U U) ?_;refine bY 4 [] ?_;refine Ip (mA ?_);refine aL 13 [1] ?_;refine aU U (Ez.Qy.indexV (n:=2) (E:=3) uO uO uO U U uR U) ?_;refine aN 8 [] ?_;refine pJ 21 U vG ?_;refine bA 15 [0] ?_;refine dH 16 U (show _=Value.int .i64 (1:Int) from U) ?_;refine qW (mA ?_);refine aL 13 [1] ?_;refine aU U (Ez.Qy.indexV (n:=2) (E:=3) uO uO uO U U uR U) ?_;refine aN 8 [] ?_;refine pJ 21 U vG ?_;refine bA 15 [0] ?_;refine dH 16 U (show _=Value.int .i64 (2:Int) from U) ?_;refine qW (mA ?_);refine aL 17 [0] ?_;refine aU U (sU (cs:=[_,_]) T.ar279 U U U) ?_;refine bY 4 [] ?_;refine Ip (mA ?_);refine aL 13 [1] ?_;refine aU U (Ez.Qy.indexV (n:=2) (E:=3) uO uO uO U U uR U) ?_;refine aN 8 [] ?_;refine pJ 34 U vG ?_;refine bA 15 [0] ?_;refine dH 29 U (show _=Value.int .i64 (1:Int) from U) ?_;refine qW (mA ?_);refine aL 13 [1] ?_;refine aU U (Ez.Qy.indexV (n:=2) (E:=3) uO uO uO U U uR U) ?_;refine aN 8 [] ?_;refine pJ 34 U vG ?_;refine bA 15 [0] ?_;refine dH 29 U (show _=Value.int .i64 (2:Int) from U) ?_;refine qW (mA ?_);refine cJ 18 [0] ?_;refine cZ ?_;exact ⟨U,U,U⟩
theorem c92 (G:A3) (n1 n2 k1 k2:Nat) (h1:n1≤4096) (h2:n2≤4096) (h3:1≤k1∧k1≤8) (h4:1≤k2∧k2≤8) :
 Does Tryz.prog 92 [.int .i64 (n1:Int),.int .i64 (n2:Int),.int .i64 (k1:Int),.int .i64 (k2:Int)] G [] (fun v G' Ho=>v=.tuple #[.int .i64 (vZ n1 n2 k1 k2:Int),.int .i64 0]∧G'=G∧Ho=[]):=by
 refine bU Tryz.func92 U Tryz.ntmps92 U fun w=>?_;refine aL 13 [] ?_;refine dC U (uc _ _ _ _ _ uJ uJ uJ uJ) ?_;refine aU U (gF U) ?_;refine aN 9 [0] ?_;refine dC U (ke _ _ _ uJ uJ) ?_;refine aF 2 [] ?_;refine dC U (ke _ _ _ uJ uJ) ?_;refine aU U (tB U U) ?_;refine bA 5 [] ?_;refine fU ?_;exact ⟨by rw [kd];rfl,U,U⟩
theorem c40 (G:A3) (n1 n2 k1 k2:Nat) (th:Int) (h1:n1≤4096) (h2:n2≤4096) (h3:1≤k1∧k1≤8) (h4:1≤k2∧k2≤8) :
 Does Tryz.prog 40 [.int .i64 (n1:Int),.int .i64 (n2:Int),.int .i64 (k1:Int),.int .i64 (k2:Int),.int .i64 th] G [] (fun v G' Ho=>v=.tuple #[.bool (decide (zA n1 n2 k1 k2 th)),.int .i64 0]∧G'=G∧Ho=[]):=by
 refine bU Tryz.func40 U Tryz.ntmps40 U fun w=>?_;refine aL 12 [] ?_;refine dC U (c92 _ _ _ _ _ uJ uJ uJ uJ) ?_;refine aN 21 [0] ?_;refine aU U (Qy.min U U) ?_;refine aF 1 [] ?_;refine aU U (tB U U) ?_;refine aF 2 [] ?_;apply gE 6 31 37 U;intro hg1;refine aF 7 [] ?_;refine aU U (tB U U) ?_;refine aF 3 [] ?_;exact kR 6 0 U U U U U;intro hg1;refine aF 6 [] ?_;exact kR 6 0 U U U U U;refine bA 5 [] ?_;refine fU ?_;exact ⟨congrArg (fun b=>Value.tuple #[Value.bool b,.int .i64 0]) (gT.2 ua),U,U⟩
theorem c80 (G:A3) (u:UV) (h:UH) (b:Nat) (k1 k2 n1 n2:Nat) (th:Int) (hb:B7 G b (uC u h)) (e1:u.k1=(k1:Int)) (e2:u.k2=(k2:Int)) (h1:n1≤4096) (h2:n2≤4096) (h3:1≤k1∧k1≤8) (h4:1≤k2∧k2≤8) :
 Does Tryz.prog 80 [.pointer (some ⟨b,0,none⟩),.int .i64 (n1:Int),.int .i64 (n2:Int),.int .i64 th] G [] (fun v G' Ho=>v=.tuple #[.int .i64 (vZ n1 n2 k1 k2:Int),.bool (decide (zA n1 n2 k1 k2 th))]∧G'=G∧Ho=[]):=by
 have hb0:G.cell b 0=some (.int .i64 (k1:Int)):=by rw [←e1];exact hb.cell U
 have hb1:G.cell b 1=some (.int .i64 (k2:Int)):=by rw [←e2];exact hb.cell U
 refine bU Tryz.func80 U Tryz.ntmps80 U fun w=>?_;refine dN 7 [] ?_;refine gV [] [] T.mixed U ?_;refine bO 0 [] [] ?_;refine bO 1 [] [] ?_;refine bO 2 [] [] ?_;refine bO 3 [] [] ?_;refine bO 4 [] [] ?_;refine bO 5 [] [] ?_;refine eP 6 [] U (cS T.one3 U uK) ?_;refine bO 7 [] [] ?_;refine bO 8 [] [] ?_;refine bO 9 [] [] ?_;refine bO 10 [] [] ?_;refine eP 11 [] U (cS T.one3 U uK) ?_;refine bO 12 [] [] ?_;refine rB 13 I8 Cl uO U ?_;refine dC U (c40 _ _ _ _ _ _ uJ uJ uJ uJ) ?_;refine dG ?_;refine bO 14 [] [] ?_;refine bO 15 [] [] ?_;refine bO 16 [] [] ?_;refine bO 17 [] [] ?_;refine bO 18 [] [] ?_;refine mU uO I8 Cl ?_;refine rI 2 [] ?_;refine gV [] [] T.mixed U ?_;refine bO 0 [] [] ?_;refine bO 1 [] [] ?_;refine bO 2 [] [] ?_;refine bO 3 [] [] ?_;refine bO 4 [] [] ?_;refine bO 5 [] [] ?_;refine eP 6 [] U (cS T.one3 U uK) ?_;refine bO 7 [] [] ?_;refine bO 8 [] [] ?_;refine bO 9 [] [] ?_;refine bO 10 [] [] ?_;refine eP 11 [] U (cS T.one3 U uK) ?_;refine rB 12 I8 Cl uO U ?_;refine dC U (c92 _ _ _ _ _ uJ uJ uJ uJ) ?_;refine dG ?_;refine bO 13 [] [] ?_;refine bO 14 [] [] ?_;refine bO 15 [] [] ?_;refine bO 16 [] [] ?_;refine bO 17 [] [] ?_;refine mU uO I8 Cl ?_;refine iN 10 [] ?_;refine fU ?_;exact ⟨U,U,U⟩
theorem c86 (G:A3) (n k:Nat) (hn:n≤1048576) (hk:1≤k∧k≤8) :
 Does Tryz.prog 86 [.int .i64 (n:Int),.int .i64 (k:Int)] G [] (fun v G' Ho=>v=.int .i64 (FL n k:Int)∧G'=G∧Ho=[]):=by
 have hq:((n:Int) / (k:Int))=((n / k:Nat):Int):=(Int.natCast_ediv n k).symm;have hq0:0≤(n:Int) / (k:Int):=by rw [hq];exact kP _
 have hqb:n / k≤n:=Nat.div_le_self _ _;have hqm:n / k*k≤n:=Nat.div_mul_le_self _ _;have hN:(n:Int) / (k:Int)*(k:Int)=((n / k*k:Nat):Int):=by rw [hq,dS]
 have hI:0≤(n:Int) / (k:Int)*(k:Int)∧(n:Int) / (k:Int)*(k:Int)≤(n:Int):=by
  rw [hN];exact ⟨kP _,qB.2 hqm⟩
 refine bU Tryz.func86 U Tryz.ntmps86 U fun w=>?_;refine aL 9 [] ?_;refine aU U (nB U U uJ) ?_;refine aN 8 [] ?_;refine aU U (qZ U U uJ) ?_;refine bY 4 [] ?_;refine jF U (fun hc1=>?_) fun hc1=>?_;refine cJ 13 [] ?_;refine cZ ?_;rotate_left;refine cJ 9 [] ?_;refine cZ ?_;rotate_left
 · refine ⟨congrArg _ ?_,U,U⟩;rw [SL hk.1,aM (by omega)];omega
 refine ⟨congrArg _ ?_,U,U⟩;rw [SL hk.1,aE (by omega)];omega
theorem c34 (G:A3) (n1 n2 k1 k2:Nat) (h1:n1≤4096) (h2:n2≤4096) (h3:1≤k1∧k1≤8) (h4:1≤k2∧k2≤8) :
 Does Tryz.prog 34 [.int .i64 (n1:Int),.int .i64 (n2:Int),.int .i64 (k1:Int),.int .i64 (k2:Int)] G [] (fun v G' Ho=>v=.int .i64 (vZ n1 n2 k1 k2:Int)∧G'=G∧Ho=[]):=by
 refine bU Tryz.func34 U Tryz.ntmps34 U fun w=>?_;refine aL 9 [] ?_;refine dC U (c86 _ _ _ uJ uJ) ?_;refine aF 2 [] ?_;refine dC U (c86 _ _ _ uJ uJ) ?_;refine aU U (tB U U) ?_;refine bA 4 [] ?_;refine cZ ?_;exact ⟨by rw [kd];rfl,U,U⟩
theorem c30 (G:A3) (n1 n2 k1 k2:Nat) (th:Int) (h1:n1≤4096) (h2:n2≤4096) (h3:1≤k1∧k1≤8) (h4:1≤k2∧k2≤8) :
 Does Tryz.prog 30 [.int .i64 (n1:Int),.int .i64 (n2:Int),.int .i64 (k1:Int),.int .i64 (k2:Int),.int .i64 th] G [] (fun v G' Ho=>v=.bool (decide (zA n1 n2 k1 k2 th))∧G'=G∧Ho=[]):=by
 refine bU Tryz.func30 U Tryz.ntmps30 U fun w=>?_;refine aL 8 [] ?_;refine aU U (tB U U) ?_;refine aN 9 [] ?_;apply gE 4 17 21 U;intro hg1;refine aF 7 [] ?_;exact kR 4 0 U U U U U;intro hg1;refine aF 4 [] ?_;exact kR 4 0 U U U U U;refine aF 1 [] ?_;apply gE 10 22 32 U;intro hg1;refine aF 9 [] ?_;refine dC U (c34 _ _ _ _ _ uJ uJ uJ uJ) ?_;refine aF 5 [] ?_;refine aU U (tB U U) ?_;refine aF 3 [] ?_;exact kR 10 0 U U U U U;intro hg1;refine aF 10 [] ?_;exact kR 10 0 U U U U U;refine bA 4 [] ?_;refine cZ ?_;exact ⟨congrArg Value.bool (gT.2 ub),U,U⟩
theorem MO {z c:Int} (h0:c≠0):((z.natAbs:Int) % (c.natAbs:Int)=0)↔z % c=0:=by
 rw [←rA,←rA,Int.natCast_dvd_natCast,Int.natAbs_dvd_natAbs]
section
attribute [local irreducible] uM pb vJ uZ
theorem ud (G:A3) (x:IV) (z c:Int) (hx:B9 G x z) (h1:x.n≤268435456) (hc:-9223372036854775808≤c∧c≤9223372036854775807) (h0:c≠0) :
 Does Tryz.prog 263 [.agg (A2.enc x).toArray,.int .i64 c] G [] (fun v G' Ho=>∃ r:IV,v=.tuple #[.agg (A2.enc r).toArray,.int .i64 (if z % c=0 then 0 else 20)]∧(z % c=0→B9 G' r (z / c))∧Ho=[]):=by
 obtain ⟨n1,a,k1,ca⟩:=x;obtain ⟨la,hl,hlc,hA,hI⟩:=hx;simp only at hl hlc hA hI h1;subst hl;have da:=hI.digs;have ta:=hI.top;have va:=hI.abs;show Does Tryz.prog 263 [.agg #[.bool n1,.slice a la.length ca],.int .i64 c] G [] _;have hn3:(c.natAbs:Int)<pb 3:=by
  have e:pb 3=79228162514264337593543950336:=by unfold pb;decide
  omega
 refine bU Tryz.func263 U Tryz.ntmps263 U fun w=>?_;refine bP ?_;refine aZ U ?_;refine gU 0 U U U fun b1=>?_;refine bB 1 U T.zero89 fun b2=>?_;refine aU U (cG U) ?_;refine bT ?_;refine bE ?_;refine bP ?_;refine aZ U ?_;refine aU U (cT U) ?_;refine pF 2 U T.fn43 U (OC _ _ hc) (vA I8) fun v1 G1 Ho1 hle1 hp=>?_;obtain ⟨y,rfl,hY,rfl⟩:=hp;have hY3:=jG hY hn3;obtain ⟨n2,b,k2,cb⟩:=y;obtain ⟨lb,hl',hlc',hA',hI'⟩:=hY;simp only at hl' hlc' hA' hI' hY3;subst hl';have db:=hI'.digs;have tb:=hI'.top;have vb:=hI'.abs;have hB:0<uM lb:=uJ;replace hA:=hA.up hle1;refine jB 11 U (show _=Value.agg #[.bool n2,.slice b lb.length cb] from U) ?_;refine bB 2 U T.zero89 fun b3=>?_;refine oB 2 T.size89 U U U U U U ?_;refine bT ?_;refine bE ?_;refine bP ?_;refine aZ U ?_;refine aU U (iV T.fa89_1 U) ?_;refine aU U (oH 0 T.one87 U U U) ?_;refine aU U (iV T.fa89_1 U) ?_;refine aU U (oH 2 T.one87 U U U) ?_;refine pF 3 U T.fn158 U (il _ _ _ _ _ _ _ hA hA' da ta db uJ uJ hlc hlc' hB) (vA I8) fun v2 G2 Ho2 hle2 hp=>?_;obtain ⟨_,_,rfl,⟨qa,qm,rfl,hqa,hql,hqt,hqv,hqn⟩,⟨ra,rm,rfl,hra,hrl,hrt,hrv,hrn⟩,rfl⟩:=hp;have hr0:uM rm=0↔z % c=0:=by rw [hrv,va,vb];exact MO h0
 have hr1:uM rm=0↔rm.length=0:=by
  constructor
  · intro h;refine gC fun hne=>?_;have:=Fb hrl hrt (fun e=>hne (by rw [e];rfl));omega
  intro h;rw [bS h,vF]
 by_cases hz:z % c=0
 · have hlen:rm.length=0:=hr1.1 (hr0.2 hz);refine aU U (cT U) ?_;refine aU U (lL U U) ?_;refine aU U (lL U U) ?_;refine aU U (lL U U) ?_;refine aU U (cG U) ?_;refine aU U (cG U) ?_;refine aU U (cG U) ?_;refine bT ?_;refine bE ?_;refine bP ?_;refine lD ?_;refine bP ?_;refine aZ U ?_;refine aU U (cT U) ?_;refine aU U (Qy.neq U U) ?_;refine aU U (cG U) ?_;refine bT ?_;refine bE ?_;refine iE U vG ?_;refine bP ?_;refine aZ U ?_;refine aU U (cT U) ?_;refine aU U (pP T.sl87 U) ?_;refine aU U (Qy.gtr U U) ?_;refine aU U (cG U) ?_;refine bT ?_;refine bE ?_;refine iE U vG ?_;refine iU ?_;refine lW ?_;refine bE ?_;refine bP ?_;refine aZ U ?_;refine aU U (iV T.fa89_0 U) ?_;refine aU U (oH 0 T.one4 U U U) ?_;refine aU U (iV T.fa89_0 U) ?_;refine aU U (oH 2 T.one4 U U U) ?_;refine aU U (Ih T.u4 U U) ?_;refine aU U (cT U) ?_;refine rY U T.fn96 U (Mr _ _ _ _ _ uJ) ?_;refine oB 1 T.size89 U U U U U U ?_;refine aU U (cG U) ?_;refine bT ?_;refine bE ?_;refine kK ?_;refine iY [1] uR (jZ (.inr U) (Ho:=Hp.only _ []) U (.agg 0 U U T.agg89) (.tmp U) (aV _ _) ?_);have hm0:uM rm=0:=hr0.2 hz;have hv:uM la=uM qm*uM lb+uM rm:=by
    rw [hqv,hrv];have:=Int.ediv_mul_add_emod (uM la) (uM lb);omega
   have e:=AH hI.val hI'.val hv;rw [hm0,show (if n1=true then -(0:Int) else 0)=0 by split <;> rfl] at e;have hq:=(Xt h0 e (sM 0) uJ).1;refine ⟨⟨decide (n1≠n2) && decide (0<qm.length),qa,qm.length,qm.length⟩,by rw [aM hz];rfl,fun _=>⟨qm,U,aG _,hqa,⟨hql,hqt,fun e=>by subst e;simp,?_⟩⟩,rfl⟩;rw [←hq];by_cases hqn0:0<qm.length
   · rw [cX hqn0,nL]
   have:qm=[]:=bS uJ;subst this;rw [vF];simp
 have hlen:rm.length≠0:=fun h=>hz (hr0.1 (hr1.2 h));refine aU U (cT U) ?_;refine aU U (lL U U) ?_;refine aU U (lL U U) ?_;refine aU U (lL U U) ?_;refine aU U (cG U) ?_;refine aU U (cG U) ?_;refine aU U (cG U) ?_;refine bT ?_;refine bE ?_;refine bP ?_;refine lD ?_;refine bP ?_;refine aZ U ?_;refine aU U (cT U) ?_;refine aU U (Qy.neq U U) ?_;refine aU U (cG U) ?_;refine bT ?_;refine bE ?_;refine iE U vG ?_;refine bP ?_;refine aZ U ?_;refine aU U (cT U) ?_;refine aU U (pP T.sl87 U) ?_;refine aU U (Qy.gtr U U) ?_;refine aU U (cG U) ?_;refine bT ?_;refine bE ?_;refine pK U vG ?_;refine bP ?_;refine aZ U ?_;refine aU U (fY (cs:=[_,_]) T.st89 U U U) ?_;refine oB 1 T.size89 U U U U U U ?_;refine aU U (cG U) ?_;refine bT ?_;refine bE ?_;refine kK ?_;refine pE ?_;refine kQ ?_;refine iY [1] uR (jZ (.inr U) (Ho:=Hp.only _ []) U (.agg 0 U U T.agg89) (.tmp U) (aV _ _) ?_);exact ⟨⟨false,none,0,0⟩,by rw [aE hz];rfl,fun h=>absurd h hz,U⟩
end
def Ht (i:Sl.Instr) (a b:Int):Option Int:=
 if i.op=2 then some (-1*a) else if i.op=3 then some (a+1*b) else if i.op=4 then some (a+(-1)*b)
 else if i.op=5∨i.op=7 then some (cst i*a) else if i.op=6∨i.op=8 then (if a % cst i=0 then some (a / cst i) else none) else some a
abbrev MP (v:Value) (G:A3) (Ho:Hp) (z:Int):Prop:=∃ r:IV,v=.agg (A2.enc r).toArray∧B9 G r z∧Ho=[]
def F0 (G:A3) (h:Nat) (cap:List Value) (f:Int→Int→Int):Prop:=
 wJ Tryz.prog h∧∀ G',G.le G'→∀ (x y:IV) (zx zy:Int),B9 G' x zx→B9 G' y zy→x.n≤268435456→y.n≤268435456→
  Does Tryz.prog h ([]++[.agg (A2.enc x).toArray,.agg (A2.enc y).toArray]++cap) G' [] (fun v G'' Ho=>MP v G'' Ho (f zx zy))
def Qu (G:A3) (g:Nat) (cap:List Value) (f:Int→Int→Option Int):Prop:=
 wJ Tryz.prog g∧∀ G',G.le G'→∀ (x y:IV) (zx zy:Int),B9 G' x zx→B9 G' y zy→x.n≤268435456→y.n≤268435456→
  Does Tryz.prog g ([]++[.agg (A2.enc x).toArray,.agg (A2.enc y).toArray]++cap) G' [] (fun v G'' Ho=>∃ r:IV,v=.tuple #[.agg (A2.enc r).toArray,.bool (decide (f zx zy≠none))]∧(∀ z,f zx zy=some z→B9 G'' r z)∧Ho=[])
theorem F0.up {G G':A3} {g:Nat} {cap:List Value} {f:Int→Int→Int} (h:F0 G g cap f) (hl:G.le G'):F0 G' g cap f:=⟨h.1,fun G2 h2=>h.2 G2 (bH hl h2)⟩
section
attribute [local irreducible] uM pb vJ uZ
theorem ue (G:A3) (b h:Nat) (cap:List Value) (f:Int→Int→Int) (hh:F0 G h cap f) (hb:G b=some (.cells [.func (.func h) #[] cap.toArray].toArray 361)):Qu G 259 [.pointer (some ⟨b,0,none⟩)] (fun x y=>some (f x y)):=by
 refine ⟨T.fn259,fun G' hG x y zx zy hx hy h1 h2=>?_⟩;have hbc:=zX (hG _ _ hb) 0 U;show Does Tryz.prog 259 [.agg (A2.enc x).toArray,.agg (A2.enc y).toArray,.pointer (some ⟨b,0,none⟩)] G' [] _;refine bU Tryz.func259 U Tryz.ntmps259 U fun w=>?_;refine aL 2 [] ?_;refine gU 0 U U U fun b1=>?_;refine gU 1 U U U fun b2=>?_;refine bB 2 U T.zero89 fun b3=>?_;refine aN 5 [] ?_;refine aU U (cS T.one361 U uK) ?_;refine aF 2 [0,1] ?_;refine fM (fst:=[]) (cap:=cap) 20 U hh.1 U U (hh.2 G' hG x y zx zy hx hy h1 h2) (vA I8) fun v1 G1 Ho1 hle1 hp=>?_;obtain ⟨r1,rfl,hr1,rfl⟩:=hp;refine bA 5 [2] ?_;refine iY [2] uR (jZ (.inr U) (Ho:=Hp.only _ []) U (.agg 0 U U T.agg89) (.tmp U) (aV _ _) ?_);refine ⟨r1,U,fun z hz=>?_,U⟩;cases hz;exact hr1
theorem MQ (G:A3) (h:Nat) (cap:List Value) (f:Int→Int→Int) (hh:F0 G h cap f):Does Tryz.prog 258 [.func (.func h) #[] cap.toArray] G [] (fun v G' Ho=>∃ (g:Nat) (cp:List Value),v=.func (.func g) #[] cp.toArray∧Qu G' g cp (fun x y=>some (f x y))∧Ho=[]):=by
 refine bU Tryz.func258 U Tryz.ntmps258 U fun w=>?_;refine aL 2 [] ?_;refine gU 0 U U U fun b1=>?_;refine aN 5 [] ?_;refine aU U (jS U U) ?_;refine bA 4 [] ?_;refine sX 0 U fun G1 hg1 hb1=>?_;refine iY [] uR (cP (.inr U) (Ho:=Hp.only _ []) U (.tmp U) (aV _ _) ?_);exact ⟨259,_,U,ue G1 b1 h cap f (hh.up hg1) hb1,U⟩
theorem kf (G:A3):F0 G 42 [] (fun x y=>x+1*y):=⟨T.fn42,fun G' hG x y zx zy hx hy h1 h2=>by
 show Does Tryz.prog 42 [.agg (A2.enc x).toArray,.agg (A2.enc y).toArray] G' [] (fun v G'' Ho=>MP v G'' Ho (zx+1*zy));rw [eO];exact gf G' x y zx zy hx hy uJ uJ⟩
theorem ck (G:A3):F0 G 159 [] (fun x y=>x+(-1)*y):=⟨T.fn159,fun G' hG x y zx zy hx hy h1 h2=>by
 show Does Tryz.prog 159 [.agg (A2.enc x).toArray,.agg (A2.enc y).toArray] G' [] (fun v G'' Ho=>MP v G'' Ho (zx+(-1)*zy));rw [lK,eO,←Int.sub_eq_add_neg];exact aq G' x y zx zy hx hy uJ uJ⟩
theorem cl (G:A3):F0 G 260 [] (fun x y=>-1*x):=by
 refine ⟨T.fn260,fun G' hG x y zx zy hx hy h1 h2=>?_⟩;show Does Tryz.prog 260 [.agg (A2.enc x).toArray,.agg (A2.enc y).toArray] G' [] (fun v G'' Ho=>MP v G'' Ho (-1*zx));rw [lK,eO];refine bU Tryz.func260 U Tryz.ntmps260 U fun w=>?_;refine aL 2 [] ?_;refine gU 0 U U U fun b1=>?_;refine gU 1 U U U fun b2=>?_;refine bB 2 U T.zero89 fun b3=>?_;refine aN 5 [0] ?_;refine cQ 3 U (qg _ _ _ uK uJ) fun v1 G1 Ho1 hle1 hp=>?_;obtain ⟨r1,rfl,hr1,rfl,rfl⟩:=hp;refine bA 4 [2] ?_;refine iY [2] uR (cP (.inr U) (Ho:=Hp.only _ []) U (.agg 0 U U T.agg89) (aV _ _) ?_);exact ⟨_,U,hr1,U⟩
theorem cm (G:A3):F0 G 267 [] (fun x y=>x):=by
 refine ⟨T.fn267,fun G' hG x y zx zy hx hy h1 h2=>?_⟩;show Does Tryz.prog 267 [.agg (A2.enc x).toArray,.agg (A2.enc y).toArray] G' [] _;refine bU Tryz.func267 U Tryz.ntmps267 U fun w=>?_;refine aL 2 [] ?_;refine gU 0 U U U fun b1=>?_;refine gU 1 U U U fun b2=>?_;refine bB 2 U T.zero89 fun b3=>?_;refine bA 9 [0,2] ?_;refine iY [2] uR (cP (.inr U) (Ho:=Hp.only _ []) U (.agg 0 U U T.agg89) (aV _ _) ?_);exact ⟨_,U,hx,U⟩
theorem cq (G:A3) (b:Nat) (i:Sl.Instr) (hc:-9223372036854775808≤i.c∧i.c≤9223372036854775807) (hb:G b=some (.cells (A2.enc i).toArray 211)):F0 G 261 [.pointer (some ⟨b,0,none⟩)] (fun x y=>i.c*x):=by
 refine ⟨T.fn261,fun G' hG x y zx zy hx hy h1 h2=>?_⟩;have hbc:=zX (hG _ _ hb) 4 U;show Does Tryz.prog 261 [.agg (A2.enc x).toArray,.agg (A2.enc y).toArray,.pointer (some ⟨b,0,none⟩)] G' [] (fun v G'' Ho=>MP v G'' Ho (i.c*zx));rw [cW];refine bU Tryz.func261 U Tryz.ntmps261 U fun w=>?_;refine aL 2 [] ?_;refine gU 0 U U U fun b1=>?_;refine gU 1 U U U fun b2=>?_;refine bB 2 U T.zero89 fun b3=>?_;refine aN 6 [0] ?_;refine aU U (cS T.one3 U uK) ?_;refine cQ 3 U (bh _ _ _ _ uK uJ hc) fun v1 G1 Ho1 hle1 hp=>?_;obtain ⟨r1,rfl,hr1,rfl⟩:=hp;replace hx:=hx.up hle1;replace hy:=hy.up hle1;refine bA 4 [2] ?_;refine iY [2] uR (cP (.inr U) (Ho:=Hp.only _ []) U (.agg 0 U U T.agg89) (aV _ _) ?_);exact ⟨_,U,hr1,U⟩
theorem cr (G:A3) (b:Nat) (i:Sl.Instr) (d s:Nat) (hs:s<32) (hd:d≤1000) (hc:i.c=((32*d+s:Nat):Int)) (hb:G b=some (.cells (A2.enc i).toArray 211)):F0 G 264 [.pointer (some ⟨b,0,none⟩)] (fun x y=>((2 ^ (32*d+s):Nat):Int)*x):=by
 refine ⟨T.fn264,fun G' hG x y zx zy hx hy h1 h2=>?_⟩;have hbc:G'.cell b 4=some (.int .i64 ((32*d+s:Nat):Int)):=by rw [←hc];exact zX (hG _ _ hb) 4 U
 show Does Tryz.prog 264 [.agg (A2.enc x).toArray,.agg (A2.enc y).toArray,.pointer (some ⟨b,0,none⟩)] G' [] (fun v G'' Ho=>MP v G'' Ho (((2 ^ (32*d+s):Nat):Int)*zx));rw [cW];refine bU Tryz.func264 U Tryz.ntmps264 U fun w=>?_;refine aL 2 [] ?_;refine gU 0 U U U fun b1=>?_;refine gU 1 U U U fun b2=>?_;refine bB 2 U T.zero89 fun b3=>?_;refine aN 6 [0] ?_;refine aU U (cS T.one3 U uK) ?_;refine cQ 3 U (c56 _ _ _ _ _ uK uJ hs hd) fun v1 G1 Ho1 hle1 hp=>?_;obtain ⟨r1,rfl,hr1,rfl⟩:=hp;replace hx:=hx.up hle1;replace hy:=hy.up hle1;refine aF 3 [] ?_;refine bB 3 U T.zero89 fun b4=>?_;refine bA 11 [3,3,2] ?_;refine iY [2] uR (cP (.inr U) (Ho:=Hp.only _ []) U (.agg 0 U U T.agg89) (aV _ _) ?_);exact ⟨_,U,hr1,U⟩
theorem IU {p:Prop} [Decidable p] {z:Int}:decide ((if p then some z else none)≠none)=decide p:=by by_cases h:p <;> simp [h]
theorem IW {p:Prop} [Decidable p]:decide ((if p then (0:Int) else 20)=0)=decide p:=by by_cases h:p <;> simp [h]
theorem XW (G:A3) (b:Nat) (i:Sl.Instr) (h0:i.c≠0) (hc:-9223372036854775808≤i.c∧i.c≤9223372036854775807) (hb:G b=some (.cells (A2.enc i).toArray 211)):Qu G 262 [.pointer (some ⟨b,0,none⟩)] (fun x y=>if x % i.c=0 then some (x / i.c) else none):=by
 refine ⟨T.fn262,fun G' hG x y zx zy hx hy h1 h2=>?_⟩;have hbc:=zX (hG _ _ hb) 4 U;show Does Tryz.prog 262 [.agg (A2.enc x).toArray,.agg (A2.enc y).toArray,.pointer (some ⟨b,0,none⟩)] G' [] _;refine bU Tryz.func262 U Tryz.ntmps262 U fun w=>?_;refine aL 2 [] ?_;refine gU 0 U U U fun b1=>?_;refine gU 1 U U U fun b2=>?_;refine bB 2 U T.zero89 fun b3=>?_;refine aN 7 [0] ?_;refine aU U (cS T.one3 U uK) ?_;refine cQ 3 U (ud _ _ _ _ uK uJ hc h0) fun v1 G1 Ho1 hle1 hp=>?_;obtain ⟨r1,rfl,hr1,rfl⟩:=hp;replace hx:=hx.up hle1;replace hy:=hy.up hle1;refine aF 3 [] ?_;refine bB 3 U T.zero89 fun b4=>?_;refine bA 14 [3,3,2] ?_;refine iY [2] uR (jZ (.inr U) (Ho:=Hp.only _ []) U (.agg 0 U U T.agg89) (.tmp U) (aV _ _) ?_);refine ⟨r1,by show Value.tuple #[_,.bool (decide ((if zx % i.c=0 then (0:Int) else 20)=0))]=Value.tuple #[_,.bool (decide ((if zx % i.c=0 then some (zx / i.c) else none)≠none))];rw [IU,IW],fun z hz=>?_,U⟩;replace hz:(if zx % i.c=0 then some (zx / i.c) else none)=some z:=hz;by_cases h:zx % i.c=0
 · rw [aM h] at hz;cases hz;exact hr1 h
 rw [aE h] at hz;cases hz
theorem XX (G:A3) (hT:C6 G) (b:Nat) (i:Sl.Instr) (d s:Nat) (hs:s<32) (hd:d≤1000) (hc:i.c=((32*d+s:Nat):Int)) (hb:G b=some (.cells (A2.enc i).toArray 211)):Qu G 265 [.pointer (some ⟨b,0,none⟩)] (fun x y=>if x % ((2 ^ (32*d+s):Nat):Int)=0 then some (x / ((2 ^ (32*d+s):Nat):Int)) else none):=by
 refine ⟨T.fn265,fun G' hG x y zx zy hx hy h1 h2=>?_⟩;have hbc:G'.cell b 4=some (.int .i64 ((32*d+s:Nat):Int)):=by rw [←hc];exact zX (hG _ _ hb) 4 U
 show Does Tryz.prog 265 [.agg (A2.enc x).toArray,.agg (A2.enc y).toArray,.pointer (some ⟨b,0,none⟩)] G' [] _;refine bU Tryz.func265 U Tryz.ntmps265 U fun w=>?_;refine aL 2 [] ?_;refine gU 0 U U U fun b1=>?_;refine gU 1 U U U fun b2=>?_;refine bB 2 U T.zero89 fun b3=>?_;refine aN 7 [0] ?_;refine aU U (cS T.one3 U uK) ?_;refine cQ 3 U (rh _ (hT.up hG) _ _ _ _ uK uJ hs hd) fun v1 G1 Ho1 hle1 hp=>?_;obtain ⟨r1,rfl,hr1,rfl⟩:=hp;replace hx:=hx.up hle1;replace hy:=hy.up hle1;refine aF 3 [] ?_;refine bB 3 U T.zero89 fun b4=>?_;refine bA 14 [3,3,2] ?_;refine iY [2] uR (jZ (.inr U) (Ho:=Hp.only _ []) U (.agg 0 U U T.agg89) (.tmp U) (aV _ _) ?_);refine ⟨r1,by show Value.tuple #[_,.bool (decide ((if zx % ((2 ^ (32*d+s):Nat):Int)=0 then (0:Int) else 20)=0))]=Value.tuple #[_,.bool (decide ((if zx % ((2 ^ (32*d+s):Nat):Int)=0 then some (zx / ((2 ^ (32*d+s):Nat):Int)) else none)≠none))];rw [IU,IW],fun z hz=>?_,U⟩;replace hz:(if zx % ((2 ^ (32*d+s):Nat):Int)=0 then some (zx / ((2 ^ (32*d+s):Nat):Int)) else none)=some z:=hz;by_cases h:zx % ((2 ^ (32*d+s):Nat):Int)=0
 · rw [aM h] at hz;cases hz;exact hr1 h
 rw [aE h] at hz;cases hz
theorem uf (G:A3) (hT:C6 G) (i:Sl.Instr) (regs:Int) (hR:yM i regs=true):Does Tryz.prog 223 [.agg (A2.enc i).toArray] G [] (fun v G' Ho=>∃ (g:Nat) (cp:List Value),v=.func (.func g) #[] cp.toArray∧Qu G' g cp (Ht i)∧Ho=[]):=by
 have hok:=(LH i regs).1 hR;obtain ⟨⟨ho1,ho8,_⟩,hcc⟩:=hok;have hc:-9223372036854775808≤i.c∧i.c≤9223372036854775807:=by
  split at hcc
  · omega
  obtain ⟨_,hcc⟩:=hcc;split at hcc
  · omega
  split at hcc <;> omega
 have hcd:(i.op=7∨i.op=8)→i.c=((32*(i.c.toNat / 32)+i.c.toNat % 32:Nat):Int)∧cst i=((2 ^ (32*(i.c.toNat / 32)+i.c.toNat % 32):Nat):Int)∧i.c.toNat / 32≤1000:=fun h=>by
  rw [aE (by omega)] at hcc;obtain ⟨_,hcc⟩:=hcc;rw [aE (by omega),aM h] at hcc;refine ⟨by omega,?_,by omega⟩;rw [QP uJ,show 32*(i.c.toNat / 32)+i.c.toNat % 32=i.c.toNat by omega];rfl
 have hc0:i.op=6→i.c≠0:=fun h=>by
  rw [aE (by omega)] at hcc;obtain ⟨_,hcc⟩:=hcc;rw [aM (by omega)] at hcc;exact hcc.1
 refine bU Tryz.func223 U Tryz.ntmps223 U fun w=>?_;refine aL 2 [] ?_;refine gU 0 U U U fun b1=>?_;refine bY 22 [0] ?_;refine jF U (fun hc1=>?_) fun hc1=>?_;refine aL 3 [] ?_;rotate_left;refine dN 6 [] ?_;refine jF U (fun hc2=>?_) fun hc2=>?_;refine aL 3 [] ?_;rotate_left;refine dN 6 [] ?_;refine jF U (fun hc3=>?_) fun hc3=>?_;refine aL 3 [] ?_;rotate_left;refine dN 6 [] ?_;refine jF U (fun hc4=>?_) fun hc4=>?_;refine aL 3 [] ?_;refine aU U (jS U U) ?_;rotate_left;refine dN 6 [] ?_;refine jF U (fun hc5=>?_) fun hc5=>?_;refine aL 2 [] ?_;refine aU U (jS U U) ?_;refine bA 6 [] ?_;rotate_left;refine dN 6 [] ?_;refine jF U (fun hc6=>?_) fun hc6=>?_;refine aL 3 [] ?_;refine aU U (jS U U) ?_;rotate_left;refine dN 6 [] ?_;refine jF U (fun hc7=>?_) fun hc7=>?_;refine aL 2 [] ?_;refine aU U (jS U U) ?_;refine bA 6 [] ?_;rotate_left;refine aL 6 [] ?_;rotate_left
 · have he:(fun x y=>some (-1*x))=Ht i:=by
    funext x y;unfold Ht;rw [aM (by omega)]
   refine fM (fst:=[]) (cap:=[]) 20 U T.fn258 U U (MQ _ 260 [] _ (cl _)) (vA I8) fun v1 G1 Ho1 hle1 hp=>?_;obtain ⟨g,cp,rfl,hD,rfl⟩:=hp;refine bA 6 [] ?_;refine iY [] uR (cP (.inr U) (Ho:=Hp.only _ []) U (.tmp U) (aV _ _) ?_);exact ⟨g,cp,U,he▸hD,U⟩
 · have he:(fun x y=>some (x+1*y))=Ht i:=by
    funext x y;unfold Ht;rw [aE (by omega),aM (by omega)]
   refine fM (fst:=[]) (cap:=[]) 20 U T.fn258 U U (MQ _ 42 [] _ (kf _)) (vA I8) fun v1 G1 Ho1 hle1 hp=>?_;obtain ⟨g,cp,rfl,hD,rfl⟩:=hp;refine bA 6 [] ?_;refine iY [] uR (cP (.inr U) (Ho:=Hp.only _ []) U (.tmp U) (aV _ _) ?_);exact ⟨g,cp,U,he▸hD,U⟩
 · have he:(fun x y=>some (x+(-1)*y))=Ht i:=by
    funext x y;unfold Ht;rw [aE (by omega),aE (by omega),aM (by omega)]
   refine fM (fst:=[]) (cap:=[]) 20 U T.fn258 U U (MQ _ 159 [] _ (ck _)) (vA I8) fun v1 G1 Ho1 hle1 hp=>?_;obtain ⟨g,cp,rfl,hD,rfl⟩:=hp;refine bA 6 [] ?_;refine iY [] uR (cP (.inr U) (Ho:=Hp.only _ []) U (.tmp U) (aV _ _) ?_);exact ⟨g,cp,U,he▸hD,U⟩
 · have he:(fun x y=>some (i.c*x))=Ht i:=by
    funext x y;unfold Ht;rw [aE (by omega),aE (by omega),aE (by omega),aM (by omega),AM uJ]
   refine tX 0 U fun G1 hg1 hb1=>?_;refine fM (fst:=[]) (cap:=[]) 20 U T.fn258 U U (MQ _ 261 [.pointer (some ⟨b1,0,none⟩)] _ (cq _ b1 i hc hb1)) (vA I8) fun v1 G1 Ho1 hle1 hp=>?_;obtain ⟨g,cp,rfl,hD,rfl⟩:=hp;refine bA 6 [] ?_;refine iY [] uR (cP (.inr U) (Ho:=Hp.only _ []) U (.tmp U) (aV _ _) ?_);exact ⟨g,cp,U,he▸hD,U⟩
 · have he:(fun x y=>if x % i.c=0 then some (x / i.c) else none)=Ht i:=by
    funext x y;unfold Ht;rw [aE (show ¬i.op=2 by omega),aE (show ¬i.op=3 by omega),aE (show ¬i.op=4 by omega),aE (show ¬(i.op=5∨i.op=7) by omega),aM (show i.op=6∨i.op=8 by omega),AM uJ]
   refine sX 0 U fun G1 hg1 hb1=>?_;refine iY [] uR (cP (.inr U) (Ho:=Hp.only _ []) U (.tmp U) (aV _ _) ?_);exact ⟨262,[.pointer (some ⟨b1,0,none⟩)],U,he▸XW G1 b1 i (hc0 uJ) hc hb1,U⟩
 · obtain ⟨hq1,hq2,hq3⟩:=hcd uJ;have he:(fun x y=>some (((2 ^ (32*(i.c.toNat / 32)+i.c.toNat % 32):Nat):Int)*x))=Ht i:=by
    funext x y;unfold Ht;rw [aE (by omega),aE (by omega),aE (by omega),aM (by omega),hq2]
   refine tX 0 U fun G1 hg1 hb1=>?_;refine fM (fst:=[]) (cap:=[]) 20 U T.fn258 U U (MQ _ 264 [.pointer (some ⟨b1,0,none⟩)] _ (cr _ b1 i _ _ (iX _ uR) hq3 hq1 hb1)) (vA I8) fun v1 G1 Ho1 hle1 hp=>?_;obtain ⟨g,cp,rfl,hD,rfl⟩:=hp;refine bA 6 [] ?_;refine iY [] uR (cP (.inr U) (Ho:=Hp.only _ []) U (.tmp U) (aV _ _) ?_);exact ⟨g,cp,U,he▸hD,U⟩
 · obtain ⟨hq1,hq2,hq3⟩:=hcd uJ;have he:(fun x y=>if x % ((2 ^ (32*(i.c.toNat / 32)+i.c.toNat % 32):Nat):Int)=0 then some (x / ((2 ^ (32*(i.c.toNat / 32)+i.c.toNat % 32):Nat):Int)) else none)=Ht i:=by
    funext x y;unfold Ht;rw [aE (show ¬i.op=2 by omega),aE (show ¬i.op=3 by omega),aE (show ¬i.op=4 by omega),aE (show ¬(i.op=5∨i.op=7) by omega),aM (show i.op=6∨i.op=8 by omega),hq2]
   refine sX 0 U fun G1 hg1 hb1=>?_;refine iY [] uR (cP (.inr U) (Ho:=Hp.only _ []) U (.tmp U) (aV _ _) ?_);exact ⟨265,[.pointer (some ⟨b1,0,none⟩)],U,he▸XX G1 (hT.up hg1) b1 i _ _ (iX _ uR) hq3 hq1 hb1,U⟩
 have he:(fun x y=>some x)=Ht i:=by
  funext x y;unfold Ht;rw [aE (by omega),aE (by omega),aE (by omega),aE (by omega),aE (by omega)]
 refine fM (fst:=[]) (cap:=[]) 20 U T.fn258 U U (MQ _ 267 [] _ (cm _)) (vA I8) fun v1 G1 Ho1 hle1 hp=>?_;obtain ⟨g,cp,rfl,hD,rfl⟩:=hp;refine bA 4 [] ?_;refine iY [] uR (cP (.inr U) (Ho:=Hp.only _ []) U (.tmp U) (aV _ _) ?_);exact ⟨g,cp,U,he▸hD,U⟩
end
end Go.Proofs.YtngphgeghfdjbaaGreatDoor
