/- sN of the proof (part 5): what the rows' text needs of the texts that lead to it. -/
import Derived.Test.YtngphgeghfdjbaaGreatDoorMBd
set_option linter.unusedVariables false
set_option linter.unusedSimpArgs false
set_option linter.unusedSectionVars false
set_option maxHeartbeats 4000000
set_option maxRecDepth 100000
namespace Go.Proofs.YtngphgeghfdjbaaGreatDoor
open Go Go.Sl
section
attribute [local irreducible] qZ pb sG rM
theorem Jv {G:Imm} {b:Nat} {cs:List Value} {T:TypeId} {fz:Nat×Nat} (h:G b=some (.cells cs.toArray T fz)) (k:Nat) {v:Value} (hv:cs[k]?=some v):G.cell b k=some v:=by
 simp only [Imm.cell,h];simpa using hv
theorem Lv (xs:List Int) (f:Int→Int):Sx (fun k=>f (xs[k]?.getD 0)) xs.length=xs.map f:=by
 unfold Sx
 apply lQ
 · rw [bZ,bZ,hJ]
 intro i h1 h2
 rw [bZ] at h2
 rw [lP,nE,lP,aD h2];rfl
theorem Sy (xs ys:List Int) (f:Int→Int→Int) (h:xs.length=ys.length):Sx (fun k=>f (xs[k]?.getD 0) (ys[k]?.getD 0)) xs.length=List.zipWith f xs ys:=by
 unfold Sx
 apply lQ
 · rw [bZ,hJ,mL,h,Nat.min_self]
 intro i h1 h2
 rw [mL] at h2
 rw [lP,nE,List.getElem_zipWith,aD (show i<xs.length by omega),aD (show i<ys.length by omega)];rfl
def At (G':Imm) (v:Value) (zs:List Int):Prop:=∃ (s:Option Addr) (r:List IV) (d:Nat),v=.slice s r.length d∧Arr G' s r∧r.length≤d∧Bigs G' r zs
theorem zK {G:Imm} {l:List IV} {xs:List Int} {m:Nat} (h:Bigs G l xs) (hm:Below m xs) {k:Nat} (hk:k<l.length):(l[k]?.getD default).n≤m:=gM (h.2 k hk) (hm.at k)
theorem PQ (G:Imm) (a:Option Addr) (c:Nat) (l:List IV) (xs:List Int) (m:Nat) (ha:Arr G a l) (hb:Bigs G l xs) (hm:Below m xs) (hmm:m≤268435456) (hl:l.length≤1048576) :
 Does Tryz.prog 293 [.slice a l.length c] G [] (fun v G' Ho=>At G' v (xs.map fun x=>-x)∧Ho=[]):=by
 have hf:∀ k:Nat,k<l.length→∀ G',G.le G'→Does Tryz.prog 55 ([]++[.agg (Cells.enc (l[(k:Int).toNat]?.getD default)).toArray]++[]) G' [] (fun v G'' Ho=>∃ r:IV,v=.agg (Cells.enc r).toArray∧Big G'' r (-(xs[k]?.getD 0))∧Ho=[]):=fun k hk G' hG=>by
  have h1:=zK hb hm hk
  exact (c55 G' _ _ ((hb.2 k hk).up hG) qX).mono fun v G'' Ho _ ⟨r,e1,e2,e3,e4⟩=>⟨r,e1,e2,e4⟩
 have h180:=GN G a c l 55 [] (fun k=>-(xs[k]?.getD 0)) T.fn55 ha hl hf
 rw [hb.1,Lv xs (fun x=>-x),←hb.1] at h180
 refine D0 Tryz.func293 Tryz.ntmps293 fun w=>?_
 refine aM 8 [] ?_
 refine cX 0 rfl (h180) fun v1 G1 Ho1 hle1 hp=>?_
 obtain ⟨s1,r1,d1,rfl,hA1,hl81,hB1,rfl⟩:=hp
 replace ha:=ha.up hle1
 replace hb:=hb.up hle1
 refine bA 4 [] ?_
 refine cI ?_
 exact ⟨⟨_,_,_,rfl,hA1,hl81,hB1⟩,rfl⟩
theorem PR (G:Imm) (bk bf bb h:Nat) (x:IV) (k:Nat) (a':Option Addr) (c':Nat) (ys:List IV) (R:Int) (hgh:uE Tryz.prog h) (hy:Arr G a' ys) (hk:k<ys.length) (hkl:k≤1048576) (hf:G bf=some (.cells [.func (.func h) #[] #[]].toArray 361)) (hb:G bb=some (.cells [.slice a' ys.length c'].toArray 39))
 (hh:Does Tryz.prog h ([]++[.agg (Cells.enc x).toArray,.agg (Cells.enc (ys[((k:Nat):Int).toNat]?.getD default)).toArray]++[]) G [] (fun v G'' Ho=>∃ r:IV,v=.agg (Cells.enc r).toArray∧Big G'' r R∧Ho=[])) :
 Does Tryz.prog 335 [.agg (Cells.enc x).toArray,.pointer (some ⟨bk,0,none⟩),.pointer (some ⟨bf,0,none⟩),.pointer (some ⟨bb,0,none⟩)] G [(0,some bk,.cells #[.int .i64 ((k:Int) - 1)] 3)]
  (fun v G' Ho=>∃ r:IV,v=.agg (Cells.enc r).toArray∧Big G' r R∧Ho=[(0,some bk,.cells #[.int .i64 (((k+1:Nat):Int) - 1)] 3)]):=by
 have hfc:=Jv hf 0 rfl
 have hbc:=Jv hb 0 rfl
 have e:(k:Int).toNat=(((k:Int) - 1)+1).toNat:=qX
 rw [e] at hh
 refine D0 Tryz.func335 Tryz.ntmps335 fun w=>?_
 refine aM 2 [] ?_
 refine dY 1 fun b1=>?_
 refine aW 2 rfl T.zero89 fun b2=>?_
 refine bP 10 [0,0] ?_
 refine mN [1,2,0] [(2,7),(0,6),(2,6),(1,6)] T.mixed rfl ?_
 refine gQ 0 [] rfl (dH T.one361 rfl qY) ?_
 refine fE [[1,1]] ?_
 refine gQ 2 [] rfl (dH T.one39 rfl qY) ?_
 refine gC 3 ?_
 refine aC 1 [0] ?_
 refine eU ?_
 refine qL (α:=IV) 4 T.sl39 ?_
 refine Gm.le 5 T.agg89 ?_
 refine gC 6 ?_
 refine fX (fst:=[]) (cap:=[]) 20 rfl hgh rfl rfl hh (sE trivial) fun v1 G1 Ho1 hle1 hp=>?_
 obtain ⟨r1,rfl,hr1,rfl⟩:=hp
 refine cT 7 ?_
 refine aC 1 [2] ?_
 refine jC ?_
 refine iN 2 [] ?_
 refine gT 0 (.cells #[.int .i64 (((k+1:Nat):Int) - 1)] 3) rfl (by rw [show (((k+1:Nat):Int) - 1)=(k:Int) - 1+1 by omega];rfl) ?_
 refine eH (.inr rfl) (Ho:=[(0,some bk,.cells #[.int .i64 (((k+1:Nat):Int) - 1)] 3)]) rfl (.agg 2 rfl rfl T.agg89) ⟨rfl,trivial⟩ ?_
 exact ⟨r1,rfl,hr1,rfl⟩
theorem KU (G:Imm) (h:Nat) (a a':Option Addr) (c c':Nat) (l l':List IV) (F:Nat→Int) (hgh:uE Tryz.prog h) (ha:Arr G a l) (ha':Arr G a' l') (hlen:l.length=l'.length) (hl:l.length≤1048576)
 (hh:∀ k:Nat,k<l.length→∀ G',G.le G'→Does Tryz.prog h ([]++[.agg (Cells.enc (l[((k:Nat):Int).toNat]?.getD default)).toArray,.agg (Cells.enc (l'[((k:Nat):Int).toNat]?.getD default)).toArray]++[]) G' [] (fun v G'' Ho=>∃ r:IV,v=.agg (Cells.enc r).toArray∧Big G'' r (F k)∧Ho=[])) :
 Does Tryz.prog 319 [.slice a l.length c,.slice a' l'.length c',.func (.func h) #[] #[]] G [] (fun v G' Ho=>∃ (s:Option Addr) (r:List IV) (d:Nat),v=.tuple #[.slice s r.length d,.int .i64 0]∧Arr G' s r∧r.length≤d∧Bigs G' r (Sx F l.length)∧Ho=[]):=by
 refine D0 Tryz.func319 Tryz.ntmps319 fun w=>?_
 refine aM 2 [] ?_
 refine dY 0 fun b1=>?_
 refine dY 1 fun b2=>?_
 refine aL 19 [0,0] ?_
 refine aW 2 rfl T.zero3 fun b3=>?_
 refine aL 6 [2] ?_
 refine aP (kU rfl rfl) ?_
 refine Wl.freeze 1 rfl fun G1 hg1 hb1=>?_
 refine Wl.freeze 0 rfl fun G2 hg2 hb2=>?_
 replace hb1:=hg2 _ _ hb1
 have hG:=bI hg1 hg2
 replace ha:=ha.up hG
 replace ha':=ha'.up hG
 refine mZ 2 (.cells #[.int .i64 (-1)] 3) rfl rfl ?_
 refine Wl.call 2 rfl T.fn318 rfl (KT _ a c l 335 b3 [.pointer (some ⟨b3,0,none⟩),.pointer (some ⟨b2,0,none⟩),.pointer (some ⟨b1,0,none⟩)] F T.fn335 ha hl
  (fun k hk G' hG'=>PR G' b3 b2 b1 h _ k a' c' l' (F k) hgh (ha'.up hG') qX qX (hG' _ _ hb1) (hG' _ _ hb2) (hh k hk G' (bI hG hG')))) (sE ⟨rfl,trivial⟩) (fun v1 G3 Ho1 hle1 hp=>?_)
 obtain ⟨s,r,d,rfl,hA,hd,hB,rfl⟩:=hp
 refine bA 5 [] ?_
 refine eJ ?_
 exact ⟨s,r,d,rfl,hA,hd,hB,rfl⟩
theorem PS (G:Imm) (a a':Option Addr) (c c':Nat) (l l':List IV) (xs ys:List Int) (m:Nat) (ha:Arr G a l) (ha':Arr G a' l') (hb:Bigs G l xs) (hb':Bigs G l' ys) (hm:Below m xs) (hm':Below m ys) (hmm:m≤268435456) (hlen:l.length=l'.length) (hl:l.length≤1048576) :
 Does Tryz.prog 295 [.slice a l.length c,.slice a' l'.length c'] G [] (fun v G' Ho=>∃ (s:Option Addr) (r:List IV) (d:Nat),v=.tuple #[.slice s r.length d,.int .i64 0]∧Arr G' s r∧r.length≤d∧Bigs G' r (List.zipWith (·+·) xs ys)∧Ho=[]):=by
 have h181:=KU G 42 a a' c c' l l' (fun k=>xs[k]?.getD 0+ys[k]?.getD 0) T.fn42 ha ha' hlen hl (fun k hk G' hG=>by
  have h1:=zK hb hm hk
  have h2:=zK hb' hm' (show k<l'.length by omega)
  exact OT G' _ _ _ _ ((hb.2 k hk).up hG) ((hb'.2 k qX).up hG) Mt Mt)
 rw [hb.1,Sy xs ys (·+·) (by rw [←hb.1,←hb'.1,hlen]),←hb.1] at h181
 refine D0 Tryz.func295 Tryz.ntmps295 fun w=>?_
 refine aM 10 [] ?_
 refine cX 0 rfl (h181) fun v1 G1 Ho1 hle1 hp=>?_
 obtain ⟨s1,r1,d1,rfl,hA1,hl81,hB1,rfl⟩:=hp
 replace ha:=ha.up hle1
 replace ha':=ha'.up hle1
 replace hb:=hb.up hle1
 replace hb':=hb'.up hle1
 refine bA 7 [] ?_
 refine eJ ?_
 exact ⟨_,_,_,rfl,hA1,hl81,hB1,rfl⟩
theorem PT (G:Imm) (a a':Option Addr) (c c':Nat) (l l':List IV) (xs ys:List Int) (m:Nat) (ha:Arr G a l) (ha':Arr G a' l') (hb:Bigs G l xs) (hb':Bigs G l' ys) (hm:Below m xs) (hm':Below m ys) (hmm:m≤268435456) (hlen:l.length=l'.length) (hl:l.length≤1048576) :
 Does Tryz.prog 297 [.slice a l.length c,.slice a' l'.length c'] G [] (fun v G' Ho=>∃ (s:Option Addr) (r:List IV) (d:Nat),v=.tuple #[.slice s r.length d,.int .i64 0]∧Arr G' s r∧r.length≤d∧Bigs G' r (List.zipWith (· - ·) xs ys)∧Ho=[]):=by
 have h181:=KU G 159 a a' c c' l l' (fun k=>xs[k]?.getD 0 - ys[k]?.getD 0) T.fn159 ha ha' hlen hl (fun k hk G' hG=>by
  have h1:=zK hb hm hk
  have h2:=zK hb' hm' (show k<l'.length by omega)
  exact KB G' _ _ _ _ ((hb.2 k hk).up hG) ((hb'.2 k qX).up hG) Mt Mt)
 rw [hb.1,Sy xs ys (· - ·) (by rw [←hb.1,←hb'.1,hlen]),←hb.1] at h181
 refine D0 Tryz.func297 Tryz.ntmps297 fun w=>?_
 refine aM 10 [] ?_
 refine cX 0 rfl (h181) fun v1 G1 Ho1 hle1 hp=>?_
 obtain ⟨s1,r1,d1,rfl,hA1,hl81,hB1,rfl⟩:=hp
 replace ha:=ha.up hle1
 replace ha':=ha'.up hle1
 replace hb:=hb.up hle1
 replace hb':=hb'.up hle1
 refine bA 7 [] ?_
 refine eJ ?_
 exact ⟨_,_,_,rfl,hA1,hl81,hB1,rfl⟩
theorem PU (G:Imm) (a:Option Addr) (c:Nat) (l:List IV) (xs:List Int) (y:IV) (z:Int) (m:Nat) (ha:Arr G a l) (hb:Bigs G l xs) (hm:Below m xs) (hmm:m≤268435456) (hl:l.length≤1048576) (hy:Big G y z) (hyn:y.n≤268435456) :
 Does Tryz.prog 298 [.slice a l.length c,.agg (Cells.enc y).toArray] G [] (fun v G' Ho=>At G' v (xs.map fun x=>z*x)∧Ho=[]):=by
 have hf:∀ k:Nat,k<l.length→∀ G',G.le G'→Does Tryz.prog 65 ([.agg (Cells.enc y).toArray]++[.agg (Cells.enc (l[(k:Int).toNat]?.getD default)).toArray]++[]) G' [] (fun v G'' Ho=>∃ r:IV,v=.agg (Cells.enc r).toArray∧Big G'' r (z*xs[k]?.getD 0)∧Ho=[]):=fun k hk G' hG=>by
  have h1:=zK hb hm hk
  exact OS G' _ _ _ _ (hy.up hG) ((hb.2 k hk).up hG) qX Mt
 have h180:=GN G a c l 65 [.agg (Cells.enc y).toArray] (fun k=>z*xs[k]?.getD 0) T.fn65 ha hl hf
 rw [hb.1,Lv xs (fun x=>z*x),←hb.1] at h180
 refine D0 Tryz.func298 Tryz.ntmps298 fun w=>?_
 refine aM 2 [] ?_
 refine dY 0 fun b1=>?_
 refine aL 7 [0] ?_
 refine aP (kU rfl rfl) ?_
 refine cX 1 rfl (h180) fun v1 G1 Ho1 hle1 hp=>?_
 obtain ⟨s1,r1,d1,rfl,hA1,hl81,hB1,rfl⟩:=hp
 replace ha:=ha.up hle1
 replace hb:=hb.up hle1
 replace hy:=hy.up hle1
 refine bA 4 [] ?_
 refine cI ?_
 exact ⟨⟨_,_,_,rfl,hA1,hl81,hB1⟩,rfl⟩
theorem EU (xs:List Int) (z:Int):Sx (fun k=>xs[k]?.getD 0 / z) xs.length=xs.map (· / z):=Lv xs (· / z)
theorem PW (G:Imm) (a:Option Addr) (c:Nat) (l:List IV) (xs:List Int) (y:IV) (z:Int) (m:Nat) (ha:Arr G a l) (hb:Bigs G l xs) (hm:Below m xs) (hmm:m≤268435456) (hl:l.length≤1048576) (hy:Big G y z) (hyn:y.n≤268435456) (hy0:z≠0) :
 Does Tryz.prog 300 [.slice a l.length c,.agg (Cells.enc y).toArray] G [] (fun v G' Ho=>((∀ i:Nat,i<xs.length→xs[i]?.getD 0 % z=0)→∃ (s:Option Addr) (r:List IV) (d:Nat),v=.tuple #[.slice s r.length d,.int .i64 0]∧Arr G' s r∧r.length≤d∧Bigs G' r (xs.map (· / z)))∧
  (¬(∀ i:Nat,i<xs.length→xs[i]?.getD 0 % z=0)→v=.tuple #[.slice none 0 0,.int .i64 20])∧Ho=[]):=by
 have hxl:=hb.1
 refine D0 Tryz.func300 Tryz.ntmps300 fun w=>?_
 refine jU 9 (rP 89 ([]:List IV) []) ?_
 have hz0:¬Ny z=0:=fun h=>hy0 (Ft.1 h)
 refine aM 2 [] ?_
 refine dY 10 fun b1=>?_
 refine aL 8 [10] ?_
 refine bS rfl (Nz _ y z hy (aK hyn rI)) ?_
 refine bP 20 [0] ?_
 refine nB (ι:=Nat×Imm×List IV×(Option Addr×Nat×List Value)) (fun (k,Gx,r,(o,d,j))=>([(17,.int .i64 (k:Int)),(6,.slice o r.length d),(16,.int .i64 (l.length:Int)),(15,.slice a (List.length l) c),(3,.pointer (some ⟨b1,0,none⟩))],[(9,o.map (·.block),rP 89 r j),(10,some b1,.cells (List.toArray (Cells.enc y)) 89)])) (fun (k,Gx,r,(o,d,j))=>Gx) (fun (k,Gx,r,(o,d,j))=>k≤l.length∧G.le Gx∧r.length=k∧Bigs Gx r (Sx (fun k=>xs[k]?.getD 0 / z) k)∧OwnA o d r j∧(∀ i:Nat,i<k→xs[i]?.getD 0 % z=0)) (fun (k,Gx,r,(o,d,j))=>l.length - k) ((0,G,[],(none,0,[]))) (⟨aZ _,cC _,rfl,⟨rfl,fun i h=>absurd h rV⟩,gF,fun i h=>absurd h qX⟩) rfl ⟨rfl,rfl,rfl,rfl,rfl,trivial⟩ ⟨rfl,rfl,trivial⟩ fun ⟨k,Gx,r,(o,d,j)⟩=>fun hk=>?_
 obtain ⟨hk1,hk2,hk3,hk4,hk5,hk6⟩:=hk
 replace ha:=ha.up hk2
 replace hb:=hb.up hk2
 replace hy:=hy.up hk2
 rcases aR k l.length with hkl | hkl
 · have hx:=hb.2 k hkl
   have hxn:(l[(k:Int).toNat]?.getD default).n≤268435456:=by rw [aN];exact aK (zK hb hm hkl) hmm
   have hx:Big Gx (l[(k:Int).toNat]?.getD default) (xs[k]?.getD 0):=by rw [aN];exact hx
   have hlt:((xs[k]?.getD 0 % z).natAbs:Int)<pb y.n:=by
    have e2:=Qo (x:=xs[k]?.getD 0) hy0
    have e3:=Big.lt hy
    omega
   refine aM 13 [1] ?_
   refine eO (α:=IV) T.sl39 ?_
   refine nA T.agg89 ?_
   refine aW 11 rfl T.zero89 fun b2=>?_
   refine aL 7 [11,11,10] ?_
   refine cX 12 rfl (OU _ _ _ _ _ hx hy hxn hyn hy0) fun v1 G1 Ho1 hle1 hp=>?_
   obtain ⟨q1,r1,rfl,hq1,hr1,rfl⟩:=hp
   replace hk4:=hk4.up hle1
   replace ha:=ha.up hle1
   replace hb:=hb.up hle1
   replace hy:=hy.up hle1
   replace hx:=hx.up hle1
   refine aC 4 [] ?_
   refine aW 12 rfl T.zero89 fun b3=>?_
   refine aW 13 rfl T.zero89 fun b4=>?_
   refine aL 9 [12,13,13] ?_
   refine bS rfl (Nz _ r1 (xs[k]?.getD 0 % z) hr1 (aK (gM hr1 hlt) (aK hyn rI))) ?_
   refine bP 3 [] ?_
   refine eX (fun hc1=>?_) fun hc1=>?_
   refine bQ 13 [] ?_
   rotate_left
   refine aM 5 [12] ?_
   refine iC (α:=IV) 14 [(q1)] rfl T.sl39 T.el89 rfl rfl rfl rfl rfl fun b5=>?_
   refine Wl.ap (α:=IV) 9 T.sl39 T.el89 (nN 14 rfl) fun a1 c1 junk1 ho1=>?_
   refine bA 8 [] ?_
   rotate_left
   · refine eJ ?_
     have hno:¬(∀ i:Nat,i<xs.length→xs[i]?.getD 0 % z=0):=fun h=>hc1 (Ft.2 (h k qX))
     exact ⟨fun h=>absurd h hno,fun _=>rfl,rfl⟩
   have hdz:xs[k]?.getD 0 % z=0:=Ft.1 (gX fun h=>hc1 h)
   refine cS 17 rfl (show _=Value.int .i64 ((k+1:Nat):Int) from rfl) ?_
   refine dX ((k+1,_,r++[q1],(a1,c1,junk1))) ?_ ?_
   · refine ⟨hkl,bI hk2 hle1,by rw [aQ,hk3];rfl,?_,ho1,fun i hi=>?_⟩
     · rw [Gh];exact Ch hk4 hq1
     rcases aR i k with h | h
     · exact hk6 i h
     have e:i=k:=qX
     rw [e];exact hdz
   show l.length - (k+1)<l.length - k
   omega
 have hkl:k=l.length:=qX
 subst hkl
 refine bQ 20 [0] ?_
 refine eT 9 rfl hk5 fun G8 hle8 hA8=>?_
 refine eJ ?_
 rw [hxl] at hk6
 refine ⟨fun _=>⟨o,r,d,rfl,hA8,hk5.le,?_⟩,fun h=>absurd hk6 h,rfl⟩
 rw [←EU,←hxl];exact hk4.up hle8
theorem PX (G:Imm) (a a':Option Addr) (c c':Nat) (l l':List IV) (xs ys:List Int) (m:Nat) (ha:Arr G a l) (ha':Arr G a' l') (hb:Bigs G l xs) (hb':Bigs G l' ys) (hm:Below m xs) (hm':Below m ys) (hmm:m≤268435456) (hlen:l.length=l'.length) (hl:l.length≤1048576) :
 Does Tryz.prog 294 [.slice a l.length c,.slice a' l'.length c'] G [] (fun v G' Ho=>At G' v (List.zipWith (·+·) xs ys)∧Ho=[]):=by
 refine D0 Tryz.func294 Tryz.ntmps294 fun w=>?_
 refine aM 9 [] ?_
 refine cX 0 rfl (PS _ a a' c c' l l' xs ys m ha ha' hb hb' hm hm' hmm hlen hl) fun v1 G1 Ho1 hle1 hp=>?_
 obtain ⟨s1,r1,d1,rfl,hA1,hl81,hB1,rfl⟩:=hp
 replace ha:=ha.up hle1
 replace ha':=ha'.up hle1
 replace hb:=hb.up hle1
 replace hb':=hb'.up hle1
 refine bA 14 [] ?_
 refine cI ?_
 exact ⟨⟨_,_,_,rfl,hA1,hl81,hB1⟩,rfl⟩
theorem PY (G:Imm) (a a':Option Addr) (c c':Nat) (l l':List IV) (xs ys:List Int) (m:Nat) (ha:Arr G a l) (ha':Arr G a' l') (hb:Bigs G l xs) (hb':Bigs G l' ys) (hm:Below m xs) (hm':Below m ys) (hmm:m≤268435456) (hlen:l.length=l'.length) (hl:l.length≤1048576) :
 Does Tryz.prog 296 [.slice a l.length c,.slice a' l'.length c'] G [] (fun v G' Ho=>At G' v (List.zipWith (· - ·) xs ys)∧Ho=[]):=by
 refine D0 Tryz.func296 Tryz.ntmps296 fun w=>?_
 refine aM 9 [] ?_
 refine cX 0 rfl (PT _ a a' c c' l l' xs ys m ha ha' hb hb' hm hm' hmm hlen hl) fun v1 G1 Ho1 hle1 hp=>?_
 obtain ⟨s1,r1,d1,rfl,hA1,hl81,hB1,rfl⟩:=hp
 replace ha:=ha.up hle1
 replace ha':=ha'.up hle1
 replace hb:=hb.up hle1
 replace hb':=hb'.up hle1
 refine bA 14 [] ?_
 refine cI ?_
 exact ⟨⟨_,_,_,rfl,hA1,hl81,hB1⟩,rfl⟩
theorem PZ (G:Imm) (a:Option Addr) (c:Nat) (l:List IV) (xs:List Int) (y:IV) (z:Int) (m:Nat) (ha:Arr G a l) (hb:Bigs G l xs) (hm:Below m xs) (hmm:m≤268435456) (hl:l.length≤1048576) (hy:Big G y z) (hyn:y.n≤268435456) (hy0:z≠0) :
 Does Tryz.prog 299 [.slice a l.length c,.agg (Cells.enc y).toArray] G [] (fun v G' Ho=>((∀ i:Nat,i<xs.length→xs[i]?.getD 0 % z=0)→∃ (s:Option Addr) (r:List IV) (d:Nat),v=.tuple #[.slice s r.length d,.bool true]∧Arr G' s r∧r.length≤d∧Bigs G' r (xs.map (· / z)))∧
  (¬(∀ i:Nat,i<xs.length→xs[i]?.getD 0 % z=0)→v=.tuple #[.slice none 0 0,.bool false])∧Ho=[]):=by
 have h:=PW G a c l xs y z m ha hb hm hmm hl hy hyn hy0
 by_cases hd:∀ i:Nat,i<xs.length→xs[i]?.getD 0 % z=0
 · have h1:=h.mono fun v G' Ho _ ⟨p1,p2,p3⟩=>(⟨p1 hd,p3⟩:(∃ (s:Option Addr) (r:List IV) (d:Nat),v=Value.tuple #[.slice s r.length d,.int .i64 0]∧Arr G' s r∧r.length≤d∧Bigs G' r (xs.map (· / z)))∧Ho=[])
   refine D0 Tryz.func299 Tryz.ntmps299 fun w=>?_
   refine aM 2 [] ?_
   refine dY 0 fun b1=>?_
   refine aL 8 [0] ?_
   refine cX 1 rfl (h1) fun v1 G1 Ho1 hle1 hp=>?_
   obtain ⟨⟨s1,r1,d1,rfl,hA1,hl81,hB1⟩,rfl⟩:=hp
   replace ha:=ha.up hle1
   replace hb:=hb.up hle1
   replace hy:=hy.up hle1
   refine bA 17 [] ?_
   refine eJ ?_
   exact ⟨fun _=>⟨_,_,_,rfl,hA1,hl81,hB1⟩,fun h=>absurd hd h,rfl⟩
 have h1:=h.mono fun v G' Ho _ ⟨p1,p2,p3⟩=>(⟨p2 hd,p3⟩:v=Value.tuple #[.slice none 0 0,.int .i64 20]∧Ho=[])
 refine D0 Tryz.func299 Tryz.ntmps299 fun w=>?_
 refine aM 2 [] ?_
 refine dY 0 fun b1=>?_
 refine aL 8 [0] ?_
 refine cX 1 rfl (h1) fun v1 G1 Ho1 hle1 hp=>?_
 obtain ⟨rfl,rfl⟩:=hp
 replace ha:=ha.up hle1
 replace hb:=hb.up hle1
 replace hy:=hy.up hle1
 refine bA 17 [] ?_
 refine eJ ?_
 exact ⟨fun h=>absurd h hd,fun _=>rfl,rfl⟩
def Zv:Value:=.agg #[.func (.func 293) #[] #[],.func (.func 294) #[] #[],.func (.func 296) #[] #[],.func (.func 298) #[] #[],.func (.func 299) #[] #[]]
theorem QA (G:Imm):Does Tryz.prog 251 [] G [] (fun v G' Ho=>v=Zv∧G'=G∧Ho=[]):=by
 refine D0 Tryz.func251 Tryz.ntmps251 fun w=>?_
 refine aM 2 [] ?_
 refine aW 0 rfl T.zero352 fun b1=>?_
 refine aL 4 [] ?_
 refine aP (fI (cs:=[_,_,_,_,_]) T.st352 rfl rfl rfl) ?_
 refine bA 4 [0] ?_
 refine eH (.inr rfl) (Ho:=[]) rfl (.agg 0 rfl rfl T.agg352) trivial ?_
 exact ⟨rfl,rfl,rfl⟩
end
section
attribute [local irreducible] qZ pb sG rM p2 cst
def EvenB (m N:Nat) (rs:List (List Int)):Prop:=∀ zs∈rs,zs.length=N∧Below m zs
theorem EvenB.at {m N:Nat} {rs:List (List Int)} (h:EvenB m N rs) {k:Nat} (hk:k<rs.length):(rs[k]?.getD []).length=N∧Below m (rs[k]?.getD []):=by
 rw [aD hk];exact h _ (eR hk)
def Lw (i:Sl.Instr) (rs:List (List Int)) (H0:Hp) (v:Value) (G':Imm) (Ho:Hp):Prop:=
 ∃ s:SV,v=.tuple #[.slice s.a s.n s.c,.bool (decide (yT i rs≠none))]∧(∀ z,yT i rs=some z→BRow G' s z)∧Ho=H0
theorem vJ {i:Sl.Instr} {rs:List (List Int)} {H0:Hp} {s:SV} {G':Imm} {z:List Int} (h:yT i rs=some z) (hx:BRow G' s z):Lw i rs H0 (.tuple #[.slice s.a s.n s.c,.bool true]) G' H0:=
 ⟨s,by rw [cR (show yT i rs≠none from fun e=>by rw [e] at h;cases h)],fun z' h'=>by rw [h] at h';cases h';exact hx,rfl⟩
theorem Oi {i:Sl.Instr} {rs:List (List Int)} {H0:Hp} {G':Imm} (h:yT i rs=none):Lw i rs H0 (.tuple #[.slice none 0 0,.bool false]) G' H0:=
 ⟨⟨none,0,0⟩,by rw [bR (show ¬yT i rs≠none from fun e=>e h)],(fun z hz=>by rw [h] at hz;cases hz),rfl⟩
theorem uY {G:Imm} {s:Option Addr} {r:List IV} {d:Nat} {zs:List Int} (hA:Arr G s r) (hd:r.length≤d) (hB:Bigs G r zs):BRow G ⟨s,r.length,d⟩ zs:=⟨r,rfl,hd,hA,hB⟩
theorem Zw (xs:List Int):(xs.map fun x=>-1*x)=xs.map fun x=>-x:=by
 congr 1;funext x;rw [pC,fZ]
theorem Zx (xs ys:List Int):List.zipWith (fun x y=>x+1*y) xs ys=List.zipWith (·+·) xs ys:=by
 congr 1;funext x y;rw [fZ]
theorem Zy (xs ys:List Int):List.zipWith (fun x y=>x+(-1)*y) xs ys=List.zipWith (· - ·) xs ys:=by
 congr 1;funext x y;rw [pC,fZ];rfl
theorem QB (G:Imm) (i:Sl.Instr) (o:Option Addr) (d:Nat) (r:List SV) (j:List Value) (rs:List (List Int)) (m N:Nat) (hob:OwnA o d r j) (hg:BGrid G r rs) (hm:EvenB m N rs) (hN:N≤1048576) (hm2:m≤268435456)
 (hop:1≤i.op∧i.op≤8) (ha:0≤i.a∧i.a<r.length) (hb:0≤i.b∧i.b<r.length)
 (hcst:i.op≠1→i.op≠2→i.op≠3→i.op≠4→cst i≠0∧((cst i).natAbs:Int)<pb 3)
 (hc1:i.op=5∨i.op=6→-9223372036854775808≤i.c∧i.c≤9223372036854775807) (hc2:¬(i.op=5∨i.op=6)→0≤i.c∧i.c≤64) :
 Does Tryz.prog 292 [Zv,.slice o r.length d,.agg (Cells.enc i).toArray] G [(0,o.map (·.block),rP 39 r j)] (fun v G' Ho=>Lw i rs [(0,o.map (·.block),rP 39 r j)] v G' Ho):=by
 have hca:=hob.le
 obtain ⟨la,a1,a2,a3,a4⟩:=hg.2 i.a.toNat qX
 obtain ⟨lb,b1,b2,b3,b4⟩:=hg.2 i.b.toNat qX
 have hrl:=hg.1
 obtain ⟨na,ma⟩:=hm.at (k:=i.a.toNat) qX
 obtain ⟨nb,mb⟩:=hm.at (k:=i.b.toNat) qX
 have hla:la.length≤1048576:=by rw [a4.1,na];exact hN
 have hlab:la.length=lb.length:=by rw [a4.1,b4.1,na,nb]
 refine D0 Tryz.func292 Tryz.ntmps292 fun w=>?_
 have h118:=PQ G _ (r[i.a.toNat]?.getD default).c la _ m a3 a4 ma hm2 hla
 have h119:=PX G _ _ (r[i.a.toNat]?.getD default).c (r[i.b.toNat]?.getD default).c la lb _ _ m a3 b3 a4 b4 ma mb hm2 hlab hla
 have h121:=PY G _ _ (r[i.a.toNat]?.getD default).c (r[i.b.toNat]?.getD default).c la lb _ _ m a3 b3 a4 b4 ma mb hm2 hlab hla
 rw [a1] at h118
 rw [a1,b1] at h119 h121
 have h123:∀ G1 y z,G.le G1→Big G1 y z→y.n≤268435456→Does Tryz.prog 298 [.slice (r[i.a.toNat]?.getD default).a (r[i.a.toNat]?.getD default).n (r[i.a.toNat]?.getD default).c,.agg (Cells.enc y).toArray] G1 [] (fun v G' Ho=>At G' v ((rs[i.a.toNat]?.getD []).map fun x=>z*x)∧Ho=[]):=fun G1 y z hG hy hyn=>by
  have h:=PU G1 _ (r[i.a.toNat]?.getD default).c la _ y z m (a3.up hG) (a4.up hG) ma hm2 hla hy hyn
  rw [a1] at h;exact h
 have h124:∀ G1 y z,G.le G1→Big G1 y z→y.n≤268435456→z≠0→Does Tryz.prog 299 [.slice (r[i.a.toNat]?.getD default).a (r[i.a.toNat]?.getD default).n (r[i.a.toNat]?.getD default).c,.agg (Cells.enc y).toArray] G1 [] (fun v G' Ho=>(wB z (rs[i.a.toNat]?.getD [])→∃ (s:Option Addr) (r':List IV) (d:Nat),v=.tuple #[.slice s r'.length d,.bool true]∧Arr G' s r'∧r'.length≤d∧Bigs G' r' ((rs[i.a.toNat]?.getD []).map (· / z)))∧
  (¬wB z (rs[i.a.toNat]?.getD [])→v=.tuple #[.slice none 0 0,.bool false])∧Ho=[]):=fun G1 y z hG hy hyn hz=>by
  have h:=PZ G1 _ (r[i.a.toNat]?.getD default).c la _ y z m (a3.up hG) (a4.up hG) ma hm2 hla hy hyn hz
  rw [a1] at h;exact h
 by_cases h2:i.op=2
 · refine aM 2 [] ?_
   refine dY 1 fun b5=>?_
   refine dY 2 fun b6=>?_
   refine bP 5 [] ?_
   refine eZ [0,1,2] [] T.mixed [[0],[1],[2,2]] ?_
   refine kC (α:=SV) 3 T.sl86 ?_
   refine lD 4 0 0 T.one39 ?_
   refine fE [[5],[6],[7,2]] ?_
   refine kC (α:=SV) 8 T.sl86 ?_
   refine lD 9 0 0 T.one39 ?_
   refine fE [[10],[11]] ?_
   refine eI ?_
   refine pX 21 [2,1,1] ?_
   refine fX (fst:=[]) (cap:=[]) 3 rfl T.fn293 rfl rfl (h118) (sE trivial) fun v1 G1 Ho1 hle1 hp=>?_
   obtain ⟨⟨s1,r1,d1,rfl,hA1,hl81,hB1⟩,rfl⟩:=hp
   replace a3:=a3.up hle1
   replace a4:=a4.up hle1
   replace b3:=b3.up hle1
   replace b4:=b4.up hle1
   refine bA 7 [] ?_
   refine qM [0] ?_
   exact vJ (by unfold yT;simp only [h2,dN];rw [Zw]) (uY hA1 hl81 hB1)
 by_cases h3:i.op=3
 · refine aM 2 [] ?_
   refine dY 1 fun b5=>?_
   refine dY 2 fun b6=>?_
   refine bP 5 [] ?_
   refine eZ [0,1,2] [] T.mixed [[0],[1],[2,2]] ?_
   refine kC (α:=SV) 3 T.sl86 ?_
   refine lD 4 0 0 T.one39 ?_
   refine fE [[5],[6],[7,2]] ?_
   refine kC (α:=SV) 8 T.sl86 ?_
   refine lD 9 0 0 T.one39 ?_
   refine fE [[10],[11]] ?_
   refine eI ?_
   refine pX 29 [2,0,1,1] ?_
   refine fX (fst:=[]) (cap:=[]) 3 rfl T.fn294 rfl rfl (h119) (sE trivial) fun v1 G1 Ho1 hle1 hp=>?_
   obtain ⟨⟨s1,r1,d1,rfl,hA1,hl81,hB1⟩,rfl⟩:=hp
   replace a3:=a3.up hle1
   replace a4:=a4.up hle1
   replace b3:=b3.up hle1
   replace b4:=b4.up hle1
   refine bA 7 [] ?_
   refine qM [0] ?_
   exact vJ (by unfold yT;simp only [h3,dN];rw [aF (by decide),Zx]) (uY hA1 hl81 hB1)
 by_cases h4:i.op=4
 · refine aM 2 [] ?_
   refine dY 1 fun b5=>?_
   refine dY 2 fun b6=>?_
   refine bP 5 [] ?_
   refine eZ [0,1,2] [] T.mixed [[0],[1],[2,2]] ?_
   refine kC (α:=SV) 3 T.sl86 ?_
   refine lD 4 0 0 T.one39 ?_
   refine fE [[5],[6],[7,2]] ?_
   refine kC (α:=SV) 8 T.sl86 ?_
   refine lD 9 0 0 T.one39 ?_
   refine fE [[10],[11]] ?_
   refine eI ?_
   refine pX 36 [2,0,0,1,1] ?_
   refine fX (fst:=[]) (cap:=[]) 3 rfl T.fn296 rfl rfl (h121) (sE trivial) fun v1 G1 Ho1 hle1 hp=>?_
   obtain ⟨⟨s1,r1,d1,rfl,hA1,hl81,hB1⟩,rfl⟩:=hp
   replace a3:=a3.up hle1
   replace a4:=a4.up hle1
   replace b3:=b3.up hle1
   replace b4:=b4.up hle1
   refine bA 7 [] ?_
   refine qM [0] ?_
   exact vJ (by unfold yT;simp only [h4,dN];rw [aF (by decide),aF (by decide),Zy]) (uY hA1 hl81 hB1)
 by_cases h1:i.op=1
 · refine aM 2 [] ?_
   refine dY 1 fun b5=>?_
   refine dY 2 fun b6=>?_
   refine bP 5 [] ?_
   refine eZ [0,1,2] [] T.mixed [[0],[1],[2,2]] ?_
   refine kC (α:=SV) 3 T.sl86 ?_
   refine lD 4 0 0 T.one39 ?_
   refine fE [[5],[6],[7,2]] ?_
   refine kC (α:=SV) 8 T.sl86 ?_
   refine lD 9 0 0 T.one39 ?_
   refine fE [[10],[11]] ?_
   refine eI ?_
   refine iN 69 [2,0,0,0,0,0,0,0] ?_
   refine qM [0] ?_
   exact vJ (by unfold yT;simp only [h1];rfl) ⟨la,a1,a2,a3,a4⟩
 obtain ⟨hk0,hk3⟩:=hcst h1 h2 h3 h4
 by_cases h5:i.op=5
 · have hc9:=hc1 (.inl h5)
   have e5:cst i=i.c:=Zk (.inl h5)
   rw [e5] at hk3
   refine aM 2 [] ?_
   refine dY 1 fun b5=>?_
   refine dY 2 fun b6=>?_
   refine bP 5 [] ?_
   refine eZ [0,1,2] [] T.mixed [[0],[1],[2,2]] ?_
   refine kC (α:=SV) 3 T.sl86 ?_
   refine lD 4 0 0 T.one39 ?_
   refine fE [[5],[6],[7,2]] ?_
   refine kC (α:=SV) 8 T.sl86 ?_
   refine lD 9 0 0 T.one39 ?_
   refine fE [[10],[11]] ?_
   refine eI ?_
   refine oS 38 [2,0,0,0,1] ?_
   refine eZ [0,1,2] [(2,6),(1,6),(0,6)] T.mixed [[0],[1,1],[2],[3]] ?_
   refine gC 4 ?_
   refine aC 1 [2] ?_
   refine cT 5 ?_
   refine cX 3 rfl (CN _ i.c hc9) fun v1 G1 Ho1 hle1 hp=>?_
   obtain ⟨rk,rfl,hrk,rfl⟩:=hp
   replace a3:=a3.up hle1
   replace a4:=a4.up hle1
   replace b3:=b3.up hle1
   replace b4:=b4.up hle1
   refine cT 6 ?_
   refine fX (fst:=[]) (cap:=[]) 3 rfl T.fn298 rfl rfl (h123 _ rk _ qY hrk (aK (gM hrk hk3) rI)) (sE trivial) fun v2 G2 Ho2 hle2 hp=>?_
   obtain ⟨⟨s2,r2,d2,rfl,hA2,hl82,hB2⟩,rfl⟩:=hp
   replace hrk:=hrk.up hle2
   replace a3:=a3.up hle2
   replace a4:=a4.up hle2
   replace b3:=b3.up hle2
   replace b4:=b4.up hle2
   refine eU ?_
   refine fE [[7],[8]] ?_
   refine eI ?_
   refine iN 4 [] ?_
   refine qM [0] ?_
   all_goals exact vJ (by unfold yT;simp only [h5,true_or,dN];rw [aF (by decide),aF (by decide),aF (by decide),e5]) (uY qY qY qY)
 by_cases h6:i.op=6
 · have hc9:=hc1 (.inr h6)
   have e5:cst i=i.c:=Zk (.inr h6)
   rw [e5] at hk3 hk0
   have h124Y:wB (i.c) (rs[i.a.toNat]?.getD [])→∀ G1 y,G.le G1→Big G1 y (i.c)→y.n≤268435456→Does Tryz.prog 299 [.slice (r[i.a.toNat]?.getD default).a (r[i.a.toNat]?.getD default).n (r[i.a.toNat]?.getD default).c,.agg (Cells.enc y).toArray] G1 [] (fun v G' Ho=>(∃ (s:Option Addr) (r':List IV) (d:Nat),v=.tuple #[.slice s r'.length d,.bool true]∧Arr G' s r'∧r'.length≤d∧Bigs G' r' ((rs[i.a.toNat]?.getD []).map (· / (i.c))))∧Ho=[]):=
    fun hd G1 y hG hy hyn=>(h124 G1 y _ hG hy hyn hk0).mono fun v G' Ho _ ⟨p1,p2,p3⟩=>⟨p1 hd,p3⟩
   have h124N:¬wB (i.c) (rs[i.a.toNat]?.getD [])→∀ G1 y,G.le G1→Big G1 y (i.c)→y.n≤268435456→Does Tryz.prog 299 [.slice (r[i.a.toNat]?.getD default).a (r[i.a.toNat]?.getD default).n (r[i.a.toNat]?.getD default).c,.agg (Cells.enc y).toArray] G1 [] (fun v G' Ho=>v=.tuple #[.slice none 0 0,.bool false]∧Ho=[]):=
    fun hd G1 y hG hy hyn=>(h124 G1 y _ hG hy hyn hk0).mono fun v G' Ho _ ⟨p1,p2,p3⟩=>⟨p2 hd,p3⟩
   by_cases hd:wB (i.c) (rs[i.a.toNat]?.getD [])
   · skip
     refine aM 2 [] ?_
     refine dY 1 fun b5=>?_
     refine dY 2 fun b6=>?_
     refine bP 5 [] ?_
     refine eZ [0,1,2] [] T.mixed [[0],[1],[2,2]] ?_
     refine kC (α:=SV) 3 T.sl86 ?_
     refine lD 4 0 0 T.one39 ?_
     refine fE [[5],[6],[7,2]] ?_
     refine kC (α:=SV) 8 T.sl86 ?_
     refine lD 9 0 0 T.one39 ?_
     refine fE [[10],[11]] ?_
     refine eI ?_
     refine oS 52 [2,0,0,0,0,0,1] ?_
     refine eZ [0,1,2] [(2,6),(1,6),(0,6)] T.mixed [[0],[1,1],[2],[3]] ?_
     refine gC 4 ?_
     refine aC 1 [2] ?_
     refine cT 5 ?_
     refine cX 3 rfl (CN _ i.c hc9) fun v1 G1 Ho1 hle1 hp=>?_
     obtain ⟨rk,rfl,hrk,rfl⟩:=hp
     replace a3:=a3.up hle1
     replace a4:=a4.up hle1
     replace b3:=b3.up hle1
     replace b4:=b4.up hle1
     refine cT 6 ?_
     refine fX (fst:=[]) (cap:=[]) 3 rfl T.fn299 rfl rfl (h124Y hd _ rk qY hrk (aK (gM hrk hk3) rI)) (sE trivial) fun v2 G2 Ho2 hle2 hp=>?_
     obtain ⟨⟨s2,r2,d2,rfl,hA2,hl82,hB2⟩,rfl⟩:=hp
     replace hrk:=hrk.up hle2
     replace a3:=a3.up hle2
     replace a4:=a4.up hle2
     replace b3:=b3.up hle2
     replace b4:=b4.up hle2
     refine eU ?_
     refine fE [[7],[8],[9],[10]] ?_
     refine eI ?_
     refine iN 4 [] ?_
     refine qM [0] ?_
     all_goals exact vJ (by unfold yT;simp only [h6,true_or,dN];first | (rw [aF (by decide),aF (by decide),aF (by decide),aF (by decide),e5,aT hd]) | (rw [aF (by decide),aF (by decide),aF (by decide),aF (by decide)];exact (by rw [e5];exact aT hd))) (uY qY qY qY)
   skip
   refine aM 2 [] ?_
   refine dY 1 fun b5=>?_
   refine dY 2 fun b6=>?_
   refine bP 5 [] ?_
   refine eZ [0,1,2] [] T.mixed [[0],[1],[2,2]] ?_
   refine kC (α:=SV) 3 T.sl86 ?_
   refine lD 4 0 0 T.one39 ?_
   refine fE [[5],[6],[7,2]] ?_
   refine kC (α:=SV) 8 T.sl86 ?_
   refine lD 9 0 0 T.one39 ?_
   refine fE [[10],[11]] ?_
   refine eI ?_
   refine oS 52 [2,0,0,0,0,0,1] ?_
   refine eZ [0,1,2] [(2,6),(1,6),(0,6)] T.mixed [[0],[1,1],[2],[3]] ?_
   refine gC 4 ?_
   refine aC 1 [2] ?_
   refine cT 5 ?_
   refine cX 3 rfl (CN _ i.c hc9) fun v1 G1 Ho1 hle1 hp=>?_
   obtain ⟨rk,rfl,hrk,rfl⟩:=hp
   replace a3:=a3.up hle1
   replace a4:=a4.up hle1
   replace b3:=b3.up hle1
   replace b4:=b4.up hle1
   refine cT 6 ?_
   refine fX (fst:=[]) (cap:=[]) 3 rfl T.fn299 rfl rfl (h124N hd _ rk qY hrk (aK (gM hrk hk3) rI)) (sE trivial) fun v2 G2 Ho2 hle2 hp=>?_
   obtain ⟨rfl,rfl⟩:=hp
   replace hrk:=hrk.up hle2
   replace a3:=a3.up hle2
   replace a4:=a4.up hle2
   replace b3:=b3.up hle2
   replace b4:=b4.up hle2
   refine eU ?_
   refine fE [[7],[8],[9],[10]] ?_
   refine eI ?_
   refine iN 4 [] ?_
   refine qM [0] ?_
   all_goals exact Oi (by unfold yT;simp only [h6,true_or,dN];rw [aF (by decide),aF (by decide),aF (by decide),aF (by decide),e5,aF hd])
 have hc64:=hc2 (fun h=>h.elim h5 h6)
 have e5:cst i=p2 i.c.toNat:=GJ (fun h=>h.elim h5 h6)
 rw [e5] at hk3 hk0
 by_cases h7:i.op=7
 · refine aM 2 [] ?_
   refine dY 1 fun b5=>?_
   refine dY 2 fun b6=>?_
   refine bP 5 [] ?_
   refine eZ [0,1,2] [] T.mixed [[0],[1],[2,2]] ?_
   refine kC (α:=SV) 3 T.sl86 ?_
   refine lD 4 0 0 T.one39 ?_
   refine fE [[5],[6],[7,2]] ?_
   refine kC (α:=SV) 8 T.sl86 ?_
   refine lD 9 0 0 T.one39 ?_
   refine fE [[10],[11]] ?_
   refine eI ?_
   refine oS 45 [2,0,0,0,0,1] ?_
   refine eZ [0,1,2] [(2,6),(1,6),(0,6)] T.mixed [[0],[1,1],[2],[3]] ?_
   refine gC 4 ?_
   refine aC 1 [2] ?_
   refine cT 5 ?_
   refine cX 3 rfl (Zu _ i.c hc64) fun v1 G1 Ho1 hle1 hp=>?_
   obtain ⟨rk,rfl,hrk,rfl⟩:=hp
   replace a3:=a3.up hle1
   replace a4:=a4.up hle1
   replace b3:=b3.up hle1
   replace b4:=b4.up hle1
   refine cT 6 ?_
   refine fX (fst:=[]) (cap:=[]) 3 rfl T.fn298 rfl rfl (h123 _ rk _ qY hrk (aK (gM hrk hk3) rI)) (sE trivial) fun v2 G2 Ho2 hle2 hp=>?_
   obtain ⟨⟨s2,r2,d2,rfl,hA2,hl82,hB2⟩,rfl⟩:=hp
   replace hrk:=hrk.up hle2
   replace a3:=a3.up hle2
   replace a4:=a4.up hle2
   replace b3:=b3.up hle2
   replace b4:=b4.up hle2
   refine eU ?_
   refine fE [[7],[8]] ?_
   refine eI ?_
   refine iN 4 [] ?_
   refine qM [0] ?_
   all_goals exact vJ (by unfold yT;simp only [h7,or_true,dN];rw [aF (by decide),aF (by decide),aF (by decide),e5]) (uY qY qY qY)
 have h8:i.op=8:=qX
 have h124Y:wB (p2 i.c.toNat) (rs[i.a.toNat]?.getD [])→∀ G1 y,G.le G1→Big G1 y (p2 i.c.toNat)→y.n≤268435456→Does Tryz.prog 299 [.slice (r[i.a.toNat]?.getD default).a (r[i.a.toNat]?.getD default).n (r[i.a.toNat]?.getD default).c,.agg (Cells.enc y).toArray] G1 [] (fun v G' Ho=>(∃ (s:Option Addr) (r':List IV) (d:Nat),v=.tuple #[.slice s r'.length d,.bool true]∧Arr G' s r'∧r'.length≤d∧Bigs G' r' ((rs[i.a.toNat]?.getD []).map (· / (p2 i.c.toNat))))∧Ho=[]):=
  fun hd G1 y hG hy hyn=>(h124 G1 y _ hG hy hyn hk0).mono fun v G' Ho _ ⟨p1,p2,p3⟩=>⟨p1 hd,p3⟩
 have h124N:¬wB (p2 i.c.toNat) (rs[i.a.toNat]?.getD [])→∀ G1 y,G.le G1→Big G1 y (p2 i.c.toNat)→y.n≤268435456→Does Tryz.prog 299 [.slice (r[i.a.toNat]?.getD default).a (r[i.a.toNat]?.getD default).n (r[i.a.toNat]?.getD default).c,.agg (Cells.enc y).toArray] G1 [] (fun v G' Ho=>v=.tuple #[.slice none 0 0,.bool false]∧Ho=[]):=
  fun hd G1 y hG hy hyn=>(h124 G1 y _ hG hy hyn hk0).mono fun v G' Ho _ ⟨p1,p2,p3⟩=>⟨p2 hd,p3⟩
 by_cases hd:wB (p2 i.c.toNat) (rs[i.a.toNat]?.getD [])
 · skip
   refine aM 2 [] ?_
   refine dY 1 fun b5=>?_
   refine dY 2 fun b6=>?_
   refine bP 5 [] ?_
   refine eZ [0,1,2] [] T.mixed [[0],[1],[2,2]] ?_
   refine kC (α:=SV) 3 T.sl86 ?_
   refine lD 4 0 0 T.one39 ?_
   refine fE [[5],[6],[7,2]] ?_
   refine kC (α:=SV) 8 T.sl86 ?_
   refine lD 9 0 0 T.one39 ?_
   refine fE [[10],[11]] ?_
   refine eI ?_
   refine oS 59 [2,0,0,0,0,0,0,1] ?_
   refine eZ [0,1,2] [(2,6),(1,6),(0,6)] T.mixed [[0],[1,1],[2],[3]] ?_
   refine gC 4 ?_
   refine aC 1 [2] ?_
   refine cT 5 ?_
   refine cX 3 rfl (Zu _ i.c hc64) fun v1 G1 Ho1 hle1 hp=>?_
   obtain ⟨rk,rfl,hrk,rfl⟩:=hp
   replace a3:=a3.up hle1
   replace a4:=a4.up hle1
   replace b3:=b3.up hle1
   replace b4:=b4.up hle1
   refine cT 6 ?_
   refine fX (fst:=[]) (cap:=[]) 3 rfl T.fn299 rfl rfl (h124Y hd _ rk qY hrk (aK (gM hrk hk3) rI)) (sE trivial) fun v2 G2 Ho2 hle2 hp=>?_
   obtain ⟨⟨s2,r2,d2,rfl,hA2,hl82,hB2⟩,rfl⟩:=hp
   replace hrk:=hrk.up hle2
   replace a3:=a3.up hle2
   replace a4:=a4.up hle2
   replace b3:=b3.up hle2
   replace b4:=b4.up hle2
   refine eU ?_
   refine fE [[7],[8],[9],[10]] ?_
   refine eI ?_
   refine iN 4 [] ?_
   refine qM [0] ?_
   all_goals exact vJ (by unfold yT;simp only [h8,or_true,dN];first | (rw [aF (by decide),aF (by decide),aF (by decide),aF (by decide),e5,aT hd]) | (rw [aF (by decide),aF (by decide),aF (by decide),aF (by decide)];exact (by rw [e5];exact aT hd))) (uY qY qY qY)
 skip
 refine aM 2 [] ?_
 refine dY 1 fun b5=>?_
 refine dY 2 fun b6=>?_
 refine bP 5 [] ?_
 refine eZ [0,1,2] [] T.mixed [[0],[1],[2,2]] ?_
 refine kC (α:=SV) 3 T.sl86 ?_
 refine lD 4 0 0 T.one39 ?_
 refine fE [[5],[6],[7,2]] ?_
 refine kC (α:=SV) 8 T.sl86 ?_
 refine lD 9 0 0 T.one39 ?_
 refine fE [[10],[11]] ?_
 refine eI ?_
 refine oS 59 [2,0,0,0,0,0,0,1] ?_
 refine eZ [0,1,2] [(2,6),(1,6),(0,6)] T.mixed [[0],[1,1],[2],[3]] ?_
 refine gC 4 ?_
 refine aC 1 [2] ?_
 refine cT 5 ?_
 refine cX 3 rfl (Zu _ i.c hc64) fun v1 G1 Ho1 hle1 hp=>?_
 obtain ⟨rk,rfl,hrk,rfl⟩:=hp
 replace a3:=a3.up hle1
 replace a4:=a4.up hle1
 replace b3:=b3.up hle1
 replace b4:=b4.up hle1
 refine cT 6 ?_
 refine fX (fst:=[]) (cap:=[]) 3 rfl T.fn299 rfl rfl (h124N hd _ rk qY hrk (aK (gM hrk hk3) rI)) (sE trivial) fun v2 G2 Ho2 hle2 hp=>?_
 obtain ⟨rfl,rfl⟩:=hp
 replace hrk:=hrk.up hle2
 replace a3:=a3.up hle2
 replace a4:=a4.up hle2
 replace b3:=b3.up hle2
 replace b4:=b4.up hle2
 refine eU ?_
 refine fE [[7],[8],[9],[10]] ?_
 refine eI ?_
 refine iN 4 [] ?_
 refine qM [0] ?_
 all_goals exact Oi (by unfold yT;simp only [h8,or_true,dN];rw [aF (by decide),aF (by decide),aF (by decide),aF (by decide),e5,aF hd])
end
theorem zL {m k:Nat} {xs:List Int} {f:Int→Int} (h:∀ x:Int,(x.natAbs:Int)<pb m→((f x).natAbs:Int)<pb k) (hx:Below m xs):Below k (xs.map f):=fun z hz=>by
 obtain ⟨x,h1,rfl⟩:=dD.1 hz
 exact h x (hx x h1)
theorem Gi {m k:Nat} {xs ys:List Int} {f:Int→Int→Int} (h:∀ x y:Int,(x.natAbs:Int)<pb m→(y.natAbs:Int)<pb m→((f x y).natAbs:Int)<pb k) (hx:Below m xs) (hy:Below m ys):Below k (List.zipWith f xs ys):=fun z hz=>by
 rw [oZ] at hz
 obtain ⟨n,hn,rfl⟩:=hz
 rw [List.getElem_zipWith]
 exact h _ _ (hx _ (eR _)) (hy _ (eR _))
theorem Vr {i:Sl.Instr} {rs:List (List Int)} {m N:Nat} {x:List Int} (he:EvenB m N rs) (ha:0≤i.a∧i.a<rs.length) (hb:i.op=3∨i.op=4→0≤i.b∧i.b<rs.length)
 (hz:i.op=5∨i.op=7→((cst i).natAbs:Int)<pb 3) (h:yT i rs=some x):x.length=N∧Below (m+3) x:=by
 obtain ⟨haL,haB⟩:=he.at (k:=i.a.toNat) qX
 have hp:=uK m
 have h4:4294967296*pb m≤pb (m+3):=by rw [←tZ];exact Jm qX
 unfold yT at h
 simp only at h
 split at h
 · cases h
   exact ⟨by rw [bZ];exact haL,zL (fun x hx=>by omega) haB⟩
 split at h
 · rename_i h3
   obtain ⟨hbL,hbB⟩:=he.at (k:=i.b.toNat) (by have:=hb (.inl h3);omega)
   cases h
   exact ⟨by rw [mL,haL,hbL,Nat.min_self],Gi (fun x y hx hy=>by omega) haB hbB⟩
 split at h
 · rename_i h4
   obtain ⟨hbL,hbB⟩:=he.at (k:=i.b.toNat) (by have:=hb (.inr h4);omega)
   cases h
   exact ⟨by rw [mL,haL,hbL,Nat.min_self],Gi (fun x y hx hy=>by omega) haB hbB⟩
 split at h
 · rename_i h57
   cases h
   exact ⟨by rw [bZ];exact haL,zL (fun x hx=>by rw [Nat.add_comm];exact Vn (hz h57) hx) haB⟩
 split at h
 · split at h
   · cases h
     refine ⟨by rw [bZ];exact haL,zL (fun x hx=>?_) haB⟩
     have h1:(x / cst i).natAbs≤x.natAbs:=Int.natAbs_ediv_le_natAbs _ _
     omega
   cases h
 cases h
 exact ⟨haL,haB.mono qX⟩
theorem EvenB.mono {m k N:Nat} {rs:List (List Int)} (h:EvenB m N rs) (hk:m≤k):EvenB k N rs:=fun zs hz=>⟨(h zs hz).1,(h zs hz).2.mono hk⟩
theorem Vs {m N:Nat} {rs:List (List Int)} {x:List Int} (h:EvenB m N rs) (hx:x.length=N∧Below m x) (k:Nat):EvenB m N (rs.set k x):=fun zs hz=>by
 rcases kB hz with h1 | h1
 · exact h zs h1
 rw [h1];exact hx
theorem BGrid.set {G:Imm} {r:List SV} {rs:List (List Int)} (h:BGrid G r rs) {s:SV} {x:List Int} (hs:BRow G s x) (k:Nat):BGrid G (r.set k s) (rs.set k x):=by
 refine ⟨by rw [aI,aI];exact h.1,fun i hi=>?_⟩
 rw [aI] at hi
 have hrl:=h.1
 rw [fO,fO]
 by_cases e:k=i
 · subst e
   rw [aT rfl,aT rfl,aT hi,aT (by omega)]
   exact hs
 rw [aF e,aF e]
 exact h.2 i hi
section
attribute [local irreducible] qZ pb sG rM p2 cst yT
theorem QC (G:Imm) (k:Int) (s:SV):Does Tryz.prog 252 [.int .i64 k,.slice s.a s.n s.c] G [] (fun v G' Ho=>v=.bool true∧G'=G∧Ho=[]):=by
 refine D0 Tryz.func252 Tryz.ntmps252 fun w=>?_
 refine bQ 11 [] ?_
 refine cI ?_
 exact ⟨rfl,rfl,rfl⟩
def Zz (p:PV) (gs:List (List Int)) (m N:Nat) (o:Option Addr) (d:Nat) (r:List SV) (j:List Value) (v:Value) (G':Imm) (Ho:Hp):Prop:=
 ∃ (r':List SV) (k:Int),v=.int .i64 k∧Ho=[(0,o.map (·.block),rP 39 r' j)]∧r'.length=r.length∧OwnA o d r' j∧
  ((∃ rs',wP p gs p.code.length=some rs'∧k=-1∧BGrid G' r' rs'∧EvenB (m+3*p.code.length) N rs')∨(sS p gs=none∧0≤k))
theorem QD (G:Imm) (p:PV) (gs:List (List Int)) (ac ao:Option Addr) (cc co:Nat) (o:Option Addr) (d:Nat) (r:List SV) (j:List Value) (m N:Nat) (hc:Arr G ac p.code) (hob:OwnA o d r j) (hg:BGrid G r (wO p gs)) (hm:EvenB m N (wO p gs)) (hN:N≤1048576)
 (hmm:m+3*p.code.length≤268435456) (hlen:p.code.length≤16384) (hr:(r.length:Int)=p.regs) (hrr:r.length≤128) (hmay:∀ i∈p.code,wA i p.regs=true) :
 Does Tryz.prog 250 [Zv,.agg #[.int .i64 p.ins,.int .i64 p.regs,.slice ac p.code.length cc,.slice ao p.outs.length co],.slice o r.length d,.func (.func 252) #[] #[]] G [(0,o.map (·.block),rP 39 r j)] (Zz p gs m N o d r j):=by
 refine D0 Tryz.func250 Tryz.ntmps250 fun w=>?_
 refine aM 2 [] ?_
 refine dY 1 fun b1=>?_
 refine dY 2 fun b2=>?_
 refine bP 3 [] ?_
 refine Wc.scope ?_
 refine cZ 13 [2] ?_
 refine Wc.lg (ι:=Nat×Imm×List SV×List (List Int)) (fun (i,Gx,r2,rs)=>([(16,.int .i64 (i:Int)),(2,.slice o r2.length d),(15,.int .i64 (↑p.code.length:Int)),(14,.slice ac p.code.length cc),(4,.pointer (some ⟨b1,0,none⟩)),(3,.func (Go.Fn.func 252) #[] #[])],[(0,o.map (·.block),rP 39 r2 j),(2,some b2,.cells #[.int .i64 p.ins,.int .i64 p.regs,.slice ac p.code.length cc,.slice ao p.outs.length co] 26),(1,some b1,.cells #[.func (Go.Fn.func 293) #[] #[],.func (Go.Fn.func 294) #[] #[],.func (Go.Fn.func 296) #[] #[],.func (Go.Fn.func 298) #[] #[],.func (Go.Fn.func 299) #[] #[]] 352)])) (fun (i,Gx,r2,rs)=>Gx) (fun (i,Gx,r2,rs)=>i≤p.code.length∧G.le Gx∧r2.length=r.length∧OwnA o d r2 j∧BGrid Gx r2 rs∧EvenB (m+3*i) N rs∧wP p gs i=some rs) (fun (i,Gx,r2,rs)=>p.code.length - i) ((0,G,r,wO p gs)) (⟨aZ _,cC _,rfl,hob,hg,hm,rfl⟩) fun ⟨i,Gx,r2,rs⟩=>fun hk=>?_
 obtain ⟨hi0,hgx,hr2,ho2,hg2,hb2,hrun⟩:=hk
 replace hc:=hc.up hgx
 have hrl:=hg2.1
 rcases aR i p.code.length with hic | hic
 · have hmem:(p.code[(i:Int).toNat]?.getD default)∈p.code:=by
    rw [aN,aD hic];exact eR hic
   have hmi:=hmay _ hmem
   obtain ⟨m1,m2,m3,m4,m5,m6,m7,m8⟩:=Vg hmi
   have m9:(p.code[(i:Int).toNat]?.getD default).a<rs.length:=qX
   have hbz:(p.code[(i:Int).toNat]?.getD default).op=3∨(p.code[(i:Int).toNat]?.getD default).op=4∨(p.code[(i:Int).toNat]?.getD default).b=0:=by
    unfold wA at hmi
    rw [aA,aA,aS] at hmi
    exact hmi.1.1.2.2.2.2
   have mb:0≤(p.code[(i:Int).toNat]?.getD default).b∧(p.code[(i:Int).toNat]?.getD default).b<r2.length:=by
    rcases hbz with h | h | h
    · have:=m4 (.inl h);omega
    · have:=m4 (.inr h);omega
    omega
   have mt:0≤(p.code[(i:Int).toNat]?.getD default).to∧(p.code[(i:Int).toNat]?.getD default).to<r2.length:=qX
   have ma:0≤(p.code[(i:Int).toNat]?.getD default).a∧(p.code[(i:Int).toNat]?.getD default).a<r2.length:=qX
   have hmi9:m+3*i≤268435456:=qX
   have hk3:(p.code[(i:Int).toNat]?.getD default).op≠1→(p.code[(i:Int).toNat]?.getD default).op≠2→(p.code[(i:Int).toNat]?.getD default).op≠3→(p.code[(i:Int).toNat]?.getD default).op≠4→cst (p.code[(i:Int).toNat]?.getD default)≠0∧((cst (p.code[(i:Int).toNat]?.getD default)).natAbs:Int)<pb 3:=fun a b c d=>⟨(m6 a b c d).1,nH (m6 a b c d).2 ES⟩
   refine aM 14 [1] ?_
   refine eO (α:=Sl.Instr) T.sl23 ?_
   refine nA T.agg211 ?_
   refine aW 3 rfl T.zero211 fun b3=>?_
   refine aL 9 [3,1,3] ?_
   refine cX 0 rfl (QB _ (p.code[(i:Int).toNat]?.getD default) o d r2 j rs (m+3*i) N ho2 hg2 hb2 hN hmi9 m1 ma mb hk3 m7 m8) fun v1 G1 Ho1 hle1 hp=>?_
   obtain ⟨x,rfl,hx,rfl⟩:=hp
   replace hc:=hc.up hle1
   replace hg2:=hg2.up hle1
   by_cases hd:yT (p.code[((i:Nat):Int).toNat]?.getD default) rs=none
   · have hd2:¬yT (p.code[(i:Int).toNat]?.getD default) rs≠none:=fun h=>h hd
     refine aL 11 [] ?_
     refine aP (eK rfl) ?_
     refine bA 16 [1] ?_
     refine pS ?_
     refine pW [0] ?_
     exact ⟨r2,(i:Int),rfl,rfl,hr2,ho2,.inr ⟨Qm hrun hd hic,by omega⟩⟩
   obtain ⟨z,hz⟩:=Option.ne_none_iff_exists'.1 hd
   have hxz:=hx z hz
   have hok:yT (p.code[(i:Int).toNat]?.getD default) rs≠none:=hd
   refine aL 11 [] ?_
   refine aP (eK rfl) ?_
   refine bP 2 [] ?_
   refine eX (fun hc1=>?_) fun hc1=>?_
   refine bQ 13 [] ?_
   refine pS ?_
   refine pW [0] ?_
   rotate_left
   refine aM 8 [3] ?_
   refine jE (α:=SV) T.sl86 ?_
   refine fS (z:=_) 0 T.size39 rfl rfl rfl qY qX rfl fun ho1=>?_
   refine aL 7 [] ?_
   refine fX (fst:=[]) (cap:=[]) 4 rfl T.fn252 rfl rfl (QC _ _ _) (sE trivial) fun v2 G2 Ho2 hle2 hp=>?_
   obtain ⟨rfl,rfl,rfl⟩:=hp
   refine bA 11 [0] ?_
   rotate_left
   · exact absurd hok hc1
   refine cS 2 rfl (show _=Value.slice o (r2.set (p.code[(i:Int).toNat]?.getD default).to.toNat x).length d by rw [aI]) ?_
   refine dX ((i+1,_,r2.set (p.code[(i:Int).toNat]?.getD default).to.toNat x,rs.set (p.code[(i:Int).toNat]?.getD default).to.toNat z)) ?_ ?_
   · refine ⟨by omega,bI hgx hle1,by rw [aI];exact hr2,by assumption,hg2.set hxz _,?_,Fs (x:=rs) hrun hz⟩
     have hs:=Vr (i:=p.code[(i:Int).toNat]?.getD default) hb2 (by rw [←hrl];exact ma) (fun _=>by rw [←hrl];exact mb) (fun h=>(hk3 (fun e=>by rw [e] at h;omega) (fun e=>by rw [e] at h;omega) (fun e=>by rw [e] at h;omega) (fun e=>by rw [e] at h;omega)).2) hz
     rw [show m+3*(i+1)=m+3*i+3 by omega]
     exact Vs (hb2.mono qX) hs _
   show p.code.length - (i+1)<p.code.length - i
   omega
 have hii:i=p.code.length:=qX
 subst hii
 refine bQ 18 [0] ?_
 refine pS ?_
 refine pW [0] ?_
 exact ⟨r2,-1,rfl,rfl,hr2,ho2,.inl ⟨rs,hrun,rfl,hg2,hb2⟩⟩
end
theorem Jw {G:Imm} {r:List SV} {rs:List (List Int)} {k:Nat} {s:SV} (h:∀ q:Nat,q<k→BRow G (r[q]?.getD default) (rs[q]?.getD [])) (hk:k<r.length) (hs:BRow G s (rs[k]?.getD [])):∀ q:Nat,q<k+1→BRow G ((r.set k s)[q]?.getD default) (rs[q]?.getD []):=fun q hq=>by
 rw [fO]
 by_cases he:k=q
 · subst he;rw [aT rfl,aT hk];exact hs
 rw [aF he];exact h q qX
theorem Oj {G G':Imm} {r:List SV} {rs:List (List Int)} {k:Nat} (h:∀ q:Nat,q<k→BRow G (r[q]?.getD default) (rs[q]?.getD [])) (hl:G.le G'):∀ q:Nat,q<k→BRow G' (r[q]?.getD default) (rs[q]?.getD []):=fun q hq=>(h q hq).up hl
section
attribute [local irreducible] qZ pb sG rM p2 cst yT
theorem QE (G:Imm) (p:PV) (ac ao ga:Option Addr) (cc co gc:Nat) (gl:List SV) (gs:List (List Int)) (m N:Nat) (hc:Arr G ac p.code) (ho:Arr G ao p.outs) (hga:Arr G ga gl) (hgg:BGrid G gl gs) (hev:EvenB m N gs) (hN:N≤4096) (hR:rJ p=true) (hgi:(gl.length:Int)=p.ins) :
 Does Tryz.prog 249 [.agg #[.int .i64 p.ins,.int .i64 p.regs,.slice ac p.code.length cc,.slice ao p.outs.length co],.slice ga gl.length gc] G [] (fun v G' Ho=>∃ b r,v=.tuple #[.slice (some ⟨b,0,none⟩) r.length p.regs.toNat,.int .i64 0]∧BGrid G' r (wO p gs)∧r.length=p.regs.toNat∧Ho=[(1,some b,rP 39 r [])]):=by
 obtain ⟨f1,f2,f3,f4,f5,f6,f7,f8⟩:=yF hR
 have h1:p.code.length≤1099511627776:=qX
 have h2:p.outs.length≤1099511627776:=qX
 have hgl:=hgg.1
 obtain ⟨R,hRR⟩:∃ R:Nat,p.regs=(R:Int):=⟨p.regs.toNat,by omega⟩
 refine D0 Tryz.func249 Tryz.ntmps249 fun w=>?_
 have hM:p.regs.toNat=R:=qX
 have hrl0:=Jo p gs
 rw [hM] at hrl0
 have hgl0:0<gl.length:=qX
 obtain ⟨h0L,h0B⟩:=hev.at (k:=0) qX
 obtain ⟨l0,e1,e2,e3,e4⟩:=hgg.2 0 qX
 have h0n:(gl[(0:Int).toNat]?.getD default).n=N:=by
  show (gl[0]?.getD default).n=N
  rw [←e1,e4.1,h0L]
 refine aM 2 [] ?_
 refine dY 0 fun b1=>?_
 refine aL 10 [0] ?_
 refine bS rfl (PM _ p _ _ _ _ qY qY h1 h2 hR _ hgi) ?_
 refine aL 15 [0] ?_
 refine eO (α:=SV) T.sl86 ?_
 refine dS rfl (dH T.one39 rfl (oE qY qX 0 rfl rfl)) ?_
 refine aL 8 [0] ?_
 refine jT (α:=SV) 1 rfl T.sl86 T.el39 rfl rfl qX qX fun b2=>?_
 refine bP 12 [] ?_
 rw [hM]
 have hown:∀ r:List SV,r.length=R→OwnA (some ⟨b2,0,none⟩) R r []:=fun r hr=>.inr ⟨b2,rfl,by rw [hr];rfl,by omega,by simp only [maxLen];omega⟩
 refine kR 8 rfl (show _=Value.slice (some ⟨b2,0,none⟩) (List.replicate R (default:SV)).length R by rw [aH]) ?_
 refine kR 7 rfl (show _=Value.int .i64 (N:Int) by rw [h0n]) ?_
 refine kR 25 rfl (show _=Value.int .i64 (R:Int) by rw [aH]) ?_
 refine Wc.lg (ι:=Nat×Imm×List SV) (fun (k,Gx,r)=>([(26,.int .i64 (k:Int)),(8,.slice (some ⟨b2,0,none⟩) r.length R),(25,.int .i64 (↑R:Int)),(7,.int .i64 (↑N:Int)),(1,.slice ga (List.length gl) gc)],[(1,some b2,rP 39 r []),(0,some b1,.cells #[.int .i64 p.ins,.int .i64 p.regs,.slice ac p.code.length cc,.slice ao p.outs.length co] 26)])) (fun (k,Gx,r)=>Gx) (fun (k,Gx,r)=>k≤R∧G.le Gx∧r.length=R∧∀ q:Nat,q<k→BRow Gx (r[q]?.getD default) ((wO p gs)[q]?.getD [])) (fun (k,Gx,r)=>R - k) ((0,G,List.replicate R (default:SV))) (⟨aZ _,cC _,aH,fun q hq=>by omega⟩) fun ⟨k,Gx,r⟩=>fun hk=>?_
 obtain ⟨hk0,hgx,hrR,hrow⟩:=hk
 replace hga:=hga.up hgx
 replace hgg:=hgg.up hgx
 have hor:=hown r hrR
 rcases aR k R with hkR | hkR
 · by_cases hkg:k<gl.length
   · have hkn:(gl[(k:Int).toNat]?.getD default).n=N:=by
      obtain ⟨l1,a1,a2,a3,a4⟩:=hgg.2 k hkg
      rw [aN,←a1,a4.1]
      exact (hev.at (k:=k) qX).1
     refine aM 22 [1] ?_
     refine jT (α:=IV) 2 rfl T.sl39 T.el89 rfl rfl qX qX fun b3=>?_
     refine jE (α:=SV) T.sl86 ?_
     refine kA 32 rfl (show _=Value.slice (some ⟨b3,0,none⟩) N N by rw [aH];rfl) ?_
     refine mZ 2 (rP 89 (List.replicate N (default:IV)) []) rfl rfl ?_
     refine fS (z:=(⟨some ⟨b3,0,none⟩,N,N⟩:SV)) (m:=(k:Int)) 1 T.size39 rfl rfl rfl hor qX rfl fun ho1=>?_
     have hrk:((r.set k (⟨some ⟨b3,0,none⟩,N,N⟩:SV))[k]?.getD default)=⟨some ⟨b3,0,none⟩,N,N⟩:=by rw [fO,aT rfl,aT (by omega)];rfl
     have ho3:OwnA (some ⟨b3,0,none⟩) N (List.replicate N (default:IV)) []:=.inr ⟨b3,rfl,by rw [aH];rfl,by rw [aH];exact aE _,by simp only [maxLen];omega⟩
     rw [aN] at ho1 ⊢
     obtain ⟨r9,hr9⟩:∃ r9,r9=r.set k (⟨some ⟨b3,0,none⟩,N,N⟩:SV):=⟨_,rfl⟩
     have hr9l:r9.length=R:=by rw [hr9,aI];exact hrR
     rw [←hr9] at ho1 hrk ⊢
     refine aL 16 [1] ?_
     refine eO (α:=SV) T.sl86 ?_
     refine iD 0 T.one39 ?_
     refine aC 4 [] ?_
     refine qF 45 ?_
     refine bP 10 [0] ?_
     refine eZ [0,2,1] [(1,8),(2,8)] T.mixed [[0],[1]] ?_
     refine kC (α:=SV) 2 T.sl86 ?_
     refine gQ 3 [0,1] rfl (Ac 1 0 T.one39 rfl rfl qY qX rfl rfl) ?_
     refine fE [[4],[5]] ?_
     refine qL (α:=SV) 6 T.sl86 ?_
     refine Ff 7 [0] 0 T.one39 ?_
     refine gC 8 ?_
     obtain ⟨l1,a1,a2,a3,a4⟩:=hgg.2 k hkg
     have hl1:l1.length=N:=by rw [a1];exact hkn
     refine kA 52 rfl (show _=Value.slice (some ⟨b3,0,none⟩) (List.replicate N (default:IV)).length N by rw [aN,hrk,aH]) ?_
     refine kA 56 rfl (show _=Value.slice (gl[k]?.getD default).a l1.length (gl[k]?.getD default).c by rw [a1];rfl) ?_
     refine Fl (α:=IV) 2 rfl T.sl39 rfl rfl rfl (oG a3) (by rw [hl1,aH];exact aE _) ?_
     refine mZ 2 (rP 89 l1 []) rfl (by rw [hl1,List.drop_replicate,mT,List.replicate_zero,eN]) ?_
     have ho4:OwnA (some ⟨b3,0,none⟩) N l1 []:=.inr ⟨b3,rfl,by rw [hl1];rfl,by rw [hl1];exact aE _,by simp only [maxLen];omega⟩
     refine jC ?_
     refine iN 6 [] ?_
     refine eT 2 rfl ho4 fun G1 hle1 hA1=>?_
     refine cS 8 rfl (show _=Value.slice (some ⟨b2,0,none⟩) r9.length R by rw [hr9l,hrR]) ?_
     refine dX ((k+1,G1,r9)) ?_ ?_
     · have hs9:BRow G1 ⟨some ⟨b3,0,none⟩,N,N⟩ ((wO p gs)[k]?.getD []):=by
        rw [Oa qX,aT (by omega)]
        exact ⟨l1,hl1,aE _,hA1,a4.up hle1⟩
       refine ⟨by omega,bI hgx hle1,hr9l,fun q hq=>?_⟩
       rw [hr9]
       exact Jw (Oj hrow hle1) qX hs9 q hq
     show R - (k+1)<R - k
     omega
   refine aM 22 [1] ?_
   refine jT (α:=IV) 2 rfl T.sl39 T.el89 rfl rfl qX qX fun b3=>?_
   refine jE (α:=SV) T.sl86 ?_
   refine kA 32 rfl (show _=Value.slice (some ⟨b3,0,none⟩) N N by rw [aH];rfl) ?_
   refine mZ 2 (rP 89 (List.replicate N (default:IV)) []) rfl rfl ?_
   refine fS (z:=(⟨some ⟨b3,0,none⟩,N,N⟩:SV)) (m:=(k:Int)) 1 T.size39 rfl rfl rfl hor qX rfl fun ho1=>?_
   have hrk:((r.set k (⟨some ⟨b3,0,none⟩,N,N⟩:SV))[k]?.getD default)=⟨some ⟨b3,0,none⟩,N,N⟩:=by rw [fO,aT rfl,aT (by omega)];rfl
   have ho3:OwnA (some ⟨b3,0,none⟩) N (List.replicate N (default:IV)) []:=.inr ⟨b3,rfl,by rw [aH];rfl,by rw [aH];exact aE _,by simp only [maxLen];omega⟩
   rw [aN] at ho1 ⊢
   obtain ⟨r9,hr9⟩:∃ r9,r9=r.set k (⟨some ⟨b3,0,none⟩,N,N⟩:SV):=⟨_,rfl⟩
   have hr9l:r9.length=R:=by rw [hr9,aI];exact hrR
   rw [←hr9] at ho1 hrk ⊢
   refine bA 18 [0] ?_
   refine eT 2 rfl ho3 fun G1 hle1 hA1=>?_
   refine cS 8 rfl (show _=Value.slice (some ⟨b2,0,none⟩) r9.length R by rw [hr9l,hrR]) ?_
   refine dX ((k+1,G1,r9)) ?_ ?_
   · have hs9:BRow G1 ⟨some ⟨b3,0,none⟩,N,N⟩ ((wO p gs)[k]?.getD []):=by
      rw [Oa qX,aF (by omega),h0L]
      exact ⟨_,aH,aE _,hA1,pZ _ _⟩
     refine ⟨by omega,bI hgx hle1,hr9l,fun q hq=>?_⟩
     rw [hr9]
     exact Jw (Oj hrow hle1) qX hs9 q hq
   show R - (k+1)<R - k
   omega
 refine bQ 20 [0] ?_
 refine oO (.inr rfl) (Ho:=[(1,some b2,rP 39 r [])]) rfl (.tmp rfl) (.tmp rfl) ⟨rfl,trivial⟩ ?_
 exact ⟨b2,r,rfl,⟨by omega,fun i hi=>hrow i qX⟩,hrR,rfl⟩
end
theorem Vt {G:Imm} {q:List SV} {os:List (List Int)} {i:Nat} {s:SV} (h:∀ t:Nat,t<i→BRow G (q[t]?.getD default) (os[t]?.getD [])) (hq:q.length=i) (hs:BRow G s (os[i]?.getD [])):∀ t:Nat,t<i+1→BRow G ((q++[s])[t]?.getD default) (os[t]?.getD []):=fun t ht=>by
 rcases aR t i with h1 | h1
 · rw [bE qX];exact h t h1
 have e:t=i:=qX
 subst e
 rw [cM qX,hq,mT];exact hs
theorem EV {p:PV} {rs:List (List Int)} {i:Nat} (hi:i<p.outs.length):(wU p rs)[i]?.getD []=rs[(p.outs[((i:Nat):Int).toNat]?.getD default).toNat]?.getD []:=by
 unfold wU
 rw [cG,aN,aD hi];rfl
section
attribute [local irreducible] qZ pb sG rM p2 cst yT
theorem QF (G:Imm) (a:Option Addr) (c:Nat) (l:List IV) (ha:Arr G a l) (hl:l.length≤1048576) :
 Does Tryz.prog 222 [.slice a l.length c] G [] (fun v G' Ho=>∃ s d,v=.slice s l.length d∧Arr G' s l∧l.length≤d∧Ho=[]):=by
 by_cases hne:a=none
 · have h0:l=[]:=by
    rcases ha.2 with h | ⟨b,o,h,_⟩
    · exact cA h
    rw [hne] at h;cases h
   subst hne
   subst h0
   have hyes:(none:Option Addr)=none:=rfl
   refine D0 Tryz.func222 Tryz.ntmps222 fun w=>?_
   refine aM 9 [] ?_
   refine aP (fA T.sl39 rfl rfl) ?_
   refine bA 10 [1] ?_
   refine cI ?_
   exact ⟨none,0,rfl,pQ _,aE _,rfl⟩
 refine D0 Tryz.func222 Tryz.ntmps222 fun w=>?_
 refine aM 9 [] ?_
 refine aP (fA T.sl39 rfl rfl) ?_
 refine aL 7 [0] ?_
 refine pM 0 rfl T.sl39 fun b1=>?_
 refine aC 1 [] ?_
 refine mZ 0 (rP 89 ([]:List IV) []) rfl rfl ?_
 refine lL (α:=IV) (xs:=[]) (ys:=l) (junk:=[]) 0 rfl T.sl39 T.el89 rfl rfl rfl (.inr ⟨b1,rfl,rfl,aE _,aZ _⟩) (oG ha) (by rw [cE];omega) Xd fun a1 c1 junk1 ho1=>?_
 rw [fD] at ho1 ⊢
 have hc1:=ho1.le
 refine bA 4 [] ?_
 refine eT 0 rfl ho1 fun G1 hle1 hA1=>?_
 refine cI ?_
 exact ⟨a1,c1,rfl,hA1,hc1,rfl⟩
def AA (p:PV) (gs:List (List Int)) (m N:Nat) (v:Value) (G':Imm) (Ho:Hp):Prop:=
 Ho=[]∧((∃ os b r c',sS p gs=some os∧v=.tuple #[.slice b (List.length r) c',.int .i64 0,.int .i64 0]∧Arr G' b r∧List.length r≤c'∧BGrid G' r os∧EvenB (m+3*p.code.length) N os)∨(sS p gs=none∧∃ k,v=.tuple #[.slice none 0 0,.int .i64 k,.int .i64 20]))
theorem KV (G:Imm) (p:PV) (ac ao ga:Option Addr) (cc co gc:Nat) (gl:List SV) (gs:List (List Int)) (m N:Nat) (hc:Arr G ac p.code) (ho:Arr G ao p.outs) (hga:Arr G ga gl) (hgg:BGrid G gl gs) (hev:EvenB m N gs) (hmm:m≤1048576) (hN:N≤4096) (hR:rJ p=true) (hgi:(gl.length:Int)=p.ins) :
 Does Tryz.prog 208 [.agg #[.int .i64 p.ins,.int .i64 p.regs,.slice ac p.code.length cc,.slice ao p.outs.length co],.slice ga gl.length gc] G [] (AA p gs m N):=by
 obtain ⟨f1,f2,f3,f4,f5,f6,f7,f8⟩:=yF hR
 obtain ⟨R,hRR⟩:∃ R:Nat,p.regs=(R:Int):=⟨p.regs.toNat,by omega⟩
 refine D0 Tryz.func208 Tryz.ntmps208 fun w=>?_
 refine jU 0 (rP 39 ([]:List SV) []) ?_
 refine aM 2 [] ?_
 refine dY 1 fun b1=>?_
 refine aL 9 [1] ?_
 refine cX 2 rfl (QE _ p ac ao ga cc co gc gl gs m N hc ho hga hgg hev hN hR hgi) fun v1 G1 Ho1 hle1 hp=>?_
 obtain ⟨b9,r0,rfl,hg0,hr0,rfl⟩:=hp
 replace hc:=hc.up hle1
 replace ho:=ho.up hle1
 have hrl0:=Jo p gs
 have hm0:EvenB m N (wO p gs):=fun zs hz=>by
  unfold wO at hz
  obtain ⟨k,hk,rfl⟩:=dD.1 hz
  have hN9:=(hev.at (k:=0) (by have:=hgg.1;omega)).1
  split
  · exact hev.at (k:=k) qX
  rw [hN9]
  exact ⟨aH,Og m _⟩
 refine bP 19 [0] ?_
 refine eZ [0,1,3] [(3,3),(1,3),(0,3)] T.mixed [[1,1],[2]] ?_
 refine gC 0 ?_
 refine bS rfl (QA _) ?_
 refine cT 3 ?_
 refine cX 3 rfl (QD _ p gs ac ao cc co (some ⟨b9,0,none⟩) p.regs.toNat r0 [] m N hc (.inr ⟨b9,rfl,by rw [hr0];rfl,by omega,by simp only [maxLen];omega⟩) hg0 hm0 qX qX f4 qX qX f8) fun v9 G9 Ho9 hle9 hp=>?_
 obtain ⟨r9,k9,rfl,rfl,hr9,ho9,hcase⟩:=hp
 replace ho:=ho.up hle9
 rcases hcase with ⟨rs,hrs,rfl,hg9,he9⟩ | ⟨hno,hk9⟩
 · have hrs1:=hg9.1
   have lr9:r9.length=R:=qX
   have hfol:sS p gs=some (wU p rs):=by unfold sS;rw [hrs];rfl
   refine eU ?_
   refine fE [[4]] ?_
   refine eI ?_
   refine oS 25 [0,1] ?_
   refine kR 7 rfl (show _=Value.slice (some ⟨b9,0,none⟩) r9.length p.regs.toNat by rw [hr9]) ?_
   refine nB (ι:=Nat×Imm×List SV×(Option Addr×Nat×List Value)) (fun (i,Gx,q,(o,d,j))=>([(32,.int .i64 (i:Int)),(10,.slice o q.length d),(7,.slice (some (Addr.mk b9 0 none)) (List.length r9) (Int.toNat p.regs)),(31,.int .i64 (↑p.outs.length:Int)),(30,.slice ao p.outs.length co),(6,.int .i64 0),(5,.int .i64 0),(4,.slice none 0 0)],[(0,o.map (·.block),rP 39 q j),(3,some b9,rP 39 r9 []),(1,some b1,.cells #[.int .i64 p.ins,.int .i64 p.regs,.slice ac p.code.length cc,.slice ao p.outs.length co] 26)])) (fun (i,Gx,q,(o,d,j))=>Gx) (fun (i,Gx,q,(o,d,j))=>i≤p.outs.length∧G9.le Gx∧q.length=i∧(∀ t:Nat,t<i→BRow Gx (q[t]?.getD default) ((wU p rs)[t]?.getD []))∧OwnA o d q j) (fun (i,Gx,q,(o,d,j))=>p.outs.length - i) ((0,G9,[],(none,0,[]))) (⟨aZ _,cC _,rfl,fun t ht=>by omega,gF⟩) rfl ⟨rfl,rfl,rfl,rfl,rfl,rfl,rfl,rfl,trivial⟩ ⟨rfl,rfl,rfl,trivial⟩ fun ⟨i,Gx,q,(o,d,j)⟩=>fun hk=>?_
   obtain ⟨hi0,hgx,hqi,hbq,hoq⟩:=hk
   replace ho:=ho.up hgx
   rcases aR i p.outs.length with hio | hio
   · have hmem:p.outs[(i:Int).toNat]?.getD default∈p.outs:=by
      rw [aN,aD hio];exact eR hio
     have hrg:=f7 _ hmem
     obtain ⟨l1,a1,a2,a3,a4⟩:=hg9.2 (p.outs[(i:Int).toNat]?.getD default).toNat qX
     have hN1:=(he9.at (k:=(p.outs[(i:Int).toNat]?.getD default).toNat) qX).1
     have hl1:l1.length=N:=by rw [a4.1,hN1]
     refine aM 13 [1] ?_
     refine eO (α:=Int) T.sl24 ?_
     refine iD 0 T.one3 ?_
     refine aL 7 [] ?_
     refine jE (α:=SV) T.sl86 ?_
     refine Wl.lo 3 0 T.one39 ?_
     refine kA 40 rfl (show _=Value.slice (r9[(p.outs[(i:Int).toNat]?.getD default).toNat]?.getD default).a l1.length (r9[(p.outs[(i:Int).toNat]?.getD default).toNat]?.getD default).c by rw [a1]) ?_
     refine cX 20 rfl (QF _ _ _ l1 (a3.up hgx) qX) fun v1 G2 Ho1 hle2 hp=>?_
     obtain ⟨s2,d2,rfl,hA2,hd2,rfl⟩:=hp
     refine iC (α:=SV) 4 [⟨_,_,_⟩] rfl T.sl86 T.el39 rfl rfl rfl rfl rfl fun b2=>?_
     refine Wl.ap (α:=SV) 0 T.sl86 T.el39 (nN 4 rfl) fun a1 c1 junk1 ho1=>?_
     refine bA 8 [] ?_
     refine dX ((i+1,G2,q++[⟨s2,l1.length,d2⟩],(a1,c1,junk1))) ?_ ?_
     · refine ⟨by omega,bI hgx hle2,by rw [aQ,hqi];rfl,Vt (fun t ht=>(hbq t ht).up hle2) hqi ?_,ho1⟩
       rw [EV hio]
       exact ⟨l1,rfl,hd2,hA2,a4.up (bI hgx hle2)⟩
     show p.outs.length - (i+1)<p.outs.length - i
     omega
   have hii:i=p.outs.length:=qX
   subst hii
   have hqd:=hoq.le
   refine bQ 21 [0] ?_
   refine eT 0 rfl hoq fun G8 hle8 hA=>?_
   refine zW (.inr rfl) (Ho:=[]) rfl (.tmp rfl) (.tmp rfl) (.tmp rfl) trivial ?_
   have hol:(wU p rs).length=p.outs.length:=by unfold wU;rw [bZ]
   refine ⟨rfl,.inl ⟨wU p rs,o,q,d,hfol,rfl,hA,hqd,⟨by omega,fun t ht=>(hbq t qX).up hle8⟩,fun zs hz=>?_⟩⟩
   unfold wU at hz
   obtain ⟨x,hx,rfl⟩:=dD.1 hz
   have hx7:=f7 x hx
   exact he9.at (k:=x.toNat) qX
 refine eU ?_
 refine fE [[4]] ?_
 refine eI ?_
 refine iN 18 [1] ?_
 refine zW (.inr rfl) (Ho:=[]) rfl (.tmp rfl) (.tmp rfl) (.tmp rfl) trivial ?_
 exact ⟨rfl,.inr ⟨hno,k9,rfl⟩⟩
end
section
attribute [local irreducible] qZ pb sG rM p2 cst yT
theorem QG (G:Imm) (n:Nat) (hn:n≤4096) :
 Does Tryz.prog 254 [.int .i64 (n:Int)] G [] (fun v G' Ho=>∃ b,v=.tuple #[.slice (some ⟨b,0,none⟩) (List.replicate n (default:IV)).length n,.int .i64 0]∧G'=G∧Ho=[(0,some b,rP 89 (List.replicate n (default:IV)) [])]):=by
 refine D0 Tryz.func254 Tryz.ntmps254 fun w=>?_
 refine aM 12 [] ?_
 refine qF 6 ?_
 refine aL 13 [0] ?_
 refine jT (α:=IV) 0 rfl T.sl39 T.el89 rfl rfl qX qX fun b1=>?_
 refine bA 5 [] ?_
 refine oO (.inr rfl) (Ho:=[(0,some b1,rP 89 (List.replicate n (default:IV)) [])]) rfl (.tmp rfl) (.tmp rfl) ⟨rfl,trivial⟩ ?_
 exact ⟨b1,by simp,rfl,rfl⟩
theorem QH (G:Imm) (n j:Nat) (hn:n≤4096) (hj:j<n) :
 Does Tryz.prog 212 [.int .i64 (n:Int),.int .i64 (j:Int)] G [] (fun v G' Ho=>∃ s l d,v=.tuple #[.slice s (List.length l) d,.int .i64 0]∧Arr G' s l∧List.length l=n∧n≤d∧Bigs G' l (tK n j)∧Ho=[]):=by
 refine D0 Tryz.func212 Tryz.ntmps212 fun w=>?_
 refine aM 9 [] ?_
 refine cX 0 rfl (QG _ n hn) fun v1 G1 Ho1 hle1 hp=>?_
 obtain ⟨b1,rfl,rfl,rfl⟩:=hp
 have ho3:OwnA (some ⟨b1,0,none⟩) n (List.replicate n (default:IV)) []:=.inr ⟨b1,rfl,by rw [aH];rfl,by rw [aH];exact aE _,by simp only [maxLen];omega⟩
 obtain ⟨r0,hr0⟩:∃ r0,r0=List.replicate n (default:IV):=⟨_,rfl⟩
 have lr0:r0.length=n:=by rw [hr0,aH]
 rw [←hr0] at ho3 ⊢
 refine aL 22 [0] ?_
 refine qF 20 ?_
 refine aL 18 [0] ?_
 refine cX 1 rfl (CN _ _ rI) fun v2 G2 Ho2 hle2 hp=>?_
 obtain ⟨ri2,rfl,hri2,rfl⟩:=hp
 refine jE (α:=IV) T.sl39 ?_
 refine fS (z:=ri2) (m:=(j:Int)) 0 T.size89 rfl rfl rfl ho3 qX rfl fun ho1=>?_
 have hB:Bigs G2 (r0.set j ri2) (tK n j):=by
  rw [hr0];unfold tK
  exact (pZ G2 n).set j hri2
 have hl9:(r0.set j ri2).length=n:=by rw [aI];exact lr0
 rw [aN] at ho1 ⊢
 obtain ⟨r9,hr9⟩:∃ r9,r9=r0.set j ri2:=⟨_,rfl⟩
 rw [←hr9] at ho1 hB hl9 ⊢
 refine bA 10 [] ?_
 refine eT 0 rfl ho1 fun G3 hle3 hA3=>?_
 refine cS 4 rfl (show _=Value.slice (some ⟨b1,0,none⟩) r9.length n by rw [hl9,lr0]) ?_
 refine eJ ?_
 exact ⟨_,r9,n,rfl,hA3,hl9,aE _,hB.up hle3,rfl⟩
end
theorem Lx:pb 2=pw 4:=by unfold pb pw;decide
theorem Gj {N:Nat} {gs:List (List Int)} (h:HK 4 N gs):EvenB 2 N gs:=fun zs hz=>⟨(h zs hz).1,fun z hz'=>by rw [Lx];exact (h zs hz).2 z hz'⟩
theorem Ok (n j:Nat):Below 2 (tK n j):=fun z hz=>by
 rw [Lx];exact Fv n j 4 qX z hz
theorem AB {os:List (List Int)} {n:Nat} (hl:os.length=n):(os=(List.range n).map (tK n))↔∀ t:Nat,t<n→os[t]?.getD []=tK n t:=by
 constructor
 · intro h t ht
   rw [h,cG,gH ht];rfl
 intro h
 refine eW fun i=>?_
 rcases aR i n with h1 | h1
 · have:=h i h1
   rw [aD qX] at this ⊢
   rw [cG,gH h1]
   show some os[i]=some (tK n i)
   rw [←this];rfl
 rw [cJ qX,cJ (by rw [bZ,hJ];omega)]
section
attribute [local irreducible] qZ pb pw sG rM p2 cst yT sS uR rJ tK
theorem AC (G:Imm) (p:PV) (ac ao:Option Addr) (cc co:Nat) (hc:Arr G ac p.code) (ho:Arr G ao p.outs) (h1:p.code.length≤1099511627776) (h2:p.outs.length≤1099511627776) (hP:¬rJ p=true) :
 Does Tryz.prog 124 [.agg #[.int .i64 p.ins,.int .i64 p.regs,.slice ac p.code.length cc,.slice ao p.outs.length co]] G [] (fun v G' Ho=>v=.tuple #[.int .i64 (uX p).1,.int .i64 80]∧G'=G∧Ho=[]):=by
 have hf:(uX p).2=true:=by unfold rJ at hP;simpa using hP
 have h:=KD G p ac ao cc co hc ho h1 h2
 rw [hf] at h
 exact h
theorem KW (G:Imm) (p:PV) (ac ao:Option Addr) (cc co:Nat) (a:Option Addr) (c:Nat) (l:List R2) (hc:Arr G ac p.code) (ho:Arr G ao p.outs) (hcl:p.code.length≤1099511627776) (hol:p.outs.length≤1099511627776) (ha:Arr G a l) (hac:l.length≤c) (hl:l.length≤1048576) (hR:tV l) (hP:rJ p=true) :
 Does Tryz.prog 172 [.agg #[.int .i64 p.ins,.int .i64 p.regs,.slice ac p.code.length cc,.slice ao p.outs.length co],.slice a l.length c] G [] (fun v G' Ho=>v=.tuple #[.bool (decide (sT p l)),.int .i64 0]∧Ho=[]):=by
 have hl1:=hR.1
 have hl15:=hR.2.1
 have hev:=Gj (Qr hl15 (fun i hi=>(hR.2.2.1 i hi).1))
 have hgl:=Qq l
 obtain ⟨f1,f2,f3,f4,f5,f6,f7,f8⟩:=yF hP
 refine D0 Tryz.func172 Tryz.ntmps172 fun w=>?_
 by_cases hI:p.ins=l.length
 · by_cases hO:p.outs.length=l.length
   · refine aM 2 [] ?_
     refine dY 0 fun b1=>?_
     refine aL 7 [] ?_
     refine cX 1 rfl (Zm _ a c l qY qX hac hR hl15 hR.2.2.1) fun v1 G1 Ho1 hle1 hp=>?_
     obtain ⟨gs1,gr1,gc1,rfl,hga1,hgb1,hgc1,rfl⟩:=hp
     replace hc:=hc.up hle1
     replace ho:=ho.up hle1
     replace ha:=ha.up hle1
     refine aL 21 [0,0] ?_
     refine bS rfl (Df _ p _ _ _ _ qY qY hcl hol hP) ?_
     refine aL 24 [0,0] ?_
     refine qF 35 ?_
     refine aL 22 [0,0,0] ?_
     refine cX 20 rfl (KV _ p ac ao gs1 cc co gc1 gr1 (uR l) 2 l.length qY qY qY qY hev qX qX hP (by rw [hgb1.1,hgl,hI])) fun v9 G9 Ho9 hle9 hp=>?_
     obtain ⟨rfl,⟨os,ob,orr,oc,hfo,rfl,hoA,hol9,hoB,hoE⟩ | ⟨hno,k9,rfl⟩⟩:=hp
     · have hos:=Fu hfo
       have hoL:=hoB.1
       replace ha:=ha.up hle9
       have hiff:sT p l↔∀ t:Nat,t<l.length→os[t]?.getD []=tK l.length t:=by
        rw [←AB qX]
        unfold sT
        rw [hfo]
        exact ⟨fun h=>oQ h.2.2.2,fun h=>⟨hP,hI,hO,by rw [h]⟩⟩
       refine bP 28 [0] ?_
       refine Wc.lg (ι:=Nat×Imm) (fun (i,Gx)=>([(54,.int .i64 (i:Int)),(53,.int .i64 (orr.length:Int)),(52,.slice ob (List.length orr) oc),(1,.slice a (List.length l) c)],[(0,some b1,.cells #[.int .i64 p.ins,.int .i64 p.regs,.slice ac p.code.length cc,.slice ao p.outs.length co] 26)])) (fun (i,Gx)=>Gx) (fun (i,Gx)=>i≤l.length∧G9.le Gx∧∀ t:Nat,t<i→os[t]?.getD []=tK l.length t) (fun (i,Gx)=>l.length - i) ((0,G9)) (⟨aZ _,cC _,fun t ht=>by omega⟩) fun ⟨i,Gx⟩=>fun hk=>?_
       obtain ⟨hi0,hgx,hall⟩:=hk
       replace hoA:=hoA.up hgx
       rcases aR i l.length with hil | hil
       · obtain ⟨l1,a1,a2,a3,a4⟩:=(hoB.up hgx).2 i qX
         have hE1:=hoE.at (k:=i) qX
         refine aM 14 [1] ?_
         refine eO (α:=SV) T.sl86 ?_
         refine iD 0 T.one39 ?_
         refine aL 9 [] ?_
         refine cX 20 rfl (QH _ l.length i qX hil) fun v1 G2 Ho1 hle2 hp=>?_
         obtain ⟨s2,l2,d2,rfl,hA2,hl2,hd2,hB2,rfl⟩:=hp
         refine aL 11 [] ?_
         refine kA 66 rfl (show _=Value.slice (orr[i]?.getD default).a l1.length (orr[i]?.getD default).c by rw [a1];rfl) ?_
         refine cX 20 rfl (PO _ _ _ _ _ l1 l2 (os[i]?.getD []) (tK l.length i) (a3.up hle2) hA2 (a4.up hle2) hB2 (by rw [a4.1,hE1.1];omega) qX (2+3*p.code.length) qX hE1.2 ((Ok _ _).mono qX)) fun v1 G3 Ho1 hle3 hp=>?_
         obtain ⟨rfl,rfl,rfl⟩:=hp
         by_cases he:os[i]?.getD []=tK l.length i
         · have he2:¬¬(os[i]?.getD []=tK l.length i):=fun h=>h he
           refine aP (eK rfl) ?_
           refine bA 10 [0] ?_
           refine dX ((i+1,G3)) ?_ ?_
           · refine ⟨by omega,bI hgx hle2,fun t ht=>?_⟩
             rcases aR t i with h1 | h1
             · exact hall t h1
             have e:t=i:=qX
             rw [e];exact he
           show l.length - (i+1)<l.length - i
           omega
         have hnI:¬sT p l:=fun h=>he (hiff.1 h i hil)
         refine aP (eK rfl) ?_
         refine bA 15 [1] ?_
         refine eJ ?_
         exact ⟨by rw [bR hnI],rfl⟩
       have hyI:sT p l:=hiff.2 (fun t ht=>hall t qX)
       refine bQ 19 [0] ?_
       refine eJ ?_
       exact ⟨by rw [cR hyI],rfl⟩
     have hnI:¬sT p l:=fun h=>by have:=h.2.2.2;rw [hno] at this;cases this
     refine bA 25 [1] ?_
     refine eJ ?_
     exact ⟨by rw [bR hnI],rfl⟩
   have hnI:¬sT p l:=fun h=>hO h.2.2.1
   refine aM 2 [] ?_
   refine dY 0 fun b1=>?_
   refine aL 7 [] ?_
   refine cX 1 rfl (Zm _ a c l qY qX hac hR hl15 hR.2.2.1) fun v1 G1 Ho1 hle1 hp=>?_
   obtain ⟨gs1,gr1,gc1,rfl,hga1,hgb1,hgc1,rfl⟩:=hp
   replace hc:=hc.up hle1
   replace ho:=ho.up hle1
   replace ha:=ha.up hle1
   refine aL 21 [0,0] ?_
   refine bS rfl (Df _ p _ _ _ _ qY qY hcl hol hP) ?_
   refine aL 24 [0,0] ?_
   refine qF 35 ?_
   refine bA 24 [0,1] ?_
   refine eJ ?_
   all_goals exact ⟨by rw [bR hnI],rfl⟩
 have hnI:¬sT p l:=fun h=>hI h.2.1
 refine aM 2 [] ?_
 refine dY 0 fun b1=>?_
 refine aL 7 [] ?_
 refine cX 1 rfl (Zm _ a c l qY qX hac hR hl15 hR.2.2.1) fun v1 G1 Ho1 hle1 hp=>?_
 obtain ⟨gs1,gr1,gc1,rfl,hga1,hgb1,hgc1,rfl⟩:=hp
 replace hc:=hc.up hle1
 replace ho:=ho.up hle1
 replace ha:=ha.up hle1
 refine aL 21 [0,0] ?_
 refine bS rfl (Df _ p _ _ _ _ qY qY hcl hol hP) ?_
 refine aL 24 [0,0] ?_
 refine JT 35 ?_
 refine bA 18 [1] ?_
 refine eJ ?_
 all_goals exact ⟨by rw [bR hnI],rfl⟩
end
theorem Vu {G:Imm} {n j:Nat} {x:IV} (hx:Big G x 1) (hj:j<n):Bigs G ((List.replicate n (default:IV)).set j x) (tK n j):=by
 unfold tK
 exact (pZ G n).set j hx
section
attribute [local irreducible] qZ Iq pb pw sG rM p2 vI uR sS rJ tK cst yT
theorem QI (G:Imm) (k:Nat) (hk15:k≤15):Does Tryz.prog 209 [.int .i64 (k:Int)] G [] (fun v G' Ho=>∃ (s:Option Addr) (r:List SV) (c':Nat),v=.slice s r.length c'∧Arr G' s r∧BGrid G' r (uN k)∧r.length≤c'∧Ho=[]):=by
 refine D0 Tryz.func209 Tryz.ntmps209 fun w=>?_
 refine jU 9 (rP 39 ([]:List SV) []) ?_
 refine cZ 18 [] ?_
 refine nB (ι:=Nat×Imm×List SV×(Option Addr×Nat×List Value)) (fun (i,Gx,r,(o,d,j))=>([(7,.int .i64 (i:Int)),(3,.slice o r.length d),(6,.int .i64 (↑k:Int)),(2,.slice none 0 0),(0,.int .i64 (↑k:Int))],[(9,o.map (·.block),rP 39 r j)])) (fun (i,Gx,r,(o,d,j))=>Gx) (fun (i,Gx,r,(o,d,j))=>i≤k∧G.le Gx∧r.length=i∧BGrid Gx r ((uN k).take i)∧OwnA o d r j) (fun (i,Gx,r,(o,d,j))=>k - i) ((0,G,[],(none,0,[]))) (⟨aZ _,cC _,rfl,by rw [bY];exact BGrid.nil _,gF⟩) rfl ⟨rfl,rfl,rfl,rfl,rfl,trivial⟩ ⟨rfl,trivial⟩ fun ⟨i,Gx,r,(o,d,j)⟩=>fun hk=>?_
 obtain ⟨hi1,hi2,hi3,hi4,hi5⟩:=hk
 rcases aR i k with hil | hil
 · refine aM 20 [1] ?_
   refine jT (α:=IV) 10 rfl T.sl39 T.el89 rfl rfl qX qX fun b1=>?_
   refine aL 7 [] ?_
   refine cX 11 rfl (CN _ 1 rI) fun v1 G1 Ho1 hle1 hp=>?_
   obtain ⟨ro1,rfl,hro1,rfl⟩:=hp
   have ho2:OwnA (some ⟨b1,0,none⟩) (List.replicate ((k:Int)).toNat (default:IV)).length (List.replicate ((k:Int)).toNat (default:IV)) []:=iG (by rw [aH];simp only [maxLen];omega)
   refine aP (nV (α:=IV) T.sl39 rfl rfl ho2 Sd) ?_
   refine fS (α:=IV) (z:=ro1) (m:=(i:Int)) 10 T.size89 rfl rfl rfl ho2 Sd rfl fun ho3=>?_
   refine fT 10 rfl ho3 fun G3 hle3 hA3=>?_
   refine aL 5 [] ?_
   refine iC (α:=SV) 11 [⟨_,_,_⟩] rfl T.sl86 T.el39 rfl rfl rfl rfl rfl fun b2=>?_
   refine Wl.ap (α:=SV) 9 T.sl86 T.el39 (nN 11 rfl) fun a1 c1 junk1 ho1=>?_
   refine bA 8 [] ?_
   refine cS 7 rfl (show _=Value.int .i64 ((i+1:Nat):Int) from rfl) ?_
   refine dX ((i+1,_,r++[⟨some ⟨b1,0,none⟩,(List.replicate ((k:Int)).toNat (default:IV)).length,(List.replicate ((k:Int)).toNat (default:IV)).length⟩],(a1,c1,junk1))) ?_ ?_
   · refine ⟨by omega,bI hi2 (bI hle1 hle3),by rw [aQ,hi3];rfl,?_,ho1⟩
     have e:(uN k).take (i+1)=(uN k).take i++[tK k i]:=by
      rw [eE]
      congr 1
      unfold uN
      rw [cG,gH hil];rfl
     rw [e]
     exact BGrid.snoc (hi4.up (bI hle1 hle3)) ⟨_,by rw [aI],aE _,hA3,(Vu hro1 hil).up hle3⟩
   show k - (i+1)<k - i
   omega
 have hie:i=k:=qX
 subst hie
 have e:(uN i).take i=uN i:=gK (by rw [Fw];exact aE _)
 rw [e] at hi4
 refine bQ 19 [0] ?_
 refine eT 9 rfl hi5 fun G8 hle8 hA8=>?_
 refine cI ?_
 exact ⟨_,_,_,rfl,hA8,hi4.up hle8,hi5.le,rfl⟩
end
theorem QJ (G:Imm) (a:Option Addr) (c:Nat) (l:List R2) (ha:Arr G a l) (hl:l.length≤1048576) :
 Does Tryz.prog 25 [.slice a l.length c] G [] (fun v G' Ho=>∃ s d,v=.slice s l.length d∧Arr G' s l∧l.length≤d∧Ho=[]):=by
 refine D0 Tryz.func25 Tryz.ntmps25 fun w=>?_
 by_cases hne:a=none
 · subst hne
   have hl0:l=[]:=by
    rcases ha.2 with h0 | ⟨_,_,h,_⟩
    · exact List.length_eq_zero_iff.mp h0
    cases h
   subst hl0
   refine jU 0 (rP 51 ([]:List R2) []) ?_
   refine aM 9 [] ?_
   refine aP (fA T.sl22 rfl rfl) ?_
   refine bP 2 [] ?_
   refine eX (fun hc1=>?_) fun hc1=>?_
   refine bQ 7 [] ?_
   rotate_left
   refine aM 4 [] ?_
   refine pM 1 rfl T.sl22 fun b1=>?_
   refine aC 1 [] ?_
   rotate_left
   refine cI ?_
   · exact ⟨none,0,rfl,⟨rfl,.inl rfl⟩,aE _,rfl⟩
   exact absurd rfl hc1
 refine aM 9 [] ?_
 refine aP (fA T.sl22 rfl rfl) ?_
 refine aL 7 [0] ?_
 refine pM 0 rfl T.sl22 fun b1=>?_
 refine aC 1 [] ?_
 refine mZ 0 (rP 51 ([]:List R2) []) rfl rfl ?_
 refine lL (α:=R2) (xs:=[]) (ys:=l) (junk:=[]) 0 rfl T.sl22 T.el51 rfl rfl rfl (.inr ⟨b1,rfl,rfl,aE _,aZ _⟩) (oG ha) (by rw [cE];omega) Xd fun a1 c1 junk1 ho1=>?_
 rw [fD] at ho1 ⊢
 refine bA 4 [] ?_
 refine eT 0 rfl ho1 fun G1 hle1 harr1=>?_
 refine cI ?_
 exact ⟨a1,c1,rfl,harr1,ho1.le,rfl⟩
noncomputable instance (l:List R2):Decidable (wC l):=Classical.propDecidable _
theorem KX (G:Imm) (a:Option Addr) (c:Nat) (l:List R2) (ha:Arr G a l) (h1:l.length≤1048576):Does Tryz.prog 165 [.slice a l.length c,.func (.func 166) #[] #[]] G [] (fun v G' Ho=>v=.bool (decide (wC l))∧G'=G∧Ho=[]):=by
 refine (PJ G a c l ha h1).mono fun v G' Ho _ ⟨b,e,h1,h2,h3⟩=>?_
 subst e
 refine ⟨?_,h2,h3⟩
 congr 1
 by_cases h:wC l
 · rw [cR h];exact h1.2 h
 rw [bR h]
 exact Bool.eq_false_iff.2 (fun h2=>h (h1.1 h2))
theorem KY (G:Imm) (k1 k2:Int) (a:Option Addr) (c:Nat) (l:List R2) (ha:Arr G a l) (hl:l.length≤1048576) (hlc:l.length≤c) :
 Does Tryz.prog 122 [.int .i64 k1,.int .i64 k2,.slice a l.length c] G [] (fun v G' Ho=>∃ pv:Value,v=.tuple #[pv,.int .i64 (sD k1 k2 l)]∧Ho=[]):=by
 refine D0 Tryz.func122 Tryz.ntmps122 fun w=>?_
 refine aM 10 [] ?_
 refine bS rfl (by apply KO <;> first | assumption | omega | rfl) ?_
 refine aP (eK rfl) ?_
 refine aC 1 [] ?_
 apply dA 4 16 20 rfl
 intro hg1
 refine aC 3 [] ?_
 refine bS rfl (by apply KO <;> first | assumption | omega | rfl) ?_
 refine aC 1 [] ?_
 refine aP (eK rfl) ?_
 refine aC 1 [] ?_
 exact eL 4 0
 intro hg1
 refine aC 4 [] ?_
 exact eL 4 0
 refine bP 2 [] ?_
 refine eX (fun hc1=>?_) fun hc1=>?_
 refine bQ 8 [] ?_
 rotate_left
 refine cZ 11 [] ?_
 rotate_left
 · refine eJ ?_
   exact ⟨_,by rw [Ao (by unfold sN;omega)],rfl⟩
 have hP:sN k1∧sN k2:=by unfold sN;omega
 refine iE (ι:=Nat) (fun j=>([(23,.int .i64 (j:Int)),(0,.int .i64 k1),(1,.int .i64 k2),(2,.slice a l.length c),(22,.int .i64 (l.length:Int)),(21,.slice a (List.length l) c)],[])) (fun j=>j≤l.length∧∀ i:Nat,i<j→tU (l[i]?.getD default).a (l[i]?.getD default).b) (fun j=>l.length - j) (0) (⟨aZ _,fun i h=>absurd h qX⟩) fun j=>fun hk=>?_
 obtain ⟨hj,hno⟩:=hk
 refine cZ 6 [] ?_
 refine eX (fun hc2=>?_) fun hc2=>?_
 refine aM 6 [] ?_
 refine eO (α:=R2) T.sl22 ?_
 refine nA T.agg51 ?_
 refine aW 0 rfl T.zero51 fun b1=>?_
 refine aL 6 [0,0] ?_
 refine bS rfl Jc ?_
 refine aP (eK rfl) ?_
 refine bP 2 [] ?_
 refine eX (fun hc3=>?_) fun hc3=>?_
 refine bQ 12 [] ?_
 rotate_left
 refine bQ 7 [] ?_
 rotate_left
 refine aM 16 [] ?_
 apply dA 3 38 41 rfl
 intro hg1
 refine aC 3 [] ?_
 refine bS rfl (KX _ _ _ _ qY qX) ?_
 refine aC 1 [] ?_
 exact eL 3 0
 intro hg1
 refine aC 3 [] ?_
 exact eL 3 0
 refine bP 2 [] ?_
 refine eX (fun hc3=>?_) fun hc3=>?_
 refine bQ 8 [] ?_
 rotate_left
 refine aM 5 [] ?_
 refine cX 0 rfl (KI _ _ _ _ qY qX sW) fun v1 G1 Ho1 hle1 hp=>?_
 obtain ⟨ti1,tj1,tb1,rfl,htb1,rfl,rfl⟩:=hp
 refine bP 15 [] ?_
 refine Bo rfl (fun hc4=>?_) fun hc4=>?_
 refine bQ 8 [] ?_
 rotate_left
 refine aM 7 [] ?_
 refine cX 0 rfl (QJ _ _ _ _ qY qX) fun v2 G2 Ho2 hle2 hp=>?_
 obtain ⟨s2,d2,rfl,hs2,hsd2,rfl⟩:=hp
 refine aP (fI (cs:=[_,_,_]) T.st251 rfl rfl rfl) ?_
 refine dY 0 fun b1=>?_
 refine bA 5 [] ?_
 rotate_left
 · refine eJ ?_
   exact ⟨_,by rw [Of (fun h=>absurd (h j qX) qY)],rfl⟩
 · refine cS 23 rfl (show _=Value.int .i64 ((j+1:Nat):Int) from rfl) ?_
   refine dX (j+1) ?_ ?_
   · refine ⟨by omega,fun i hi=>?_⟩
     rcases aR i j with h | h
     · exact hno i h
     have e:i=j:=qX
     subst e;exact gD.1 qY
   omega
 · have hA:An l:=fun i hi=>hno i qX
   have e:sD k1 k2 l=71:=hc3.elim (fun h=>Jq hP hA h) (fun h=>Ca hP hA (.inl h))
   refine eJ ?_
   exact ⟨_,by rw [e],rfl⟩
 · have hA:An l:=fun i hi=>hno i qX
   have e:sD k1 k2 l=71:=Ca hP hA (.inr (htb1.1 qY))
   refine eJ ?_
   exact ⟨_,by rw [e],rfl⟩
 have hA:An l:=fun i hi=>hno i qX
 have e:sD k1 k2 l=0:=Zr hP hA (gX fun h=>hc3 (.inl h)) (fun h=>h.elim (fun h=>hc3 (.inr h)) (fun h=>absurd (htb1.2 h) (by rw [hc4];decide)))
 refine eJ ?_
 exact ⟨_,by rw [e],rfl⟩
theorem QK (G:Imm) (a:Option Addr) (c:Nat) (l:List R2) (ha:Arr G a l) (hl:l.length≤1048576) (hR:tV l) :
 Does Tryz.prog 184 [.slice a l.length c] G [] (fun v G' Ho=>v=.bool (decide (1=1))∧G'=G∧Ho=[]):=by
 refine D0 Tryz.func184 Tryz.ntmps184 fun w=>?_
 refine cZ 14 [] ?_
 refine iE (ι:=Nat) (fun j=>([(7,.int .i64 (j:Int)),(6,.int .i64 (l.length:Int)),(5,.slice a (List.length l) c),(0,.slice a (List.length l) c)],[])) (fun j=>j≤l.length) (fun j=>l.length - j) (0) (aZ _) fun j=>fun (hk:j≤l.length)=>?_
 refine cZ 6 [] ?_
 refine eX (fun hc1=>?_) fun hc1=>?_
 refine aM 6 [] ?_
 refine eO (α:=R2) T.sl22 ?_
 refine nA T.agg51 ?_
 refine aW 0 rfl T.zero51 fun b1=>?_
 refine aL 6 [0,0] ?_
 refine bS rfl Jc ?_
 refine aP (eK rfl) ?_
 refine bP 2 [] ?_
 refine eX (fun hc2=>?_) fun hc2=>?_
 refine bQ 11 [] ?_
 rotate_left
 refine bQ 7 [] ?_
 rotate_left
 refine aM 11 [] ?_
 apply dT 4 18 22 rfl
 intro hg1
 refine aC 7 [] ?_
 exact eL 4 0
 intro hg1
 refine aC 4 [] ?_
 exact eL 4 0
 refine bA 4 [] ?_
 rotate_left
 · exfalso
   have h:=(hR.2.2.1 j qX).1
   exact absurd h qY
 · refine cS 7 rfl (show _=Value.int .i64 ((j+1:Nat):Int) from rfl) ?_
   refine dX (j+1) ?_ ?_
   · omega
   omega
 refine cI ?_
 have h1:=hR.1
 have h2:=hR.2.1
 exact ⟨by rw [cR qX,cR rfl],rfl,rfl⟩
theorem Ol {x y:Int}:sG x y=0↔x=y:=by
 unfold sG
 split
 · omega
 split <;> omega
theorem Qt {a b:Int} {n:Nat} (h:tU a b) (hn:n≤15):Below 2 (vI a b n):=fun z hz=>by
 rw [Lx];exact (Jp h hn).2 z hz
theorem KZ (G:Imm) (p:PV) (ac ao ga:Option Addr) (cc co gc:Nat) (gl:List SV) (gs:List (List Int)) (m N:Nat) (hc:Arr G ac p.code) (ho:Arr G ao p.outs) (hga:Arr G ga gl) (hgg:BGrid G gl gs) (hev:EvenB m N gs) (hmm:m≤1048576) (hN:N≤4096) (hR:rJ p=true) (hgi:(gl.length:Int)=p.ins) (os:List (List Int)) (hf:sS p gs=some os) :
 Does Tryz.prog 208 [.agg #[.int .i64 p.ins,.int .i64 p.regs,.slice ac p.code.length cc,.slice ao p.outs.length co],.slice ga gl.length gc] G [] (fun v G' Ho=>∃ b r c',v=.tuple #[.slice b (List.length r) c',.int .i64 0,.int .i64 0]∧Arr G' b r∧BGrid G' r os∧EvenB (m+3*p.code.length) N os∧Ho=[]):=by
 refine (KV G p ac ao ga cc co gc gl gs m N hc ho hga hgg hev hmm hN hR hgi).mono fun v G' Ho _ h=>?_
 obtain ⟨h0,⟨os2,b,r,c',h1,h2,h3,h4,h5,h6⟩ | ⟨h1,_⟩⟩:=h
 · rw [hf] at h1
   obtain rfl:=oQ h1
   exact ⟨b,r,c',h2,h3,h5,h6,h0⟩
 rw [hf] at h1;cases h1
section
attribute [local irreducible] qZ Iq pb pw sG rM p2 vI uR sS rJ tK cst yT
theorem LA (G:Imm) (p:PV) (ac ao a:Option Addr) (cc co c k:Nat) (l:List R2) (hc:Arr G ac p.code) (ho:Arr G ao p.outs) (ha:Arr G a l) (hcl:p.code.length≤16384) (hol:p.outs.length≤1099511627776) (hRL:tV l) (hR:rJ p=true) (hk1:1≤k) (hk8:k≤8) :
 Does Tryz.prog 169 [.agg #[.int .i64 p.ins,.int .i64 p.regs,.slice ac p.code.length cc,.slice ao p.outs.length co],.int .i64 (k:Int),.slice a l.length c] G [] (fun v G' Ho=>v=.tuple #[.bool (decide (tQ p (k:Int) l)),.int .i64 0]∧Ho=[]):=by
 have hl15:l.length≤15:=hRL.2.1
 have hnr:∀ i:Nat,i<l.length→tU (l[i]?.getD default).a (l[i]?.getD default).b:=fun i hi=>(hRL.2.2.1 i hi).1
 refine D0 Tryz.func169 Tryz.ntmps169 fun w=>?_
 refine aM 2 [] ?_
 refine dY 0 fun b1=>?_
 refine aL 10 [] ?_
 refine qF 22 ?_
 refine aC 6 [] ?_
 refine qF 26 ?_
 refine aC 3 [] ?_
 refine bS rfl (QK _ _ _ _ qY qX hRL) ?_
 refine aC 1 [] ?_
 refine aP (eK rfl) ?_
 refine aL 9 [0,0] ?_
 refine bS rfl (Df _ p _ _ _ _ qY qY qX hol hR) ?_
 refine aL 25 [0,0] ?_
 apply dA 7 43 50 rfl
 intro hg1
 refine aC 13 [0] ?_
 exact eL 7 0
 intro hg1
 refine aC 7 [] ?_
 exact eL 7 0
 refine bP 2 [] ?_
 refine eX (fun hc1=>?_) fun hc1=>?_
 refine bQ 8 [] ?_
 rotate_left
 refine cZ 12 [0] ?_
 rotate_left
 · refine eJ ?_
   exact ⟨by rw [bR (fun h=>hc1.elim (fun h2=>h2 h.1) (fun h2=>h2 (by have:=h.2.1;omega)))],rfl⟩
 have hI:p.ins=(k:Int):=gX fun h=>hc1 (.inl h)
 have hO:p.outs.length=l.length:=gX fun h=>hc1 (.inr qX)
 refine iE (ι:=Nat) (fun j=>([(54,.int .i64 (j:Int)),(1,.int .i64 (k:Int)),(2,.slice a l.length c),(53,.int .i64 (↑p.code.length:Int)),(52,.slice ac p.code.length cc),(9,.int .i64 0),(3,.pointer (some ⟨b1,0,none⟩))],[(0,some b1,.cells #[.int .i64 p.ins,.int .i64 p.regs,.slice ac p.code.length cc,.slice ao p.outs.length co] 26)])) (fun j=>j≤p.code.length∧∀ i:Nat,i<j→¬((p.code[i]?.getD default).op=6∨(p.code[i]?.getD default).op=8)) (fun j=>p.code.length - j) (0) (⟨aZ _,fun i h=>absurd h qX⟩) fun j=>fun hk=>?_
 obtain ⟨hj,hno⟩:=hk
 rcases aR j p.code.length with hjl | hjl
 · refine aM 13 [1] ?_
   refine eO (α:=Sl.Instr) T.sl23 ?_
   refine nA T.agg211 ?_
   refine aW 1 rfl T.zero211 fun b2=>?_
   refine aL 9 [1,1] ?_
   apply dA 4 61 65 rfl
   intro hg1
   refine aC 7 [1] ?_
   exact eL 4 0
   intro hg1
   refine aC 4 [] ?_
   exact eL 4 0
   refine bP 2 [] ?_
   refine eX (fun hc2=>?_) fun hc2=>?_
   refine bQ 12 [] ?_
   rotate_left
   refine bQ 7 [] ?_
   rotate_left
   · refine eJ ?_
     refine ⟨by rw [bR (fun h=>h.2.2.1 (p.code[j]?.getD default) (by rw [aD hjl];exact eR _) qY)],rfl⟩
   refine cS 54 rfl (show _=Value.int .i64 ((j+1:Nat):Int) from rfl) ?_
   refine dX (j+1) ?_ ?_
   · refine ⟨by omega,fun i hi=>?_⟩
     rcases aR i j with h | h
     · exact hno i h
     have e:i=j:=qX
     subst e;assumption
   show p.code.length - (j+1)<p.code.length - j
   omega
 have hND:Od p:=fun i hi=>by
  obtain ⟨t,ht,rfl⟩:=oZ.1 hi
  have:=hno t qX
  rw [aD ht] at this
  exact this
 obtain ⟨os,hf⟩:=Ls hND (uN k)
 have hosl:os.length=l.length:=by rw [Fu hf,hO]
 have hiff:tQ p (k:Int) l↔∀ t:Nat,t<l.length→os[t]?.getD []=vI (l[t]?.getD default).a (l[t]?.getD default).b k:=by
  rw [←Zq hosl]
  unfold tQ
  rw [aN,hf]
  exact ⟨fun h=>oQ h.2.2.2,fun h=>⟨hI,hO,hND,by rw [h]⟩⟩
 refine cZ 13 [0] ?_
 refine eZ [0] [] T.mixed [[0,0],[1]] ?_
 refine gC 2 ?_
 refine cX 1 rfl (QI _ k qX) fun v1 G1 Ho1 hle1 hp=>?_
 obtain ⟨us1,ur1,uc1,rfl,huA1,huB1,huL1,rfl⟩:=hp
 replace hc:=hc.up hle1
 replace ho:=ho.up hle1
 replace ha:=ha.up hle1
 refine cT 3 ?_
 refine cX 1 rfl (KZ _ p _ _ _ _ _ _ _ (uN k) 2 k qY qY qY qY (Gj (Oc k)) qX qX hR (by rw [huB1.1,Fw];omega) os hf) fun v2 G2 Ho2 hle2 hp=>?_
 obtain ⟨ob2,or2,oc2,rfl,hoA2,hoB2,hoE2,rfl⟩:=hp
 replace huA1:=huA1.up hle2
 replace hc:=hc.up hle2
 replace ho:=ho.up hle2
 replace ha:=ha.up hle2
 refine eU ?_
 refine fE [[4],[5],[6],[7],[8],[9],[10]] ?_
 refine eI ?_
 refine oS 20 [0] ?_
 have hol2:or2.length=l.length:=by rw [hoB2.1];exact hosl
 refine Wc.lg (ι:=Nat×Imm) (fun (i,Gx)=>([(79,.int .i64 (i:Int)),(1,.int .i64 (k:Int)),(2,.slice a l.length c),(78,.int .i64 (l.length:Int)),(77,.slice a (List.length l) c),(12,.slice ob2 (List.length or2) oc2)],[(0,some b1,.cells #[.int .i64 p.ins,.int .i64 p.regs,.slice ac p.code.length cc,.slice ao p.outs.length co] 26)])) (fun (i,Gx)=>Gx) (fun (i,Gx)=>i≤l.length∧G2.le Gx∧∀ t:Nat,t<i→os[t]?.getD []=vI (l[t]?.getD default).a (l[t]?.getD default).b k) (fun (i,Gx)=>l.length - i) ((0,G2)) (⟨aZ _,cC _,fun t ht=>absurd ht qX⟩) fun ⟨i,Gx⟩=>fun hk=>?_
 obtain ⟨hi0,hgx,hall⟩:=hk
 replace ha:=ha.up hgx
 replace hoA2:=hoA2.up hgx
 rcases aR i l.length with hil | hil
 · have hnear:tU (l[(i:Int).toNat]?.getD default).a (l[(i:Int).toNat]?.getD default).b:=hnr i hil
   refine aM 14 [1] ?_
   refine eO (α:=R2) T.sl22 ?_
   refine nA T.agg51 ?_
   refine aW 1 rfl T.zero51 fun b2=>?_
   refine aL 8 [1,1] ?_
   refine cX 2 rfl (KK _ _ _ k hnear qX) fun v3 G3 Ho3 hle3 hp=>?_
   obtain ⟨ps3,pr3,pc3,rfl,hpA3,hpB3,hpL3,rfl⟩:=hp
   replace ha:=ha.up hle3
   replace hoA2:=hoA2.up hle3
   refine aL 11 [] ?_
   refine eO (α:=SV) T.sl86 ?_
   refine iD 0 T.one39 ?_
   refine bP 5 [] ?_
   obtain ⟨q,hq1,hq2,hq3,hq4⟩:=(hoB2.up (bI hgx hle3)).2 i qX
   have hE:=hoE2.at (k:=i) qX
   have hql:q.length=k:=hq4.1.trans hE.1
   have hP:Below 2 (vI (l[i]?.getD default).a (l[i]?.getD default).b k):=Qt (hnr i hil) qX
   have hpl:pr3.length=k:=hpB3.1.trans (Oe _ _ _)
   refine kR 93 rfl (show _=Value.slice (or2[(i:Int).toNat]?.getD default).a q.length (or2[(i:Int).toNat]?.getD default).c by rw [hq1];rfl) ?_
   refine kR 94 rfl (show _=Value.int .i64 (q.length:Int) by rw [hq1];rfl) ?_
   refine iE (ι:=Nat) (fun j=>([(95,.int .i64 (j:Int)),(93,.slice (or2[(i:Int).toNat]?.getD default).a q.length (or2[(i:Int).toNat]?.getD default).c),(94,.int .i64 (q.length:Int)),(16,.slice ps3 pr3.length pc3),(12,.slice ob2 or2.length oc2),(1,.int .i64 (k:Int)),(2,.slice a l.length c),(77,.slice a l.length c),(78,.int .i64 (l.length:Int)),(79,.int .i64 (i:Int))],[(1,some b2,.cells (List.toArray (Cells.enc (Option.getD l[Int.toNat (↑i:Int)]? default))) 51),(0,some b1,.cells #[.int .i64 p.ins,.int .i64 p.regs,.slice ac p.code.length cc,.slice ao p.outs.length co] 26)])) (fun j=>j≤k∧∀ t:Nat,t<j→(os[i]?.getD [])[t]?.getD 0=(vI (l[i]?.getD default).a (l[i]?.getD default).b k)[t]?.getD 0) (fun j=>k - j) (0) (⟨aZ _,fun i h=>absurd h qX⟩) fun j=>fun hk=>?_
   obtain ⟨hj9,hjj⟩:=hk
   rcases aR j k with hjk | hjk
   · have hx:=hq4.at (k:=(j:Int)) qX
     have hy:=hpB3.at (k:=(j:Int)) qX
     have hxn:=gM hx (hE.2.at _)
     have hyn:=gM hy (hP.at _)
     refine aM 14 [1] ?_
     refine eO (α:=IV) T.sl39 ?_
     refine nA T.agg89 ?_
     refine aW 2 rfl T.zero89 fun b3=>?_
     refine bP 5 [2] ?_
     refine eZ [0,1,2] [] T.mixed [[0,2],[1],[2]] ?_
     refine qL (α:=IV) 3 T.sl39 ?_
     refine Gm.le 4 T.agg89 ?_
     refine gC 5 ?_
     refine bS rfl (c57 _ _ _ _ _ hx hy qX qX) ?_
     refine eU ?_
     refine fE [[6]] ?_
     refine eI ?_
     refine bW ?_
     refine eX (fun hc2=>?_) fun hc2=>?_
     refine bQ 16 [] ?_
     rotate_left
     refine bQ 7 [] ?_
     rotate_left
     · refine eJ ?_
       have hne:¬((os[i]?.getD [])[j]?.getD 0=(vI (l[i]?.getD default).a (l[i]?.getD default).b k)[j]?.getD 0):=fun h=>absurd (Ol.2 h) qY
       exact ⟨by rw [bR (fun h=>hne (by rw [hiff.1 h i hil]))],rfl⟩
     refine cS 95 rfl (show _=Value.int .i64 ((j+1:Nat):Int) from rfl) ?_
     refine dX (j+1) ?_ ?_
     · refine ⟨by omega,fun t ht=>?_⟩
       rcases aR t j with h | h
       · exact hjj t h
       have e:t=j:=qX
       subst e;exact Ol.1 (gD.1 qY)
     show k - (j+1)<k - j
     omega
   have hjk:j=k:=qX
   subst hjk
   refine bQ 17 [0] ?_
   refine cS 79 rfl (show _=Value.int .i64 ((i+1:Nat):Int) from rfl) ?_
   refine dX ((i+1,G3)) ?_ ?_
   · refine ⟨by omega,bI hgx hle3,fun t ht=>?_⟩
     rcases aR t i with h | h
     · exact hall t h
     have e:t=i:=qX
     subst e
     exact (EN hE.1 (Oe _ _ _)).2 hjj
   show l.length - (i+1)<l.length - i
   omega
 refine bQ 19 [0] ?_
 refine eJ ?_
 exact ⟨by rw [cR (hiff.2 (fun t ht=>hall t qX))],rfl⟩
end
theorem HT {k1 k2:Int} {l:List R2} {x y z:PV} (h:¬sD k1 k2 l=0):sJ k1 k2 l x y z=(0,sD k1 k2 l):=by unfold sJ;rw [aT h]
theorem EW {k1 k2:Int} {l:List R2} {x y z:PV} (h:sD k1 k2 l=0) (h1:¬rJ x=true):sJ k1 k2 l x y z=(1,80):=by
 unfold sJ;rw [aF (fun h0=>h0 h),aT h1]
theorem EX {k1 k2:Int} {l:List R2} {x y z:PV} (h:sD k1 k2 l=0) (h1:rJ x=true) (h2:¬tQ x k1 l):sJ k1 k2 l x y z=(1,180):=by
 unfold sJ;rw [aF (fun h0=>h0 h),aF (fun h0=>h0 h1),aT h2]
theorem EY {k1 k2:Int} {l:List R2} {x y z:PV} (h:sD k1 k2 l=0) (h1:rJ x=true) (h2:tQ x k1 l) (h3:¬rJ y=true):sJ k1 k2 l x y z=(2,80):=by
 unfold sJ;rw [aF (fun h0=>h0 h),aF (fun h0=>h0 h1),aF (fun h0=>h0 h2),aT h3]
theorem EZ {k1 k2:Int} {l:List R2} {x y z:PV} (h:sD k1 k2 l=0) (h1:rJ x=true) (h2:tQ x k1 l) (h3:rJ y=true) (h4:¬tQ y k2 l):sJ k1 k2 l x y z=(2,180):=by
 unfold sJ;rw [aF (fun h0=>h0 h),aF (fun h0=>h0 h1),aF (fun h0=>h0 h2),aF (fun h0=>h0 h3),aT h4]
theorem FA {k1 k2:Int} {l:List R2} {x y z:PV} (h:sD k1 k2 l=0) (h1:rJ x=true) (h2:tQ x k1 l) (h3:rJ y=true) (h4:tQ y k2 l) (h5:¬rJ z=true):sJ k1 k2 l x y z=(3,80):=by
 unfold sJ;rw [aF (fun h0=>h0 h),aF (fun h0=>h0 h1),aF (fun h0=>h0 h2),aF (fun h0=>h0 h3),aF (fun h0=>h0 h4),aT h5]
theorem FB {k1 k2:Int} {l:List R2} {x y z:PV} (h:sD k1 k2 l=0) (h1:rJ x=true) (h2:tQ x k1 l) (h3:rJ y=true) (h4:tQ y k2 l) (h5:rJ z=true) (h6:¬sT z l):sJ k1 k2 l x y z=(3,180):=by
 unfold sJ;rw [aF (fun h0=>h0 h),aF (fun h0=>h0 h1),aF (fun h0=>h0 h2),aF (fun h0=>h0 h3),aF (fun h0=>h0 h4),aF (fun h0=>h0 h5),aT h6]
theorem FC {k1 k2:Int} {l:List R2} {x y z:PV} (h:sD k1 k2 l=0) (h1:rJ x=true) (h2:tQ x k1 l) (h3:rJ y=true) (h4:tQ y k2 l) (h5:rJ z=true) (h6:sT z l):sJ k1 k2 l x y z=(0,0):=by
 unfold sJ;rw [aF (fun h0=>h0 h),aF (fun h0=>h0 h1),aF (fun h0=>h0 h2),aF (fun h0=>h0 h3),aF (fun h0=>h0 h4),aF (fun h0=>h0 h5),aF (fun h0=>h0 h6)]
section
attribute [local irreducible] tQ sT sD rJ tV
end
theorem Gk {G:Imm} {b:Nat} {c:Array Value} {ty:TypeId} {z:Nat×Nat} (h:G b=some (.cells c ty z)) {k:Nat} {v:Value} (hv:c[k]?=some v):G.cell b k=some v:=by
 unfold Imm.cell;rw [h];exact hv
structure PF where
 p:PH
 f:Nat
 b:Nat
instance:Inhabited PF:=⟨⟨default,0,0⟩⟩
instance:Cells PF:=⟨5,fun x=>[.int .i64 x.p.ins,.int .i64 x.p.regs,.slice x.p.ac x.p.cn x.p.cc,.slice x.p.ao x.p.on x.p.oc,.func (.func x.f) #[] #[.pointer (some ⟨x.b,0,none⟩)]],fun _=>rfl,fun _=>rfl⟩
section
attribute [local irreducible] tQ sT sD rJ tV
theorem QL (G:Imm) (k:Nat) (b:Nat) (cs:Array Value) (ty:TypeId) (zz:Nat×Nat) (p:PV) (ac ao a:Option Addr) (cc co c:Nat) (l:List R2) (hU:G b=some (.cells cs ty zz)) (h0:cs[0]?=some (.int .i64 (k:Int))) (h2:cs[2]?=some (.slice a l.length c)) (hc:Arr G ac p.code) (ho:Arr G ao p.outs) (ha:Arr G a l) (hac:l.length≤c) (hl:l.length≤1048576) (hcl:p.code.length≤16384) (hol:p.outs.length≤1099511627776) (hRL:tV l) (hR:rJ p=true) (hk1:1≤k) (hk8:k≤8) :
 Does Tryz.prog 168 [.agg #[.int .i64 p.ins,.int .i64 p.regs,.slice ac p.code.length cc,.slice ao p.outs.length co],.pointer (some ⟨b,0,none⟩)] G [] (fun v G' Ho=>v=.tuple #[.bool (decide (tQ p (k:Int) l)),.int .i64 0]∧Ho=[]):=by
 refine D0 Tryz.func168 Tryz.ntmps168 fun w=>?_
 refine aM 2 [] ?_
 refine dY 0 fun b1=>?_
 refine aL 8 [0] ?_
 refine aP (dH T.one3 rfl ((by rw [bO]:G.cell b (0+0)=G.cell b 0).trans (Gk hU h0))) ?_
 refine aC 1 [] ?_
 refine aP (dH T.one22 rfl ((by rw [bO]:G.cell b (0+2)=G.cell b 2).trans (Gk hU h2))) ?_
 refine cX 1 rfl (LA _ _ _ _ _ _ _ _ _ _ qY qY qY qX qX hRL hR qX qX) fun v1 G1 Ho1 hle1 hp=>?_
 obtain ⟨rfl,rfl⟩:=hp
 replace hc:=hc.up hle1
 replace ho:=ho.up hle1
 replace ha:=ha.up hle1
 refine bA 7 [] ?_
 refine eJ ?_
 exact ⟨rfl,rfl⟩
theorem QM (G:Imm) (k:Nat) (b:Nat) (cs:Array Value) (ty:TypeId) (zz:Nat×Nat) (p:PV) (ac ao a:Option Addr) (cc co c:Nat) (l:List R2) (hU:G b=some (.cells cs ty zz)) (h0:cs[1]?=some (.int .i64 (k:Int))) (h2:cs[2]?=some (.slice a l.length c)) (hc:Arr G ac p.code) (ho:Arr G ao p.outs) (ha:Arr G a l) (hac:l.length≤c) (hl:l.length≤1048576) (hcl:p.code.length≤16384) (hol:p.outs.length≤1099511627776) (hRL:tV l) (hR:rJ p=true) (hk1:1≤k) (hk8:k≤8) :
 Does Tryz.prog 170 [.agg #[.int .i64 p.ins,.int .i64 p.regs,.slice ac p.code.length cc,.slice ao p.outs.length co],.pointer (some ⟨b,0,none⟩)] G [] (fun v G' Ho=>v=.tuple #[.bool (decide (tQ p (k:Int) l)),.int .i64 0]∧Ho=[]):=by
 refine D0 Tryz.func170 Tryz.ntmps170 fun w=>?_
 refine aM 2 [] ?_
 refine dY 0 fun b1=>?_
 refine aL 8 [0] ?_
 refine aP (dH T.one3 rfl ((by rw [bO]:G.cell b (0+1)=G.cell b 1).trans (Gk hU h0))) ?_
 refine aC 1 [] ?_
 refine aP (dH T.one22 rfl ((by rw [bO]:G.cell b (0+2)=G.cell b 2).trans (Gk hU h2))) ?_
 refine cX 1 rfl (LA _ _ _ _ _ _ _ _ _ _ qY qY qY qX qX hRL hR qX qX) fun v1 G1 Ho1 hle1 hp=>?_
 obtain ⟨rfl,rfl⟩:=hp
 replace hc:=hc.up hle1
 replace ho:=ho.up hle1
 replace ha:=ha.up hle1
 refine bA 7 [] ?_
 refine eJ ?_
 exact ⟨rfl,rfl⟩
theorem QN (G:Imm) (b:Nat) (cs:Array Value) (ty:TypeId) (zz:Nat×Nat) (p:PV) (ac ao a:Option Addr) (cc co c:Nat) (l:List R2) (hU:G b=some (.cells cs ty zz)) (h2:cs[2]?=some (.slice a l.length c)) (hc:Arr G ac p.code) (ho:Arr G ao p.outs) (ha:Arr G a l) (hac:l.length≤c) (hl:l.length≤1048576) (hcl:p.code.length≤16384) (hol:p.outs.length≤1099511627776) (hRL:tV l) (hR:rJ p=true) :
 Does Tryz.prog 171 [.agg #[.int .i64 p.ins,.int .i64 p.regs,.slice ac p.code.length cc,.slice ao p.outs.length co],.pointer (some ⟨b,0,none⟩)] G [] (fun v G' Ho=>v=.tuple #[.bool (decide (sT p l)),.int .i64 0]∧Ho=[]):=by
 refine D0 Tryz.func171 Tryz.ntmps171 fun w=>?_
 refine aM 2 [] ?_
 refine dY 0 fun b1=>?_
 refine aL 8 [0] ?_
 refine aP (dH T.one22 rfl ((by rw [bO]:G.cell b (0+2)=G.cell b 2).trans (Gk hU h2))) ?_
 refine cX 1 rfl (KW _ _ _ _ _ _ _ _ _ qY qY qX qX qY hac hl hRL hR) fun v1 G1 Ho1 hle1 hp=>?_
 obtain ⟨rfl,rfl⟩:=hp
 replace hc:=hc.up hle1
 replace ho:=ho.up hle1
 replace ha:=ha.up hle1
 refine bA 7 [] ?_
 refine eJ ?_
 exact ⟨rfl,rfl⟩
theorem QO (G:Imm) (k1 k2:Int) (pl:List R2) (pa:Option Addr) (pc:Nat) (xp yp zp:PV) (xac xao yac yao zac zao:Option Addr) (xcc xoc ycc yoc zcc zoc:Nat) :
 Does Tryz.prog 123 [.agg #[.int .i64 k1,.int .i64 k2,.slice pa pl.length pc,.int .i64 xp.ins,.int .i64 xp.regs,.slice xac xp.code.length xcc,.slice xao xp.outs.length xoc,.int .i64 yp.ins,.int .i64 yp.regs,.slice yac yp.code.length ycc,.slice yao yp.outs.length yoc,.int .i64 zp.ins,.int .i64 zp.regs,.slice zac zp.code.length zcc,.slice zao zp.outs.length zoc]] G [] (fun v G' Ho=>∃ (s:Option Addr) (b:Nat),v=.slice s ([⟨⟨xp.ins,xp.regs,xac,xp.code.length,xcc,xao,xp.outs.length,xoc⟩,168,b⟩,⟨⟨yp.ins,yp.regs,yac,yp.code.length,ycc,yao,yp.outs.length,yoc⟩,170,b⟩,⟨⟨zp.ins,zp.regs,zac,zp.code.length,zcc,zao,zp.outs.length,zoc⟩,171,b⟩]:List PF).length 3∧Arr G' s ([⟨⟨xp.ins,xp.regs,xac,xp.code.length,xcc,xao,xp.outs.length,xoc⟩,168,b⟩,⟨⟨yp.ins,yp.regs,yac,yp.code.length,ycc,yao,yp.outs.length,yoc⟩,170,b⟩,⟨⟨zp.ins,zp.regs,zac,zp.code.length,zcc,zao,zp.outs.length,zoc⟩,171,b⟩]:List PF)∧G' b=some (.cells #[.int .i64 k1,.int .i64 k2,.slice pa pl.length pc,.int .i64 xp.ins,.int .i64 xp.regs,.slice xac xp.code.length xcc,.slice xao xp.outs.length xoc,.int .i64 yp.ins,.int .i64 yp.regs,.slice yac yp.code.length ycc,.slice yao yp.outs.length yoc,.int .i64 zp.ins,.int .i64 zp.regs,.slice zac zp.code.length zcc,.slice zao zp.outs.length zoc] 28 (0,0))∧Ho=[]):=by
 refine D0 Tryz.func123 Tryz.ntmps123 fun w=>?_
 refine aM 2 [] ?_
 refine dY 0 fun b1=>?_
 refine aL 6 [] ?_
 refine aP (fM 0 T.agg26 rfl rfl rfl rfl) ?_
 refine aP (kU rfl rfl) ?_
 refine aP (fI (cs:=[_,_,_,_,_]) T.st203 rfl rfl rfl) ?_
 refine aC 1 [] ?_
 refine aP (fM 0 T.agg26 rfl rfl rfl rfl) ?_
 refine aP (kU rfl rfl) ?_
 refine aP (fI (cs:=[_,_,_,_,_]) T.st203 rfl rfl rfl) ?_
 refine aC 1 [] ?_
 refine aP (fM 0 T.agg26 rfl rfl rfl rfl) ?_
 refine aP (kU rfl rfl) ?_
 refine aP (fI (cs:=[_,_,_,_,_]) T.st203 rfl rfl rfl) ?_
 refine iC (α:=PF) 1 [⟨⟨xp.ins,xp.regs,xac,xp.code.length,xcc,xao,xp.outs.length,xoc⟩,168,b1⟩,⟨⟨yp.ins,yp.regs,yac,yp.code.length,ycc,yao,yp.outs.length,yoc⟩,170,b1⟩,⟨⟨zp.ins,zp.regs,zac,zp.code.length,zcc,zao,zp.outs.length,zoc⟩,171,b1⟩] rfl T.sl199 T.el203 rfl rfl rfl rfl rfl fun b2=>?_
 refine bA 4 [] ?_
 refine pT 0 rfl fun G1 hle1 hb1=>?_
 have hoF:OwnA (some ⟨b2,0,none⟩) 3 ([⟨⟨xp.ins,xp.regs,xac,xp.code.length,xcc,xao,xp.outs.length,xoc⟩,168,b1⟩,⟨⟨yp.ins,yp.regs,yac,yp.code.length,ycc,yao,yp.outs.length,yoc⟩,170,b1⟩,⟨⟨zp.ins,zp.regs,zac,zp.code.length,zcc,zao,zp.outs.length,zoc⟩,171,b1⟩]:List PF) []:=iG (by simp [maxLen])
 refine eT (α:=PF) 1 rfl hoF fun G2 hle2 hA2=>?_
 refine cI ?_
 exact ⟨_,b1,rfl,hA2,hle2 _ _ hb1,rfl⟩
end
section
attribute [local irreducible] tQ sT sD rJ tV
theorem c69 (G:Imm) (k1 k2:Int) (pl:List R2) (pa:Option Addr) (pc:Nat) (xp yp zp:PV) (xac xao yac yao zac zao:Option Addr) (xcc xoc ycc yoc zcc zoc:Nat) (hpa:Arr G pa pl) (hpc:pl.length≤pc) (hpl:pl.length≤1048576) (hxc:Arr G xac xp.code) (hxo:Arr G xao xp.outs) (hx1:xp.code.length≤16384) (hx2:xp.outs.length≤1048576) (hyc:Arr G yac yp.code) (hyo:Arr G yao yp.outs) (hy1:yp.code.length≤16384) (hy2:yp.outs.length≤1048576) (hzc:Arr G zac zp.code) (hzo:Arr G zao zp.outs) (hz1:zp.code.length≤16384) (hz2:zp.outs.length≤1048576) :
 Does Tryz.prog 69 [.agg #[.int .i64 k1,.int .i64 k2,.slice pa pl.length pc,.int .i64 xp.ins,.int .i64 xp.regs,.slice xac xp.code.length xcc,.slice xao xp.outs.length xoc,.int .i64 yp.ins,.int .i64 yp.regs,.slice yac yp.code.length ycc,.slice yao yp.outs.length yoc,.int .i64 zp.ins,.int .i64 zp.regs,.slice zac zp.code.length zcc,.slice zao zp.outs.length zoc]] G [] (fun v G' Ho=>v=.tuple #[.int .i64 (sJ k1 k2 pl xp yp zp).1,.int .i64 (sJ k1 k2 pl xp yp zp).2]∧Ho=[]):=by
 refine D0 Tryz.func69 Tryz.ntmps69 fun w=>?_
 by_cases hW:sD k1 k2 pl=0
 case neg =>
  refine aM 2 [] ?_
  refine dY 0 fun b1=>?_
  refine aL 12 [0,0,0] ?_
  refine cX 1 rfl (KY _ _ _ _ _ _ qY qX qX) fun v1 G1 Ho1 hle1 hp=>?_
  obtain ⟨pv1,rfl,rfl⟩:=hp
  replace hpa:=hpa.up hle1
  replace hxc:=hxc.up hle1
  replace hxo:=hxo.up hle1
  replace hyc:=hyc.up hle1
  replace hyo:=hyo.up hle1
  replace hzc:=hzc.up hle1
  replace hzo:=hzo.up hle1
  refine bA 24 [1] ?_
  refine eJ ?_
  exact ⟨by rw [HT hW],rfl⟩
 obtain ⟨hP1,hP2,hL,hRL⟩:=De hW
 obtain ⟨n1,rfl⟩:∃ n:Nat,k1=(n:Int):=⟨k1.toNat,by have:=hP1.1;omega⟩
 obtain ⟨n2,rfl⟩:∃ n:Nat,k2=(n:Int):=⟨k2.toNat,by have:=hP2.1;omega⟩
 have hn1:1≤n1∧n1≤8:=by have:=hP1.1;have:=hP1.2;omega
 have hn2:1≤n2∧n2≤8:=by have:=hP2.1;have:=hP2.2;omega
 refine aM 2 [] ?_
 refine dY 0 fun b1=>?_
 refine aL 12 [0,0,0] ?_
 refine cX 1 rfl (KY _ _ _ _ _ _ qY qX qX) fun v1 G1 Ho1 hle1 hp=>?_
 obtain ⟨pv1,rfl,rfl⟩:=hp
 replace hpa:=hpa.up hle1
 replace hxc:=hxc.up hle1
 replace hxo:=hxo.up hle1
 replace hyc:=hyc.up hle1
 replace hyo:=hyo.up hle1
 replace hzc:=hzc.up hle1
 replace hzo:=hzo.up hle1
 refine aL 21 [0,0] ?_
 refine cX 1 rfl (QO _ _ _ _ _ _ xp yp zp _ _ _ _ _ _ _ _ _ _ _ _) fun v2 G2 Ho2 hle2 hp=>?_
 obtain ⟨sp2,bp2,rfl,hpA2,hpB2,rfl⟩:=hp
 replace hpa:=hpa.up hle2
 replace hxc:=hxc.up hle2
 replace hxo:=hxo.up hle2
 replace hyc:=hyc.up hle2
 replace hyo:=hyo.up hle2
 replace hzc:=hzc.up hle2
 replace hzo:=hzo.up hle2
 refine bP 5 [] ?_
 refine Wc.lg (ι:=Nat×Imm) (fun (i,Gx)=>([(27,.int .i64 (i:Int)),(26,.int .i64 3),(25,.slice sp2 (List.length [PF.mk (PH.mk xp.ins xp.regs xac xp.code.length xcc xao xp.outs.length xoc) 168 bp2,PF.mk (PH.mk yp.ins yp.regs yac yp.code.length ycc yao yp.outs.length yoc) 170 bp2,PF.mk (PH.mk zp.ins zp.regs zac zp.code.length zcc zao zp.outs.length zoc) 171 bp2]) 3)],[(0,some b1,.cells #[.int .i64 (↑n1:Int),.int .i64 (↑n2:Int),.slice pa (List.length pl) pc,.int .i64 xp.ins,.int .i64 xp.regs,.slice xac xp.code.length xcc,.slice xao xp.outs.length xoc,.int .i64 yp.ins,.int .i64 yp.regs,.slice yac yp.code.length ycc,.slice yao yp.outs.length yoc,.int .i64 zp.ins,.int .i64 zp.regs,.slice zac zp.code.length zcc,.slice zao zp.outs.length zoc] 28)])) (fun (i,Gx)=>Gx) (fun (i,Gx)=>i≤3∧G2.le Gx∧(0<i→rJ xp=true∧tQ xp (n1:Int) pl)∧(1<i→rJ yp=true∧tQ yp (n2:Int) pl)∧(2<i→rJ zp=true∧sT zp pl)) (fun (i,Gx)=>3 - i) ((0,G2)) (⟨aZ _,cC _,fun h=>absurd h qX,fun h=>absurd h qX,fun h=>absurd h qX⟩) fun ⟨i,Gx⟩=>fun hk=>?_
 obtain ⟨hi0,hgx,hx9,hy9,hz9⟩:=hk
 have hB:=hgx _ _ hpB2
 replace hpA2:=hpA2.up hgx
 replace hpa:=hpa.up hgx
 replace hxc:=hxc.up hgx
 replace hxo:=hxo.up hgx
 replace hyc:=hyc.up hgx
 replace hyo:=hyo.up hgx
 replace hzc:=hzc.up hgx
 replace hzo:=hzo.up hgx
 have hi4:i=0∨i=1∨i=2∨i=3:=qX
 rcases hi4 with rfl | rfl | rfl | rfl
 · refine aM 14 [1] ?_
   refine aP (Qy.at (α:=PF) T.sl199 rfl rfl hpA2 (show 0≤((0:Nat):Int)∧((0:Nat):Int)<((3:Nat):Int) by omega)) ?_
   refine aP (pN T.agg203 rfl (Arr.elem hpA2 (show 0≤((0:Nat):Int)∧((0:Nat):Int)<((3:Nat):Int) by omega)) rfl) ?_
   refine kA 31 rfl (show _=Value.agg #[.int .i64 xp.ins,.int .i64 xp.regs,.slice xac xp.code.length xcc,.slice xao xp.outs.length xoc,.func (.func 168) #[] #[.pointer (some ⟨bp2,0,none⟩)]] from rfl) ?_
   by_cases hr:rJ xp=true
   · skip
     refine aW 1 rfl T.zero203 fun b2=>?_
     refine aL 7 [1] ?_
     refine aP (fM 1 T.agg26 rfl rfl rfl rfl) ?_
     refine bS rfl (Df _ xp _ _ _ _ qY qY qX qX hr) ?_
     refine aL 22 [0,1] ?_
     refine aP (fM 1 T.agg26 rfl rfl rfl rfl) ?_
     refine fX (fst:=[]) (cap:=[.pointer (some ⟨bp2,0,none⟩)]) 2 rfl T.fn168 rfl rfl (QL _ n1 bp2 _ _ _ xp xac xao pa xcc xoc pc pl hB rfl rfl hxc hxo hpa hpc hpl hx1 qX hRL hr qX qX) (sE trivial) fun v9 G9 Ho9 hle9 hp=>?_
     obtain ⟨rfl,rfl⟩:=hp
     refine aL 12 [] ?_
     refine qF 53 ?_
     refine aC 3 [] ?_
     refine aP (eK rfl) ?_
     refine bP 3 [] ?_
     refine eX (fun hc1=>?_) fun hc1=>?_
     refine bQ 14 [] ?_
     rotate_left
     refine bQ 7 [] ?_
     rotate_left
     · refine eJ ?_
       exact ⟨by rw [EX hW hr qY];rfl,rfl⟩
     refine cS 27 rfl (show _=Value.int .i64 ((1:Nat):Int) from rfl) ?_
     refine dX ((1,G9)) ?_ ?_
     · exact ⟨by omega,bI hgx hle9,fun _=>⟨hr,gD.1 qY⟩,fun h=>absurd h qX,fun h=>absurd h qX⟩
     show 3 - 1<3 - 0
     omega
   skip
   refine aW 1 rfl T.zero203 fun b2=>?_
   refine aL 7 [1] ?_
   refine aP (fM 1 T.agg26 rfl rfl rfl rfl) ?_
   refine bS rfl (AC _ xp _ _ _ _ qY qY qX qX hr) ?_
   refine bA 31 [1] ?_
   refine eJ ?_
   exact ⟨by rw [EW hW qY];rfl,rfl⟩
 · refine aM 14 [1] ?_
   refine aP (Qy.at (α:=PF) T.sl199 rfl rfl hpA2 (show 0≤((1:Nat):Int)∧((1:Nat):Int)<((3:Nat):Int) by omega)) ?_
   refine aP (pN T.agg203 rfl (Arr.elem hpA2 (show 0≤((1:Nat):Int)∧((1:Nat):Int)<((3:Nat):Int) by omega)) rfl) ?_
   refine kA 31 rfl (show _=Value.agg #[.int .i64 yp.ins,.int .i64 yp.regs,.slice yac yp.code.length ycc,.slice yao yp.outs.length yoc,.func (.func 170) #[] #[.pointer (some ⟨bp2,0,none⟩)]] from rfl) ?_
   by_cases hr:rJ yp=true
   · skip
     refine aW 1 rfl T.zero203 fun b2=>?_
     refine aL 7 [1] ?_
     refine aP (fM 1 T.agg26 rfl rfl rfl rfl) ?_
     refine bS rfl (Df _ yp _ _ _ _ qY qY qX qX hr) ?_
     refine aL 22 [0,1] ?_
     refine aP (fM 1 T.agg26 rfl rfl rfl rfl) ?_
     refine fX (fst:=[]) (cap:=[.pointer (some ⟨bp2,0,none⟩)]) 2 rfl T.fn170 rfl rfl (QM _ n2 bp2 _ _ _ yp yac yao pa ycc yoc pc pl hB rfl rfl hyc hyo hpa hpc hpl hy1 qX hRL hr qX qX) (sE trivial) fun v9 G9 Ho9 hle9 hp=>?_
     obtain ⟨rfl,rfl⟩:=hp
     refine aL 12 [] ?_
     refine qF 53 ?_
     refine aC 3 [] ?_
     refine aP (eK rfl) ?_
     refine bP 3 [] ?_
     refine eX (fun hc1=>?_) fun hc1=>?_
     refine bQ 14 [] ?_
     rotate_left
     refine bQ 7 [] ?_
     rotate_left
     · refine eJ ?_
       exact ⟨by rw [EZ hW (hx9 qX).1 (hx9 qX).2 hr qY];rfl,rfl⟩
     refine cS 27 rfl (show _=Value.int .i64 ((2:Nat):Int) from rfl) ?_
     refine dX ((2,G9)) ?_ ?_
     · exact ⟨by omega,bI hgx hle9,fun _=>hx9 qX,fun _=>⟨hr,gD.1 qY⟩,fun h=>absurd h qX⟩
     show 3 - 2<3 - 1
     omega
   skip
   refine aW 1 rfl T.zero203 fun b2=>?_
   refine aL 7 [1] ?_
   refine aP (fM 1 T.agg26 rfl rfl rfl rfl) ?_
   refine bS rfl (AC _ yp _ _ _ _ qY qY qX qX hr) ?_
   refine bA 31 [1] ?_
   refine eJ ?_
   exact ⟨by rw [EY hW (hx9 qX).1 (hx9 qX).2 qY];rfl,rfl⟩
 · refine aM 14 [1] ?_
   refine aP (Qy.at (α:=PF) T.sl199 rfl rfl hpA2 (show 0≤((2:Nat):Int)∧((2:Nat):Int)<((3:Nat):Int) by omega)) ?_
   refine aP (pN T.agg203 rfl (Arr.elem hpA2 (show 0≤((2:Nat):Int)∧((2:Nat):Int)<((3:Nat):Int) by omega)) rfl) ?_
   refine kA 31 rfl (show _=Value.agg #[.int .i64 zp.ins,.int .i64 zp.regs,.slice zac zp.code.length zcc,.slice zao zp.outs.length zoc,.func (.func 171) #[] #[.pointer (some ⟨bp2,0,none⟩)]] from rfl) ?_
   by_cases hr:rJ zp=true
   · skip
     refine aW 1 rfl T.zero203 fun b2=>?_
     refine aL 7 [1] ?_
     refine aP (fM 1 T.agg26 rfl rfl rfl rfl) ?_
     refine bS rfl (Df _ zp _ _ _ _ qY qY qX qX hr) ?_
     refine aL 22 [0,1] ?_
     refine aP (fM 1 T.agg26 rfl rfl rfl rfl) ?_
     refine fX (fst:=[]) (cap:=[.pointer (some ⟨bp2,0,none⟩)]) 2 rfl T.fn171 rfl rfl (QN _ bp2 _ _ _ zp zac zao pa zcc zoc pc pl hB rfl hzc hzo hpa hpc hpl hz1 qX hRL hr) (sE trivial) fun v9 G9 Ho9 hle9 hp=>?_
     obtain ⟨rfl,rfl⟩:=hp
     refine aL 12 [] ?_
     refine qF 53 ?_
     refine aC 3 [] ?_
     refine aP (eK rfl) ?_
     refine bP 3 [] ?_
     refine eX (fun hc1=>?_) fun hc1=>?_
     refine bQ 14 [] ?_
     rotate_left
     refine bQ 7 [] ?_
     rotate_left
     · refine eJ ?_
       exact ⟨by rw [FB hW (hx9 qX).1 (hx9 qX).2 (hy9 qX).1 (hy9 qX).2 hr qY];rfl,rfl⟩
     refine cS 27 rfl (show _=Value.int .i64 ((3:Nat):Int) from rfl) ?_
     refine dX ((3,G9)) ?_ ?_
     · exact ⟨by omega,bI hgx hle9,fun _=>hx9 qX,fun _=>hy9 qX,fun _=>⟨hr,gD.1 qY⟩⟩
     show 3 - 3<3 - 2
     omega
   skip
   refine aW 1 rfl T.zero203 fun b2=>?_
   refine aL 7 [1] ?_
   refine aP (fM 1 T.agg26 rfl rfl rfl rfl) ?_
   refine bS rfl (AC _ zp _ _ _ _ qY qY qX qX hr) ?_
   refine bA 31 [1] ?_
   refine eJ ?_
   exact ⟨by rw [FA hW (hx9 qX).1 (hx9 qX).2 (hy9 qX).1 (hy9 qX).2 qY];rfl,rfl⟩
 refine bQ 19 [0] ?_
 refine eJ ?_
 exact ⟨by rw [FC hW (hx9 qX).1 (hx9 qX).2 (hy9 qX).1 (hy9 qX).2 (hz9 qX).1 (hz9 qX).2],rfl⟩
end
end Go.Proofs.YtngphgeghfdjbaaGreatDoor
namespace Go.Sl
open Go
section
variable {P:Program} {B:Bs} {e:Env} {D:List Deferred} {H H':Hp} {G:Imm}
end
abbrev QP (x y:Option Nat×Obj) (T:Hp):Hp:=(0,x) :: (1,y) :: T.shift 2
section
variable {P:Program} {ops:Array Oper} {rest:List Oper} {B:Bs} {e:Env} {D:List Deferred} {H:Hp} {G:Imm} {K:Act→World→Prop}
 {ty:TypeId} {pos:String} {after:Array Edge} {d:Nat}
end
section
variable {P:Program} {B:Bs} {e:Env} {D:List Deferred} {H:Hp} {G:Imm}
theorem Qu {ι:Type} {I:ι→Env×Hp} {T:ι→Hp} {g:ι→Imm} {k:Nat} {φ:ι→Prop} {μ:ι→Nat} {m:Nat} {Q:Exit→Act→World→Prop} (j:ι) (hφ:φ j) (hμ:μ j<m) (hg:G=g j)
 (he:e.sub (I j).1) (hH:H.sub (I j).2) (ht:H.tl k (T j)):Ar (Exit.then (zV B (fun i=>⟨(I i).1,D,(I i).2++(T i).shift k,g i⟩) φ μ m) Q) .normal B ⟨e,D,H,G⟩:=
 fun a w hh=>⟨j,hφ,hμ,by rw [hg] at hh;exact hh.cutT he hH ht⟩
end
section stmt
variable {P:Program} {B:Bs} {e:Env} {D:List Deferred} {H:Hp} {G:Imm}
variable {β γ ι:Type} {Q:Exit→Act→World→Prop} {f:FuncId} {caps:List Value} {enc:β→γ→List Value} {o1 o2:β→γ→Option Nat×Obj} {good:β→γ→Prop} {xs:List β} {ps:List Nat} {assign body:Code} {g:Operand}
end stmt
section
variable {P:Program} {e:Env} {H:Hp} {G:Imm} {ty:TypeId}
end
abbrev QQ:=(Option Nat×Obj)×(Option Nat×Obj)
def Hp.keep (t:Nat):List QQ→Hp
 | []=>[]
 | z :: zs=>(t,z.1) :: (t+1,z.2) :: Hp.keep (t+2) zs
section
variable {P:Program} {B:Bs} {e:Env} {D:List Deferred} {H:Hp} {G:Imm}
end
def CellsAt (G:Imm) (b:Nat) (cs:List Value):Prop:=G.row b 0 cs
theorem CellsAt.up {G G':Imm} {b:Nat} {cs:List Value} (h:CellsAt G b cs) (hl:G.le G'):CellsAt G' b cs:=Em hl h
theorem CellsAt.cell {G:Imm} {b k:Nat} {cs:List Value} {v:Value} (h:CellsAt G b cs) (hv:cs[k]?=some v):G.cell b k=some v:=by
 have:=h k v hv
 rwa [bO] at this
theorem CellsAt.of {G:Imm} {b:Nat} {cs:List Value} {bt:TypeId} {fz:Nat×Nat} (h:G b=some (.cells cs.toArray bt fz)):CellsAt G b cs:=fun i v hi=>by
 simp only [Imm.cell,h,bO,lH];exact hi
abbrev oM:=@CellsAt.of
section
variable {P:Program} {e:Env} {H:Hp} {G:Imm} {ty T:TypeId}
theorem AD {x:Operand} {b off:Nat} {cs:List Value} {v:Value} (h1:sY P T=true) (hx:e.ev x=some (.pointer (some ⟨b,off,none⟩))) (h:CellsAt G b cs) (hv:cs[off]?=some v):Qy P (.load T x) ty e H G v:=dH h1 hx (h.cell hv)
abbrev fN:=@AD
end
def Qv (P:Program) (t:TypeId):Bool:=match P.underlying t with | some (.pointer _)=>true | _=>false
theorem zM {P:Program} {t:TypeId} {a:Option Addr} (ht:Qv P t=true) (d:Nat) (w:World):(Op.equalIn (d+1) t (.pointer a) (.pointer none)).run P w=.ok (decide (a=none)) w:=by
 unfold Qv at ht
 split at ht
 · rename_i e h
   cases a <;> simp [Op.equalIn,aO h]
 cases ht
section
variable {P:Program} {e:Env} {H:Hp} {G:Imm} {ty:TypeId}
theorem Qy.eqlPtrNil {t t':TypeId} {x y:Operand} {a:Option Addr} (ht:Qv P t=true) (hx:e.ev x=some (.pointer a)) (hy:e.ev y=some (.pointer none)):Qy P (.binOp .eql t x y t') ty e H G (.bool (decide (a=none))):=fun w0 w _ _ _ _ hh=>by
 have h:=zM (a:=a) ht 9999 w
 simp [execOp,hh.eval hx,hh.eval hy,binOp,eqGuard,Op.equal,Op.maxDepth,h]
end
theorem Does.frzAll {P:Program} {f:FuncId} {args:List Value} {G:Imm} {Hi:Hp} {post:Value→Imm→Hp→Prop} (h:Does P f args G Hi post) :
 Does P f args G Hi (fun v G' Ho=>∃ G0 Ho0,post v G0 Ho0∧G0.le G'∧Lf Ho0 G'∧Ho=[]):=by
 intro w hw
 refine (h w hw).mono fun x w' ⟨v,G0,Ho0,h1,h2,h3,h4,h5,h6,h7⟩=>?_
 obtain ⟨Gx,g1,g2,g3,g4⟩:=h2.lend
 refine ⟨v,Gx,[],h1,g3,bI h3 g1,h4,fun b hb h0=>?_,fun t b o hx=>by simp [Hp.get] at hx,G0,Ho0,h7,g1,g2,rfl⟩
 by_cases hg:G0 b=none
 · obtain ⟨t,o,ht⟩:=g4 b hb hg
   exact h6 t b o ht
 exact h5 b hg h0
end Go.Sl
namespace Go.Proofs.YtngphgeghfdjbaaGreatDoor
open Go Go.Sl
structure UH where
 pa:Option Addr
 pc:Nat
 xa:Option Addr
 xc:Nat
 xo:Option Addr
 xd:Nat
 ya:Option Addr
 yc:Nat
 yo:Option Addr
 yd:Nat
 za:Option Addr
 zc:Nat
 zo:Option Addr
 zd:Nat
def uC (u:UV) (h:UH):List Value:=[.int .i64 u.k1,.int .i64 u.k2,.slice h.pa u.pl.length h.pc,.int .i64 u.x.ins,.int .i64 u.x.regs,.slice h.xa u.x.code.length h.xc,.slice h.xo u.x.outs.length h.xd,.int .i64 u.y.ins,.int .i64 u.y.regs,.slice h.ya u.y.code.length h.yc,.slice h.yo u.y.outs.length h.yd,.int .i64 u.z.ins,.int .i64 u.z.regs,.slice h.za u.z.code.length h.zc,.slice h.zo u.z.outs.length h.zd]
structure UIn (G:Imm) (u:UV) (h:UH):Prop where
 cap:u.pl.length≤h.pc
 pl:Arr G h.pa u.pl
 xc:Arr G h.xa u.x.code
 xo:Arr G h.xo u.x.outs
 yc:Arr G h.ya u.y.code
 yo:Arr G h.yo u.y.outs
 zc:Arr G h.za u.z.code
 zo:Arr G h.zo u.z.outs
theorem UIn.up {G G':Imm} {u:UV} {h:UH} (i:UIn G u h) (hl:G.le G'):UIn G' u h:=⟨i.cap,i.pl.up hl,i.xc.up hl,i.xo.up hl,i.yc.up hl,i.yo.up hl,i.zc.up hl,i.zo.up hl⟩
structure MidU (u:UV):Prop where
 pl:u.pl.length≤1048576
 x1:u.x.code.length≤16384
 x2:u.x.outs.length≤1048576
 y1:u.y.code.length≤16384
 y2:u.y.outs.length≤1048576
 z1:u.z.code.length≤16384
 z2:u.z.outs.length≤1048576
structure UJ where
 p:List Value
 x:List Value
 a:List Value
 y:List Value
 b:List Value
 z:List Value
 c:List Value
def AE (t:Nat) (u:UV) (h:UH) (j:UJ):Hp:=[(t,h.pa.map (·.block),rP 51 u.pl j.p),(t+1,h.xa.map (·.block),rP 211 u.x.code j.x),(t+2,h.xo.map (·.block),rP 3 u.x.outs j.a),(t+3,h.ya.map (·.block),rP 211 u.y.code j.y),(t+4,h.yo.map (·.block),rP 3 u.y.outs j.b),(t+5,h.za.map (·.block),rP 211 u.z.code j.z),(t+6,h.zo.map (·.block),rP 3 u.z.outs j.c)]
structure UOwn (u:UV) (h:UH) (j:UJ):Prop where
 pl:OwnA h.pa h.pc u.pl j.p
 xc:OwnA h.xa h.xc u.x.code j.x
 xo:OwnA h.xo h.xd u.x.outs j.a
 yc:OwnA h.ya h.yc u.y.code j.y
 yo:OwnA h.yo h.yd u.y.outs j.b
 zc:OwnA h.za h.zc u.z.code j.z
 zo:OwnA h.zo h.zd u.z.outs j.c
theorem UOwn.lent {u:UV} {h:UH} {j:UJ} {H:Hp} {G:Imm} (o:UOwn u h j) (hb:Lf H G) {t:Nat} (h0:H.get t=some (h.pa.map (·.block),rP 51 u.pl j.p)) (h1:H.get (t+1)=some (h.xa.map (·.block),rP 211 u.x.code j.x)) (h2:H.get (t+2)=some (h.xo.map (·.block),rP 3 u.x.outs j.a)) (h3:H.get (t+3)=some (h.ya.map (·.block),rP 211 u.y.code j.y)) (h4:H.get (t+4)=some (h.yo.map (·.block),rP 3 u.y.outs j.b)) (h5:H.get (t+5)=some (h.za.map (·.block),rP 211 u.z.code j.z)) (h6:H.get (t+6)=some (h.zo.map (·.block),rP 3 u.z.outs j.c)):UIn G u h:=
 ⟨o.pl.le,pP hb _ h0 o.pl,pP hb _ h1 o.xc,pP hb _ h2 o.xo,pP hb _ h3 o.yc,pP hb _ h4 o.yo,pP hb _ h5 o.zc,pP hb _ h6 o.zo⟩
theorem QR (G:Imm) (u:UV) (h:UH) (i:UIn G u h) (m:MidU u) :
 Does Tryz.prog 69 [.agg (uC u h).toArray] G [] (fun v G' Ho=>v=.tuple #[.int .i64 (sJ u.k1 u.k2 u.pl u.x u.y u.z).1,.int .i64 (sJ u.k1 u.k2 u.pl u.x u.y u.z).2]∧Ho=[]):=
 c69 G u.k1 u.k2 u.pl h.pa h.pc u.x u.y u.z h.xa h.xo h.ya h.yo h.za h.zo h.xc h.xd h.yc h.yd h.zc h.zd i.pl i.cap m.pl i.xc i.xo m.x1 m.x2 i.yc i.yo m.y1 m.y2 i.zc i.zo m.z1 m.z2
end Go.Proofs.YtngphgeghfdjbaaGreatDoor
namespace Go.Sl.Ez
open Go Go.Sl
section
variable {P:Program} {w:World}
theorem run_mark {t e:TypeId} {b o n c:Nat} {cs:Array Value} {ty:TypeId} (ht:P.underlying t=some (.slice e)) (he:P.underlying e=some (.int .u8)) (hb:w.heap[b]?=some (.cells cs ty (0,0))) :
 (convert t t (.slice (some ⟨b,o,none⟩) n c)).run P w=.ok (.slice (some ⟨b,o,none⟩) n c) (w.freeze ⟨b,cs.size,none⟩ 1):=by
 have hsh:w.shape? b=some (ty,cs.size):=by unfold World.shape?;rw [hb]
 simp [convert,aO ht,aO he,markStringish,hsh]
theorem freeze_upd {b k:Nat}:Upd (·=b) w (w.freeze ⟨b,k,none⟩ 1):=⟨rfl,rfl,rfl,by simp [World.freeze],fun j _ hj=>by
 have hj':b≠j:=fun e=>hj e.symm
 simp [World.freeze,jB,hj']⟩
theorem freeze_at {b k:Nat} {cs:Array Value} {ty:TypeId} (hb:w.heap[b]?=some (.cells cs ty (0,0))):(w.freeze ⟨b,k,none⟩ 1).heap[b]?=some (.cells cs ty (k,k+1)):=by
 simp [World.freeze,jB,hb]
end
section
variable {P:Program} {e:Env} {H:Hp} {G:Imm} {ty T:TypeId}
theorem Qy.indexV {x i:Operand} {n E:Nat} {k:IntKind} {m:Int} {vs:List Value} {v:Value} (hu:P.underlying T=some (.array n E)) (h1:sY P E=true) (hs:(P.info? E).map (·.size)=some 1) (hx:e.ev x=some (.agg vs.toArray)) (hi:e.ev i=some (.int k m))
 (hb:0≤m∧m<n) (hv:vs[m.toNat]?=some v):Qy P (.index T x i) ty e H G v:=fun a w _ _ _ _ hh=>by
 simp [execOp,Instr.index,hh.eval hx,hh.eval hi,asIntOf,aO hu,hb,run_sizeOf w hs,part,tG w h1,hv]
end
end Go.Sl.Ez
namespace Go.Proofs.YtngphgeghfdjbaaGreatDoor
open Go Go.Sl
theorem AF {n k:Nat} (hk:1≤k):CO n k=if n / k*k<n then n / k+1 else n / k:=by
 unfold CO
 have h1:=kH n k
 have h2:=lN n hk
 have h3:n / k*k=k*(n / k):=gZ _ _
 split
 · rw [show n+k - 1=(n % k - 1)+k*(n / k+1) by rw [mH,oW];omega,Nat.add_mul_div_left _ _ hk,Nat.div_eq_of_lt qX];omega
 rw [show n+k - 1=(k - 1)+k*(n / k) by omega,Nat.add_mul_div_left _ _ hk,Nat.div_eq_of_lt qX];omega
theorem LB (a b:Nat):(if (a:Int)<(b:Int) then (b:Int) else (a:Int))=((max a b:Nat):Int):=by split <;> omega
theorem QS {n1 n2 k1 k2:Nat} {th:Int}:((if th<1 then 1 else th)<(if (n2:Int)<(n1:Int) then (n2:Int) else (n1:Int))∧(blkP n1 n2 k1 k2:Int)<if (n1:Int)<(n2:Int) then (n2:Int) else (n1:Int))↔tD n1 n2 k1 k2 th:=by
 unfold tD
 split <;> split <;> split <;> constructor <;> intro h <;> omega
theorem QT {n1 n2 k1 k2:Nat} {th:Int}:(((if th<1 then 1 else th)<(n1:Int)∧(if th<1 then 1 else th)<(n2:Int))∧(blkP n1 n2 k1 k2:Int)<if (n1:Int)<(n2:Int) then (n2:Int) else (n1:Int))↔tD n1 n2 k1 k2 th:=by
 unfold tD
 split <;> split <;> constructor <;> intro h <;> omega
theorem LC (G:Imm) (n k:Nat) (hn:n≤1048576) (hk:1≤k∧k≤8) :
 Does Tryz.prog 147 [.int .i64 (n:Int),.int .i64 (k:Int)] G [] (fun v G' Ho=>v=.int .i64 (CO n k:Int)∧G'=G∧Ho=[]):=by
 refine fG Tryz.func147 rfl Tryz.ntmps147 rfl fun w=>?_
 refine aM 12 [] ?_
 refine dS rfl (oH rfl rfl qX) ?_
 refine bA 4 [] ?_
 refine cI ?_
 refine ⟨?_,rfl,rfl⟩
 rw [show ((n:Int)+(k:Int) - 1)=((n+k - 1:Nat):Int) by omega,←Int.natCast_ediv];rfl
theorem QU (G:Imm) (n1 n2 k1 k2:Nat) (h1:n1≤4096) (h2:n2≤4096) (h3:1≤k1∧k1≤8) (h4:1≤k2∧k2≤8) :
 Does Tryz.prog 146 [.int .i64 (n1:Int),.int .i64 (n2:Int),.int .i64 (k1:Int),.int .i64 (k2:Int)] G [] (fun v G' Ho=>v=.bool (decide (1=1))∧G'=G∧Ho=[]):=by
 refine fG Tryz.func146 rfl Tryz.ntmps146 rfl fun w=>?_
 refine aM 10 [] ?_
 refine dS rfl (qS (cs:=[_,_]) T.ar279 rfl rfl rfl) ?_
 refine bP 4 [] ?_
 refine Fc (lA ?_)
 refine aM 13 [1] ?_
 refine dS rfl (Ez.Qy.indexV (n:=2) (E:=3) rD rD rD rfl rfl rI rfl) ?_
 refine aL 8 [] ?_
 refine qE 21 rfl sW ?_
 refine bA 15 [0] ?_
 refine cS 16 rfl (show _=Value.int .i64 (1:Int) from rfl) ?_
 refine pR (lA ?_)
 refine aM 13 [1] ?_
 refine dS rfl (Ez.Qy.indexV (n:=2) (E:=3) rD rD rD rfl rfl rI rfl) ?_
 refine aL 8 [] ?_
 refine qE 21 rfl sW ?_
 refine bA 15 [0] ?_
 refine cS 16 rfl (show _=Value.int .i64 (2:Int) from rfl) ?_
 refine pR (lA ?_)
 refine aM 17 [0] ?_
 refine dS rfl (qS (cs:=[_,_]) T.ar279 rfl rfl rfl) ?_
 refine bP 4 [] ?_
 refine Fc (lA ?_)
 refine aM 13 [1] ?_
 refine dS rfl (Ez.Qy.indexV (n:=2) (E:=3) rD rD rD rfl rfl rI rfl) ?_
 refine aL 8 [] ?_
 refine qE 34 rfl sW ?_
 refine bA 15 [0] ?_
 refine cS 29 rfl (show _=Value.int .i64 (1:Int) from rfl) ?_
 refine pR (lA ?_)
 refine aM 13 [1] ?_
 refine dS rfl (Ez.Qy.indexV (n:=2) (E:=3) rD rD rD rfl rfl rI rfl) ?_
 refine aL 8 [] ?_
 refine qE 34 rfl sW ?_
 refine bA 15 [0] ?_
 refine cS 29 rfl (show _=Value.int .i64 (2:Int) from rfl) ?_
 refine pR (lA ?_)
 refine bQ 18 [0] ?_
 refine cI ?_
 exact ⟨rfl,rfl,rfl⟩
theorem c92 (G:Imm) (n1 n2 k1 k2:Nat) (h1:n1≤4096) (h2:n2≤4096) (h3:1≤k1∧k1≤8) (h4:1≤k2∧k2≤8) :
 Does Tryz.prog 92 [.int .i64 (n1:Int),.int .i64 (n2:Int),.int .i64 (k1:Int),.int .i64 (k2:Int)] G [] (fun v G' Ho=>v=.tuple #[.int .i64 (blkP n1 n2 k1 k2:Int),.int .i64 0]∧G'=G∧Ho=[]):=by
 refine fG Tryz.func92 rfl Tryz.ntmps92 rfl fun w=>?_
 refine aM 13 [] ?_
 refine bS rfl (QU _ _ _ _ _ qX qX qX qX) ?_
 refine dS rfl (eK rfl) ?_
 refine aL 9 [0] ?_
 refine bS rfl (LC _ _ _ qX qX) ?_
 refine aC 2 [] ?_
 refine bS rfl (LC _ _ _ qX qX) ?_
 refine dS rfl (qR rfl rfl) ?_
 refine bA 5 [] ?_
 refine eJ ?_
 exact ⟨by rw [LB];rfl,rfl,rfl⟩
theorem c40 (G:Imm) (n1 n2 k1 k2:Nat) (th:Int) (h1:n1≤4096) (h2:n2≤4096) (h3:1≤k1∧k1≤8) (h4:1≤k2∧k2≤8) :
 Does Tryz.prog 40 [.int .i64 (n1:Int),.int .i64 (n2:Int),.int .i64 (k1:Int),.int .i64 (k2:Int),.int .i64 th] G [] (fun v G' Ho=>v=.tuple #[.bool (decide (tD n1 n2 k1 k2 th)),.int .i64 0]∧G'=G∧Ho=[]):=by
 refine fG Tryz.func40 rfl Tryz.ntmps40 rfl fun w=>?_
 refine aM 12 [] ?_
 refine bS rfl (c92 _ _ _ _ _ qX qX qX qX) ?_
 refine aL 21 [0] ?_
 refine dS rfl (Qy.min rfl rfl) ?_
 refine aC 1 [] ?_
 refine dS rfl (qR rfl rfl) ?_
 refine aC 2 [] ?_
 apply dT 6 31 37 rfl
 intro hg1
 refine aC 7 [] ?_
 refine dS rfl (qR rfl rfl) ?_
 refine aC 3 [] ?_
 exact eV 6 0 rfl rfl rfl rfl rfl
 intro hg1
 refine aC 6 [] ?_
 exact eV 6 0 rfl rfl rfl rfl rfl
 refine bA 5 [] ?_
 refine eJ ?_
 exact ⟨congrArg (fun b=>Value.tuple #[Value.bool b,.int .i64 0]) (fH.2 QS),rfl,rfl⟩
theorem c80 (G:Imm) (u:UV) (h:UH) (b:Nat) (k1 k2 n1 n2:Nat) (th:Int) (hb:CellsAt G b (uC u h)) (e1:u.k1=(k1:Int)) (e2:u.k2=(k2:Int)) (h1:n1≤4096) (h2:n2≤4096) (h3:1≤k1∧k1≤8) (h4:1≤k2∧k2≤8) :
 Does Tryz.prog 80 [.pointer (some ⟨b,0,none⟩),.int .i64 (n1:Int),.int .i64 (n2:Int),.int .i64 th] G [] (fun v G' Ho=>v=.tuple #[.int .i64 (blkP n1 n2 k1 k2:Int),.bool (decide (tD n1 n2 k1 k2 th))]∧G'=G∧Ho=[]):=by
 have hb0:G.cell b 0=some (.int .i64 (k1:Int)):=by rw [←e1];exact hb.cell rfl
 have hb1:G.cell b 1=some (.int .i64 (k2:Int)):=by rw [←e2];exact hb.cell rfl
 refine fG Tryz.func80 rfl Tryz.ntmps80 rfl fun w=>?_
 refine cZ 7 [] ?_
 refine mN [] [] T.mixed rfl ?_
 refine eF 0 [] [] ?_
 refine eF 1 [] [] ?_
 refine eF 2 [] [] ?_
 refine eF 3 [] [] ?_
 refine eF 4 [] [] ?_
 refine eF 5 [] [] ?_
 refine gQ 6 [] rfl (dH T.one3 rfl qY) ?_
 refine eF 7 [] [] ?_
 refine eF 8 [] [] ?_
 refine eF 9 [] [] ?_
 refine eF 10 [] [] ?_
 refine gQ 11 [] rfl (dH T.one3 rfl qY) ?_
 refine eF 12 [] [] ?_
 refine Gm.one 13 trivial Tv rD rfl ?_
 refine bS rfl (c40 _ _ _ _ _ _ qX qX qX qX) ?_
 refine eU ?_
 refine eF 14 [] [] ?_
 refine eF 15 [] [] ?_
 refine eF 16 [] [] ?_
 refine eF 17 [] [] ?_
 refine eF 18 [] [] ?_
 refine pH rD trivial Tv ?_
 refine oS 2 [] ?_
 refine mN [] [] T.mixed rfl ?_
 refine eF 0 [] [] ?_
 refine eF 1 [] [] ?_
 refine eF 2 [] [] ?_
 refine eF 3 [] [] ?_
 refine eF 4 [] [] ?_
 refine eF 5 [] [] ?_
 refine gQ 6 [] rfl (dH T.one3 rfl qY) ?_
 refine eF 7 [] [] ?_
 refine eF 8 [] [] ?_
 refine eF 9 [] [] ?_
 refine eF 10 [] [] ?_
 refine gQ 11 [] rfl (dH T.one3 rfl qY) ?_
 refine Gm.one 12 trivial Tv rD rfl ?_
 refine bS rfl (c92 _ _ _ _ _ qX qX qX qX) ?_
 refine eU ?_
 refine eF 13 [] [] ?_
 refine eF 14 [] [] ?_
 refine eF 15 [] [] ?_
 refine eF 16 [] [] ?_
 refine eF 17 [] [] ?_
 refine pH rD trivial Tv ?_
 refine iN 10 [] ?_
 refine eJ ?_
 exact ⟨rfl,rfl,rfl⟩
theorem c86 (G:Imm) (n k:Nat) (hn:n≤1048576) (hk:1≤k∧k≤8) :
 Does Tryz.prog 86 [.int .i64 (n:Int),.int .i64 (k:Int)] G [] (fun v G' Ho=>v=.int .i64 (CO n k:Int)∧G'=G∧Ho=[]):=by
 have hq:((n:Int) / (k:Int))=((n / k:Nat):Int):=(Int.natCast_ediv n k).symm
 have hq0:0≤(n:Int) / (k:Int):=by rw [hq];exact kM _
 have hqb:n / k≤n:=Nat.div_le_self _ _
 have hqm:n / k*k≤n:=Nat.div_mul_le_self _ _
 have hN:(n:Int) / (k:Int)*(k:Int)=((n / k*k:Nat):Int):=by rw [hq,cF]
 have hI:0≤(n:Int) / (k:Int)*(k:Int)∧(n:Int) / (k:Int)*(k:Int)≤(n:Int):=by
  rw [hN]
  exact ⟨kM _,mW.2 hqm⟩
 refine fG Tryz.func86 rfl Tryz.ntmps86 rfl fun w=>?_
 refine aM 9 [] ?_
 refine dS rfl (oH rfl rfl qX) ?_
 refine aL 8 [] ?_
 refine dS rfl (mJ rfl rfl qX) ?_
 refine bP 4 [] ?_
 refine lZ rfl (fun hc1=>?_) fun hc1=>?_
 refine bQ 13 [] ?_
 refine cI ?_
 rotate_left
 refine bQ 9 [] ?_
 refine cI ?_
 rotate_left
 · refine ⟨congrArg _ ?_,rfl,rfl⟩
   rw [AF hk.1,aT (by omega)]
   omega
 refine ⟨congrArg _ ?_,rfl,rfl⟩
 rw [AF hk.1,aF (by omega)]
 omega
theorem QV (G:Imm) (n1 n2 k1 k2:Nat) (h1:n1≤4096) (h2:n2≤4096) (h3:1≤k1∧k1≤8) (h4:1≤k2∧k2≤8) :
 Does Tryz.prog 34 [.int .i64 (n1:Int),.int .i64 (n2:Int),.int .i64 (k1:Int),.int .i64 (k2:Int)] G [] (fun v G' Ho=>v=.int .i64 (blkP n1 n2 k1 k2:Int)∧G'=G∧Ho=[]):=by
 refine fG Tryz.func34 rfl Tryz.ntmps34 rfl fun w=>?_
 refine aM 9 [] ?_
 refine bS rfl (c86 _ _ _ qX qX) ?_
 refine aC 2 [] ?_
 refine bS rfl (c86 _ _ _ qX qX) ?_
 refine dS rfl (qR rfl rfl) ?_
 refine bA 4 [] ?_
 refine cI ?_
 exact ⟨by rw [LB];rfl,rfl,rfl⟩
theorem QW (G:Imm) (n1 n2 k1 k2:Nat) (th:Int) (h1:n1≤4096) (h2:n2≤4096) (h3:1≤k1∧k1≤8) (h4:1≤k2∧k2≤8) :
 Does Tryz.prog 30 [.int .i64 (n1:Int),.int .i64 (n2:Int),.int .i64 (k1:Int),.int .i64 (k2:Int),.int .i64 th] G [] (fun v G' Ho=>v=.bool (decide (tD n1 n2 k1 k2 th))∧G'=G∧Ho=[]):=by
 refine fG Tryz.func30 rfl Tryz.ntmps30 rfl fun w=>?_
 refine aM 8 [] ?_
 refine dS rfl (qR rfl rfl) ?_
 refine aL 9 [] ?_
 apply dT 4 17 21 rfl
 intro hg1
 refine aC 7 [] ?_
 exact eV 4 0 rfl rfl rfl rfl rfl
 intro hg1
 refine aC 4 [] ?_
 exact eV 4 0 rfl rfl rfl rfl rfl
 refine aC 1 [] ?_
 apply dT 10 22 32 rfl
 intro hg1
 refine aC 9 [] ?_
 refine bS rfl (QV _ _ _ _ _ qX qX qX qX) ?_
 refine aC 5 [] ?_
 refine dS rfl (qR rfl rfl) ?_
 refine aC 3 [] ?_
 exact eV 10 0 rfl rfl rfl rfl rfl
 intro hg1
 refine aC 10 [] ?_
 exact eV 10 0 rfl rfl rfl rfl rfl
 refine bA 4 [] ?_
 refine cI ?_
 exact ⟨congrArg Value.bool (fH.2 QT),rfl,rfl⟩
def stepsU (u:UV):Nat:=u.x.code.length+u.y.code.length+u.z.code.length
structure Cnt (u:UV) (k1 k2:Nat):Prop where
 e1:u.k1=(k1:Int)
 e2:u.k2=(k2:Int)
 a1:1≤k1
 b1:k1≤8
 a2:1≤k2
 b2:k2≤8
 n:k1+k2=u.pl.length+1
def TLv (t:TL):List Value:=[.int .i64 (t.lv:Int),.int .i64 (t.ca:Int),.int .i64 (t.pr:Int),.int .i64 (t.st:Int)]
theorem AG {u:UV} (h:sJ u.k1 u.k2 u.pl u.x u.y u.z=(0,0)):∃ k1 k2,Cnt u k1 k2:=by
 have hW:sD u.k1 u.k2 u.pl=0:=by
  refine gX fun hW=>?_
  unfold sJ at h
  rw [aT hW] at h
  exact hW (Prod.mk.inj h).2
 obtain ⟨hP1,hP2,hL,hRL⟩:=De hW
 have h1:=hP1.1
 have h2:=hP1.2
 have h3:=hP2.1
 have h4:=hP2.2
 refine ⟨u.k1.toNat,u.k2.toNat,by omega,by omega,by omega,by omega,by omega,by omega,by omega⟩
section
attribute [local irreducible] blkP tD rM
theorem c19 (G:Imm) (u:UV) (h:UH) (k1 k2:Nat) (hc:Cnt u k1 k2) (hs:stepsU u≤49152) (th:Int):∀ (N n1 n2:Nat),max n1 n2=N→N≤2048→
 Does Tryz.prog 19 [.agg (uC u h).toArray,.int .i64 (n1:Int),.int .i64 (n2:Int),.int .i64 th] G [] (fun v G' Ho=>v=.agg (TLv (foreP k1 k2 u.pl.length (stepsU u) th n1 n2)).toArray∧G'=G∧Ho=[]):=by
 obtain ⟨uk1,uk2,pl,x,y,z⟩:=u
 obtain ⟨e1,e2,a1,b1,a2,b2,hn⟩:=hc
 dsimp only at e1 e2 hn
 subst e1 e2
 unfold stepsU at hs ⊢
 dsimp only at hs ⊢
 generalize hst:x.code.length+y.code.length+z.code.length=st at hs ⊢
 have hpl:pl.length≤15:=qX
 intro N
 induction N using Nat.strongRecOn with
 | _ N ih =>
   intro n1 n2 hN hN2
   have hf:=Ce (k1:=k1) (k2:=k2) (n:=pl.length) (st:=st) (n1:=n1) (n2:=n2) (th:=th) a1 b1 a2 b2 hn qX hs
   by_cases he:tD n1 n2 k1 k2 th
   · have hlt:blkP n1 n2 k1 k2<N:=by rw [←hN];exact (show tD n1 n2 k1 k2 th from he) |> fun g=>by unfold tD at g;exact g.2
     have ih':=ih _ hlt (blkP n1 n2 k1 k2) (blkP n1 n2 k1 k2) (Nat.max_self _) qX
     rw [Fz he] at hf ⊢
     generalize foreP k1 k2 pl.length st th (blkP n1 n2 k1 k2) (blkP n1 n2 k1 k2)=t at ih' hf ⊢
     obtain ⟨f1,f2,f3,f4⟩:=hf
     dsimp only at f1 f2 f3 f4
     have hb:blkP n1 n2 k1 k2≤2048:=qX
     unfold uC
     dsimp only
     refine fG Tryz.func19 rfl Tryz.ntmps19 rfl fun w=>?_
     refine aM 2 [] ?_
     refine lK 0 rfl rfl rfl fun b3=>?_
     refine aW 1 rfl T.zero37 fun b4=>?_
     refine aL 12 [0,0] ?_
     refine bS rfl (QW _ _ _ _ _ _ qX qX qX qX) ?_
     refine dS rfl (eK rfl) ?_
     refine bP 2 [] ?_
     refine lZ rfl (fun hc1=>?_) fun hc1=>?_
     refine aM 4 [] ?_
     refine dS rfl (kG rfl rfl) ?_
     refine dS rfl (fI (cs:=[_,_,_,_]) T.st37 rfl rfl rfl) ?_
     refine bA 5 [1] ?_
     refine eH (.inr rfl) (Ho:=Hp.only _ []) rfl (.agg 1 rfl rfl T.agg37) (bN _ _) ?_
     rotate_left
     refine aM 18 [0,0,0] ?_
     refine bS rfl (QV _ _ _ _ _ qX qX qX qX) ?_
     refine aL 9 [0] ?_
     refine bS rfl (by apply ih' <;> first | assumption | omega | rfl) ?_
     refine aW 2 rfl T.zero37 fun b5=>?_
     refine aL 8 [2,2] ?_
     refine dS rfl (mJ rfl rfl qX) ?_
     refine aC 5 [2] ?_
     refine dS rfl (mJ rfl rfl qX) ?_
     refine aC 4 [2] ?_
     refine dS rfl (mJ rfl rfl qX) ?_
     refine aC 17 [0,0,0,2] ?_
     refine dS rfl (mJ rfl rfl qX) ?_
     refine aC 1 [] ?_
     refine dS rfl (fI (cs:=[_,_,_,_]) T.st37 rfl rfl rfl) ?_
     refine bA 4 [1] ?_
     refine eH (.inr rfl) (Ho:=Hp.only _ []) rfl (.agg 1 rfl rfl T.agg37) (bN _ _) ?_
     rotate_left
     · exact absurd he qY
     refine ⟨?_,rfl,rfl⟩
     unfold TLv
     dsimp only
     rw [←hst]
     simp only [iX,cF,Int.natCast_one]
   rw [Cb he] at hf ⊢
   obtain ⟨f1,f2,f3,f4⟩:=hf
   dsimp only at f1 f2 f3 f4
   unfold uC
   dsimp only
   refine fG Tryz.func19 rfl Tryz.ntmps19 rfl fun w=>?_
   refine aM 2 [] ?_
   refine lK 0 rfl rfl rfl fun b3=>?_
   refine aW 1 rfl T.zero37 fun b4=>?_
   refine aL 12 [0,0] ?_
   refine bS rfl (QW _ _ _ _ _ _ qX qX qX qX) ?_
   refine dS rfl (eK rfl) ?_
   refine aL 7 [1] ?_
   refine dS rfl (mJ rfl rfl qX) ?_
   refine dS rfl (fI (cs:=[_,_,_,_]) T.st37 rfl rfl rfl) ?_
   refine bA 5 [1] ?_
   refine eH (.inr rfl) (Ho:=Hp.only _ []) rfl (.agg 1 rfl rfl T.agg37) (bN _ _) ?_
   refine ⟨?_,rfl,rfl⟩
   unfold TLv
   dsimp only
   simp only [cF]
   rfl
end
end Go.Proofs.YtngphgeghfdjbaaGreatDoor
