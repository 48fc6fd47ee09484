/- vD of the proof (part 9): what the rows' text needs of the texts that lead to it. -/
import Derived.Test.YtkdelpdbjfpgmaaGreatDoorMPh
set_option linter.unusedVariables false
set_option linter.unusedSimpArgs false
set_option linter.unusedSectionVars false
set_option maxHeartbeats 4000000
set_option maxRecDepth 100000
namespace Go.Proofs.YtkdelpdbjfpgmaaGreatDoor
open Go Go.Sl
def Hc (i:Sl.Instr):Bool:=decide (i.op=1∧i.to=i.a)
def xY:List Sl.Instr→Sl.Instr→List Sl.Instr
 | [],b=>if Hc b=true then [] else [b]
 | a :: s,b=>if Hc b=true then a :: s else if (uV a b).2=true then xY s (uV a b).1 else b :: a :: s
def Cg (L:List Sl.Instr) (b:Sl.Instr):List Sl.Instr:=(xY L.reverse b).reverse
def Qu (l:List Sl.Instr):List Sl.Instr:=l.foldl (fun s i=>xY s (uF i)) []
def zA (p:PV) (k:Nat):List Sl.Instr:=(Qu (p.code.take k)).reverse
def zD (p:PV):PV:=⟨p.ins,p.regs,(Qu p.code).reverse,p.outs⟩
theorem Qv {L:List Sl.Instr} {b:Sl.Instr} (h:Hc b=true):Cg L b=L:=by
 unfold Cg;cases hL:L.reverse with
 | nil=>rw [xY,aE h,←hL,rF]
 | cons a s=>rw [xY,aE h,←hL,rF]
theorem KC {b:Sl.Instr} (h:¬Hc b=true):Cg [] b=[b]:=by
 unfold Cg;rw [List.reverse_nil,xY,aD h];rfl
theorem Qw {M:List Sl.Instr} {a b:Sl.Instr} (h:¬Hc b=true) (hm:(uV a b).2=true):Cg (M++[a]) b=Cg M (uV a b).1:=by
 unfold Cg;rw [List.reverse_append,List.reverse_singleton,List.singleton_append,xY,aD h,aE hm]
theorem Qx {M:List Sl.Instr} {a b:Sl.Instr} (h:¬Hc b=true) (hm:¬(uV a b).2=true):Cg (M++[a]) b=M++[a]++[b]:=by
 unfold Cg;rw [List.reverse_append,List.reverse_singleton,List.singleton_append,xY,aD h,aD hm];simp
theorem BB {p:PV} {k:Nat} (h:k<p.code.length):zA p (k+1)=Cg (zA p k) (uF (p.code[((k:Nat):Int).toNat]?.getD default)):=by
 unfold zA Cg Qu;rw [rF,cG,aF,aA h,List.foldl_append];rfl
theorem Qz (p:PV):zA p p.code.length=(zD p).code:=by unfold zA zD;rw [bD]
theorem BC (p:PV):zA p 0=[]:=rfl
theorem BD:∀ (s:List Sl.Instr) (b:Sl.Instr),(xY s b).length≤s.length+1
 | [],b=>by unfold xY;split <;> simp
 | a :: s,b=>by
   unfold xY;split
   · simp
   split
   · have:=BD s (uV a b).1;simp only [aY];omega
   simp
theorem Ws (l:List Sl.Instr) (s:List Sl.Instr):(l.foldl (fun s i=>xY s (uF i)) s).length≤s.length+l.length:=by
 induction l generalizing s with
 | nil=>simp
 | cons x l ih=>have h1:=ih (xY s (uF x));have h2:=BD s (uF x);simp only [List.foldl_cons,aY];omega
theorem Ra (p:PV) (k:Nat):(zA p k).length≤k:=by
 have:=Ws (p.code.take k) [];unfold zA Qu;simp only [List.length_reverse,cH,bH] at *;omega
theorem BE (p:PV):(zD p).code.length≤p.code.length:=by rw [←Qz];exact Ra p _
theorem Rb {q:Sl.Instr→Prop} (hm:∀ a b,q a→q b→(uV a b).2=true→q (uV a b).1):∀ (s:List Sl.Instr) (b:Sl.Instr),(∀ i∈s,q i)→q b→∀ i∈xY s b,q i
 | [],b,_,hb=>by
   unfold xY;split
   · simp
   · simpa using hb
 | a :: s,b,hs,hb=>by
   unfold xY;split
   · exact hs
   split
   · rename_i h;exact Rb hm s _ (fun i hi=>hs i (bA _ hi)) (hm a b (hs a bF) hb h)
   intro i hi;rcases iU.1 hi with rfl | hi
   · exact hb
   exact hs i hi
theorem Rc {q:Sl.Instr→Prop} (hm:∀ a b,q a→q b→(uV a b).2=true→q (uV a b).1) (hp:∀ i,q i→q (uF i)) (l:List Sl.Instr) (h:∀ i∈l,q i):∀ i∈Qu l,q i:=by
 have aux:∀ (l s:List Sl.Instr),(∀ i∈l,q i)→(∀ i∈s,q i)→∀ i∈l.foldl (fun s i=>xY s (uF i)) s,q i:=by
  intro l;induction l with
  | nil=>intro s _ hs;exact hs
  | cons x l ih =>
    intro s hl hs;exact ih _ (fun i hi=>hl i (bA _ hi)) (Rb hm s _ hs (hp x (hl x bF)))
 exact aux l [] h (fun i hi=>by simp at hi)
def GM (i:Sl.Instr):Prop:=tK i.op i.c=true
theorem Jy {a b:Sl.Instr} (ha:GM a) (hb:GM b) (h:(uV a b).2=true):GM (uV a b).1:=by
 have ht:=Fw (f:=a.op) (c:=a.c) (s:=b.op) (d:=b.c) ha hb;unfold uV at h ⊢;split at h
 · cases h
 rename_i hn;rw [aD hn];split at h
 · rename_i hy;rw [aE hy];rcases ht with ht | ht
   · exact zZ (i:=⟨_,b.to,a.a,0,_⟩) ht
   rw [hy] at ht;cases ht
 cases h
theorem DW {p:PV} (h:∀ i∈p.code,GM i) (k:Nat):∀ i∈zA p k,GM i:=fun i hi=>by
 unfold zA at hi;exact Rc (q:=GM) (fun a b ha hb h=>Jy ha hb h) (fun i hi=>zZ hi) _ (fun i hi=>h i (rG hi)) i (sR.1 hi)
section
attribute [local irreducible] uF uV Cg zA
theorem Fe {p:PV} (hR:sY p=true):∀ i∈p.code,tI i p.regs=true:=by
 have h:(vC p).2=false:=by simpa [sY] using hR
 unfold vC at h;split at h
 · cases h
 split at h
 · cases h
 rename_i hb;unfold Cs at hb;rw [gT] at hb;intro i hi;simpa using hb i hi
theorem KD {p:PV} (hR:sY p=true):∀ i∈p.code,GM i:=fun i hi=>Bm (Fe hR i hi)
theorem PX {l:List Sl.Instr} {k:Nat} (h:k<l.length):l[((k:Nat):Int).toNat]?.getD default∈l:=by
 rw [aF,aA h];exact bZ h
theorem BF (M:List Sl.Instr) (t:Sl.Instr) (m:List Value):Row 91 (M++[t]) m=Row 91 M (A2.enc t++m):=by
 unfold Row;rw [wM];simp [tV]
theorem GN {a:Option Addr} {c:Nat} {M:List Sl.Instr} {t:Sl.Instr} {m:List Value} (h:A4 a c (M++[t]) m):A4 a c M (A2.enc t++m):=by
 rcases h with ⟨_,h,_⟩ | ⟨b,h1,h2,h3,h4⟩
 · simp at h
 refine .inr ⟨b,h1,?_,?_,h4⟩
 · rw [aB,jW,iY] at h2;rw [aB,A2.len];omega
 simp at h3;omega
theorem subA_zero {α:Type} [A2 α] {a:Option Addr} {c e sz:Nat} {xs:List α} {j:List Value} (h:A4 a e xs j):C6 a c 0 sz=a:=by
 unfold C6;split
 · rfl
 rcases h with ⟨h1,_⟩ | ⟨b,h1,_⟩
 · rw [h1];rfl
 rw [h1];simp [Addr.add]
theorem lh (G:A3) (hT:TabOk G) (p:PV) (ac ao:Option Addr) (cc co:Nat) (hc:Arr G ac p.code) (ho:Arr G ao p.outs) (h1:p.code.length≤1048576) (h2:p.outs.length≤1048576) (hR:sY p=true) :
 Does Tryz.prog 47 [.agg (I0 p ac cc ao co)] G [] (fun v G' Ho =>
  ∃ bc bo dc do_ j1 j2,v=.tuple #[.agg #[.int .i64 p.ins,.int .i64 p.regs,.slice bc (zD p).code.length dc,.slice bo p.outs.length do_],.int .i64 0]∧
   A4 bc dc (zD p).code j1∧A4 bo do_ p.outs j2∧Ho=[(0,bc.map (·.block),Row 91 (zD p).code j1),(1,bo.map (·.block),Row 3 p.outs j2)]∧G'=G):=by
 have hcheck:(vC p).2=false:=by simpa [sY] using hR
 have hok:=KD hR;refine D0 Tryz.func47 Tryz.ntmps47 fun w=>?_;refine eF 0 (Row 91 ([]:List Sl.Instr) []) ?_;refine aH 2 [] ?_;refine eC 1 fun b1=>?_;refine aM 2 F9 T.zero26 fun b2=>?_;refine aZ 3 [] ?_;refine lX ?_;refine aH 3 [1] ?_;refine cF F9 (ZK _ _ _ _ _ _ sX sX sW sW) ?_;refine aZ 14 [] ?_;refine dB (fun hc1=>?_) fun hc1=>?_;refine aH 2 [] ?_;refine aQ (bP (cs:=[_,_,_,_]) T.st26 F9 F9 F9) ?_;refine aS 7 [2] ?_;refine jJ ?_;rotate_left;refine bL 20 [1] ?_;rotate_left
 · rw [hcheck] at hc1;exact absurd F9 hc1
 refine fX (ι:=Nat×List Sl.Instr×(Option Addr×Nat×List Value)) (fun (k,xs,(b,d,j))=>([(24,.int .i64 (k:Int)),(6,.slice b xs.length d),(23,.int .i64 (↑p.code.length:Int)),(22,.slice ac p.code.length cc),(3,.int .i64 0),(2,.pointer (some ⟨b2,0,none⟩)),(1,.pointer (some ⟨b1,0,none⟩))],[(0,b.map (·.block),Row 91 xs j),(2,some b2,.cells #[.int .i64 0,.int .i64 0,.slice none 0 0,.slice none 0 0] 26),(1,some b1,.cells (I0 p ac cc ao co) 26)])) (fun (k,xs,(b,d,j))=>k≤p.code.length∧xs=zA p k∧A4 b d xs j) (fun (k,xs,(b,d,j))=>p.code.length - k) ((0,[],(none,0,[]))) (⟨aN _,by rw [BC],eG⟩) ⟨F9,F9,F9,F9,F9,F9,F9,H2⟩ ⟨F9,F9,F9,H2⟩ fun ⟨k,xs,(b,d,j)⟩=>fun hk=>?_;obtain ⟨hk1,hxs,hob⟩:=hk;have hxl:xs.length≤k:=by rw [hxs];exact Ra p k
 rcases aK k p.code.length with hlt | hge
 · clear hc1;have hst:=BB (p:=p) hlt;have hx0:=hok _ (PX hlt);have hx1:=zN hx0;have hx2:=zZ hx0;have hxo:=DW hok k;rw [←hxs] at hxo hst;refine aH 13 [1] ?_;refine fV (α:=Instr) T.sl23 ?_;refine lP T.agg91 ?_;refine aM 3 F9 T.zero91 fun b3=>?_;refine aZ 3 [3] ?_;refine lX ?_;refine aH 3 [3] ?_;refine cF F9 (c95 _ sX _ sX) ?_;refine aM 4 F9 T.zero91 fun b4=>?_;refine aZ 8 [4] ?_;refine fX (ι:=List Sl.Instr×Sl.Instr×(Option Addr×Nat×List Value)) (fun (M,bi,(a,e,m))=>([(6,.slice a M.length e),(22,.slice ac p.code.length cc),(23,.int .i64 (p.code.length:Int)),(9,.pointer (some (Addr.mk b4 0 none))),(24,.int .i64 (↑k:Int)),(3,.int .i64 0),(2,.pointer (some ⟨b2,0,none⟩)),(1,.pointer (some ⟨b1,0,none⟩))],[(0,a.map (·.block),Row 91 M m),(4,some b4,.cells (A2.enc bi).toArray 91),(3,some b3,.cells (List.toArray (A2.enc (Option.getD p.code[Int.toNat (↑k:Int)]? default))) 91),(2,some b2,.cells #[.int .i64 0,.int .i64 0,.slice none 0 0,.slice none 0 0] 26),(1,some b1,.cells (I0 p ac cc ao co) 26)])) (fun (M,bi,(a,e,m))=>zA p (k+1)=Cg M bi∧A4 a e M m∧(∀ i∈M,GM i)∧GM bi∧M.length≤k) (fun (M,bi,(a,e,m))=>M.length) ((xs,_,(b,d,j))) (⟨hst,hob,hxo,hx2,hxl⟩) ⟨F9,F9,F9,F9,F9,F9,F9,F9,H2⟩ ⟨F9,F9,F9,F9,F9,H2⟩ fun ⟨M,bi,(a,e,m)⟩=>fun hk=>?_;obtain ⟨hpu,hoM,hMo,hbo,hMk⟩:=hk;have hbo':tK bi.op bi.c=true:=hbo;rcases List.eq_nil_or_concat M with rfl | ⟨M',t,rfl⟩
   · have hl0:(([]:List Sl.Instr).length:Int)=0:=rfl;refine aH 8 [4] ?_;apply bW 6 33 39 F9;intro hg1;refine aC 11 [4,4] ?_;exact dI 6 0;intro hg1;refine aC 6 [] ?_;exact dI 6 0;refine aZ 2 [] ?_;refine dB (fun hc1=>?_) fun hc1=>?_;refine bG 6 [] ?_;refine Sv ?_;refine dO 6 [] ?_;rotate_left;refine aH 20 [1,4] ?_;refine cC (α:=Instr) 5 [(bi)] F9 T.sl23 T.el91 F9 F9 F9 F9 F9 fun b5=>?_;refine kM (α:=Instr) 0 T.sl23 T.el91 (cQ 5 F9) fun a1 c1 junk1 ho1=>?_;refine aS 2 [] ?_;refine oA ?_;refine dO 6 [] ?_;rotate_left
     · refine cM ((k+1,[],(a,e,m))) ?_ ?_
       · exact ⟨by omega,by rw [hpu,Qv (bT hc1)],hoM⟩
       show p.code.length - (k+1)<p.code.length - k;omega
     refine cM ((k+1,_,(a1,c1,junk1))) ?_ ?_
     · exact ⟨by omega,by rw [hpu,KC (fun h=>hc1 (fQ h))];rfl,ho1⟩
     show p.code.length - (k+1)<p.code.length - k;omega
   rw [List.concat_eq_append] at *;have hlen:(M'++[t]).length=M'.length+1:=uE;have hto:GM t:=hMo t uE;have hget:(M'++[t])[(((M'++[t]).length:Int) - 1).toNat]?.getD default=t:=by
    have e:(((M'++[t]).length:Int) - 1).toNat=M'.length:=sW;rw [e];simp
   have hto':tK ((M'++[t])[(((M'++[t]).length:Int) - 1).toNat]?.getD default).op ((M'++[t])[(((M'++[t]).length:Int) - 1).toNat]?.getD default).c=true:=by rw [hget];exact hto
   have hcap:=hoM.le;have hcut:(((M'++[t]).length:Int) - 1).toNat=M'.length:=sW;have hM'o:∀ i∈M',GM i:=fun i hi=>hMo i (by simp [hi]);refine aH 8 [4] ?_;apply bW 6 33 39 F9;intro hg1;refine aC 11 [4,4] ?_;exact dI 6 0;intro hg1;refine aC 6 [] ?_;exact dI 6 0;refine aZ 2 [] ?_;refine dB (fun hc1=>?_) fun hc1=>?_;refine bG 6 [] ?_;refine Sv ?_;refine dO 6 [] ?_;rotate_left;refine bL 14 [0] ?_;refine dK [1,2,3,4,0] [(0,12),(4,12),(3,12),(2,12),(1,12)] T.mixed [[0],[1],[2],[3]] ?_;refine fO (α:=Instr) 4 T.sl23 ?_;refine eD 5 [0] F9 (Ku 0 T.agg91 F9 F9 sX sW) ?_;refine dP [[6,4]] ?_;refine mK 7 11 ?_ ?_;refine cF F9 (c96 _ sX _ _ sX sX) ?_;refine aT ?_;refine dP [[8],[9],[10]] ?_;refine bE 11 ?_;refine aM 5 F9 T.zero91 fun b5=>?_;refine cX 12 ?_;refine aC 1 [5] ?_;refine aT ?_;refine dP [[13]] ?_;refine cT ?_;refine lW 8 [] ?_;refine lN F9 (fun hc2=>?_) fun hc2=>?_;refine aH 9 [4] ?_;refine cC (α:=Instr) 6 [(bi)] F9 T.sl23 T.el91 F9 F9 F9 F9 F9 fun b6=>?_;refine kM (α:=Instr) 0 T.sl23 T.el91 (cQ 6 F9) fun a1 c1 junk1 ho1=>?_;refine aS 2 [] ?_;refine oA ?_;refine dO 6 [] ?_;rotate_left;refine aH 8 [] ?_;refine aQ (Nl T.sl23 F9 F9 sW) ?_;refine aS 8 [5,4] ?_;rotate_left;refine aM 5 F9 T.zero91 fun b5=>?_;refine cX 7 ?_;refine cF F9 (c96 _ sX _ _ sX sX) ?_;refine aT ?_;refine dP [[8],[9],[10]] ?_;refine bE 12 ?_;refine aC 1 [5] ?_;refine aT ?_;refine dP [[13]] ?_;refine cT ?_;refine lW 8 [] ?_;refine lN F9 (fun hc2=>?_) fun hc2=>?_;refine aH 9 [4] ?_;refine cC (α:=Instr) 6 [(bi)] F9 T.sl23 T.el91 F9 F9 F9 F9 F9 fun b6=>?_;refine kM (α:=Instr) 0 T.sl23 T.el91 (cQ 6 F9) fun a1 c1 junk1 ho1=>?_;refine aS 2 [] ?_;refine oA ?_;refine dO 6 [] ?_;rotate_left;refine aH 8 [] ?_;refine aQ (Nl T.sl23 F9 F9 sW) ?_;refine aS 8 [5,4] ?_;rotate_left
   · refine cM ((k+1,M'++[t],(a,e,m))) ?_ ?_
     · exact ⟨by omega,by rw [hpu,Qv (bT hc1)],hoM⟩
     show p.code.length - (k+1)<p.code.length - k;omega
   · rw [hget] at hc2;refine cM ((k+1,_,(a1,c1,junk1))) ?_ ?_
     · exact ⟨by omega,by rw [hpu,Qx (fun h=>hc1 (fQ h)) (by simpa using hc2)],ho1⟩
     show p.code.length - (k+1)<p.code.length - k;omega
   · rw [hget] at hc2 ⊢;have hmt:(uV t bi).2=true:=by simpa using hc2
     refine gJ 0 (Row 91 M' (A2.enc t++m)) F9 (BF M' t m) ?_;refine cE 6 F9 (show _=Value.slice a M'.length e by rw [hcut,subA_zero hoM]) ?_;refine cM ((M',(uV t bi).1,(a,e,A2.enc t++m))) ?_ ?_
     · exact ⟨by rw [hpu,Qw (fun h=>hc1 (fQ h)) hmt],GN hoM,hM'o,Jy hto hbo hmt,by omega⟩
     show M'.length<(M'++[t]).length;omega
   · rw [hget] at hc2;refine cM ((k+1,_,(a1,c1,junk1))) ?_ ?_
     · exact ⟨by omega,by rw [hpu,Qx (fun h=>hc1 (fQ h)) (by simpa using hc2)],ho1⟩
     show p.code.length - (k+1)<p.code.length - k;omega
   rw [hget] at hc2 ⊢;have hmt:(uV t bi).2=true:=by simpa using hc2
   refine gJ 0 (Row 91 M' (A2.enc t++m)) F9 (BF M' t m) ?_;refine cE 6 F9 (show _=Value.slice a M'.length e by rw [hcut,subA_zero hoM]) ?_;refine cM ((M',(uV t bi).1,(a,e,A2.enc t++m))) ?_ ?_
   · exact ⟨by rw [hpu,Qw (fun h=>hc1 (fQ h)) hmt],GN hoM,hM'o,Jy hto hbo hmt,by omega⟩
   show M'.length<(M'++[t]).length;omega
 have hk:k=p.code.length:=sW;subst hk;rw [Qz] at hxs;subst hxs;refine bL 13 [0] ?_;refine dK [1,2,0] [(2,9)] T.mixed [[0],[1,1],[2],[3,1],[4],[5],[6,1]] ?_;refine bE 7 ?_;refine bS 3 F9 (YQ _ _ _ _ sX sW) fun v1 G1 Ho1 hle1 hp=>?_;obtain ⟨lb1,ld1,lj1,rfl,hlb1,rfl,rfl⟩:=hp;refine aT ?_;refine eD 8 [] F9 (bP (cs:=[_,_,_,_]) T.st26 F9 F9 F9) ?_;refine bE 9 ?_;refine aC 1 [2] ?_;refine aT ?_;refine dP [[10]] ?_;refine cT ?_;refine dO 2 [] ?_;refine jJ ?_;refine mR [0,3,2] tG (iC (.inr F9) (Ho:=Hp.only _ [0,1]) F9 (.agg 2 F9 F9 T.agg26) (.tmp F9) (aU _ _) ?_);exact ⟨_,_,_,_,_,_,F9,hob,hlb1,F9,F9⟩
end
theorem Uh {i:Sl.Instr} {r:Int} (h:tI i r=true):tI (uF i) r=true:=by
 have hc:=zZ (i:=i) (Bm h);rw [tU] at h;obtain ⟨⟨h1,h2,h3,h4,h5,h6⟩,h7⟩:=h;have hp:=Ug i.c;by_cases e3:i.op=3
 · have e:uF i=if i.a=i.b then ⟨7,i.to,i.a,0,1⟩ else i:=by rw [uF,aE e3]
   rw [e];split
   · rw [tU];simp;omega
   rw [tU];exact ⟨⟨h1,h2,h3,h4,h5,h6⟩,h7⟩
 by_cases h5':i.op=5∨i.op=6
 · have e:uF i=(if i.c=1 then ⟨1,i.to,i.a,0,0⟩ else if i.c=-1 then ⟨2,i.to,i.a,0,0⟩ else if wK i.c≠0 then (if i.op=5 then ⟨7,i.to,i.a,0,wK i.c⟩ else ⟨8,i.to,i.a,0,wK i.c⟩) else i):=by rw [uF,aD e3,aE h5']
   rw [e];split
   · rw [tU];simp;omega
   split
   · rw [tU];simp;omega
   split
   · split
     · rw [tU];simp;omega
     rw [tU];simp;omega
   rw [tU];exact ⟨⟨h1,h2,h3,h4,h5,h6⟩,h7⟩
 have e:uF i=i:=by rw [uF,aD e3,aD h5']
 rw [e,tU];exact ⟨⟨h1,h2,h3,h4,h5,h6⟩,h7⟩
theorem KE {f c s d:Int} (hs:1≤s∧s≤8∧¬(s=3∨s=4)) (ho:(vS f c s d).2.2=true):1≤(vS f c s d).1∧(vS f c s d).1≤8∧¬((vS f c s d).1=3∨(vS f c s d).1=4):=by
 unfold vS at ho ⊢
 repeat' split
 all_goals first
  | exact hs
  | (simp only [];omega)
  | simp_all
theorem PY {a b:Sl.Instr} {r:Int} (ha:tI a r=true) (hb:tI b r=true) (h:(uV a b).2=true):tI (uV a b).1 r=true:=by
 have ht:=Fw (f:=a.op) (c:=a.c) (s:=b.op) (d:=b.c) (Bm ha) (Bm hb);rw [tU] at ha hb;obtain ⟨⟨a1,a2,a3,a4,a5,a6⟩,a7⟩:=ha;obtain ⟨⟨b1,b2,b3,b4,b5,b6⟩,b7⟩:=hb;unfold uV at h ⊢;split at h
 · cases h
 rename_i hn;rw [aD hn];split at h
 · rename_i hy;rw [aE hy];refine Uh ?_;rcases ht with ht | ht
   · have hop:1≤(vS a.op a.c b.op b.c).1∧(vS a.op a.c b.op b.c).1≤8∧¬((vS a.op a.c b.op b.c).1=3∨(vS a.op a.c b.op b.c).1=4):=KE sW hy;rw [tU];refine ⟨⟨hop.1,hop.2.1,b3,b4,a5,a6⟩,?_⟩;rw [aD hop.2.2];refine ⟨F9,?_⟩;unfold tK at ht
     repeat' split at ht
     all_goals simp_all
   rw [hy] at ht;cases ht
 cases h
theorem KF {p:PV} (hh:xH p=true) (hm:∀ i∈p.code,tI i p.regs=true):sY p=true:=by
 have hb:Cs p=none:=by
  unfold Cs;rw [gT];intro i hi;simp [hm i hi]
 unfold sY vC;rw [hh,hb];rfl
theorem DX {p:PV} (hR:sY p=true):xH p=true:=by
 have h:(vC p).2=false:=by simpa [sY] using hR
 unfold vC at h;split at h
 · cases h
 rename_i hn;simpa using hn
theorem Rd {p:PV} (hR:sY p=true):sY (zD p)=true:=by
 have hh:=DX hR;have hl:=BE p;refine KF ?_ ?_
 · unfold xH at hh ⊢;rw [aW,aV] at hh ⊢;obtain ⟨⟨h1,h2,h3,h4,h5,h6⟩,h7⟩:=hh;exact ⟨⟨h1,h2,h3,by omega,h5,h6⟩,h7⟩
 intro i hi;exact Rc (q:=fun i=>tI i p.regs=true) (fun a b ha hb h=>PY ha hb h) (fun i h=>Uh h) p.code (Fe hR) i (sR.1 hi)
section
attribute [local irreducible] uF uV Cg zA zD sY
end
theorem c98 (G:A3) (t:Tab) (bt bk bf:Nat) (a:Option Addr) (c:Nat) (junk:List Value) (n:Int) (i:Sl.Instr) (ho:A4 a c t.held junk) (hl:t.held.length≤128) (hm:tI i t.held.length=true)
 (hkf:∀ k,A8 t.known k=none→A8 t.first k=none) (hn:0≤t.next∧t.next≤1000000) :
 Does Tryz.prog 98 [.pointer (some ⟨bt,0,none⟩),.int .i64 n,.agg (A2.enc i).toArray] G (Wq t bt bk bf a c junk)
  (fun r G' Ho=>r=.tuple #[.int .i64 (reckonP t n i).1.1,.int .i64 (reckonP t n i).1.2]∧G'=G∧Ho=Wq (reckonP t n i).2 bt bk bf a c junk):=by
 have hm':=hm;rw [tU] at hm';obtain ⟨⟨hop1,hop2,hto1,hto2,ha1,ha2⟩,-⟩:=hm';refine D0 Tryz.func98 Tryz.ntmps98 fun w=>?_;rcases hk0:A8 t.known (keyOf t.held i) with _ | v
 · have hf0:=hkf _ hk0;refine aH 2 [] ?_;refine eC 4 fun b1=>?_;refine aZ 12 [4] ?_;refine dB (fun hc1=>?_) fun hc1=>?_;refine dN ?_;refine dK [3,2,1,0,4] [] T.mixed [[0],[1],[2],[3,0],[4],[5,4]] ?_;refine fO (α:=Int) 6 T.sl24 ?_;refine eD 7 [1,0] F9 (fG 1 0 T.one3 F9 F9 sX sW F9 F9) ?_;refine dP [[8],[9]] ?_;refine cT ?_;refine dO 3 [] ?_;refine pQ [0,1,2,3] ?_;rotate_left;refine aH 6 [4] ?_;refine eJ 0 F9 T.fn151 F9 (dn _ _ _ _ _ _ _ _ _ sX sW sX) (tC ⟨F9,F9,F9,F9,H2⟩) ?_;refine aM 5 F9 T.zero230 fun b2=>?_;refine aZ 5 [5] ?_;refine dK [3,2,1,0,4,5] [] T.mixed [[0],[1],[2],[3,0],[4,5]] ?_;refine eD 5 [2] F9 (On 2 T.mp166 F9 F9 F9) ?_;refine dP [[6],[7],[8],[9],[10]] ?_;refine cT ?_;refine lW 7 [] ?_;refine lN F9 (fun hc2=>?_) fun hc2=>?_;refine dN ?_;refine dK [3,2,1,0,4,5] [(2,20),(3,20),(2,18),(3,18),(2,17),(3,17),(2,15),(3,15)] T.mixed [[0],[1],[2],[3,0],[4,5],[5],[6],[7],[8,0],[9,5],[10],[11],[12],[13,0],[14]] ?_;refine bE 15 ?_;refine Wl.mapEntry 2 F9 T.mp166 F9 F9 F9 sX ?_;refine aT ?_;refine dP [[16]] ?_;refine bE 17 ?_;refine rR 2 F9 F9 F9 F9 ?_;refine cX 18 ?_;refine Wl.mapEntry 3 F9 T.mp166 F9 F9 F9 sX ?_;refine aT ?_;refine dP [[19]] ?_;refine bE 20 ?_;refine rR 3 F9 F9 F9 F9 ?_;refine fJ ?_;refine lW 13 [0,0] ?_;refine dK [1,4,5,2,3,0] [] T.mixed [[0],[1],[2],[3,0],[4,5]] ?_;refine eD 5 [2] F9 (kI 2 T.mp166 F9 F9 F9) ?_;refine dP [[6],[7],[8],[9,0],[10,5]] ?_;refine eD 11 [3] F9 (kI 3 T.mp166 F9 F9 F9) ?_;refine dP [[12],[13]] ?_;refine cT ?_;refine dO 2 [] ?_;refine pQ [0,1,2,3] ?_;rotate_left;refine bL 3 [] ?_;refine dK [3,2,1,0,4,5] [] T.mixed [[0],[1],[2],[3,0],[4,5]] ?_;refine eD 5 [2] F9 (kI 2 T.mp166 F9 F9 F9) ?_;refine dP [[6],[7],[8],[9,0],[10,5]] ?_;refine eD 11 [3] F9 (kI 3 T.mp166 F9 F9 F9) ?_;refine dP [[12],[13]] ?_;refine cT ?_;refine dO 2 [] ?_;refine pQ [0,1,2,3] ?_;rotate_left
   · have h:reckonP t n i=((t.held[i.a.toNat]?.getD default,-1),t):=by unfold reckonP;rw [aE hc1]
     rw [h];exact ⟨F9,F9,F9⟩
   · have h:reckonP t n i=((t.next,n),{ t with known:=t.known++[(keyOf t.held i,t.next)],first:=t.first++[(keyOf t.held i,n)],next:=t.next+1 }):=by unfold reckonP;rw [aD hc1,hk0]
     rw [h,Tb hk0,Tb hf0];exact ⟨F9,F9,F9⟩
   rw [hk0] at hc2;cases hc2
 refine aH 2 [] ?_;refine eC 4 fun b1=>?_;refine aZ 12 [4] ?_;refine dB (fun hc1=>?_) fun hc1=>?_;refine dN ?_;refine dK [3,2,1,0,4] [] T.mixed [[0],[1],[2],[3,0],[4],[5,4]] ?_;refine fO (α:=Int) 6 T.sl24 ?_;refine eD 7 [1,0] F9 (fG 1 0 T.one3 F9 F9 sX sW F9 F9) ?_;refine dP [[8],[9]] ?_;refine cT ?_;refine dO 3 [] ?_;refine pQ [0,1,2,3] ?_;rotate_left;refine aH 6 [4] ?_;refine eJ 0 F9 T.fn151 F9 (dn _ _ _ _ _ _ _ _ _ sX sW sX) (tC ⟨F9,F9,F9,F9,H2⟩) ?_;refine aM 5 F9 T.zero230 fun b2=>?_;refine aZ 5 [5] ?_;refine dK [3,2,1,0,4,5] [] T.mixed [[0],[1],[2],[3,0],[4,5]] ?_;refine eD 5 [2] F9 (On 2 T.mp166 F9 F9 F9) ?_;refine dP [[6],[7],[8],[9],[10]] ?_;refine cT ?_;refine lW 7 [] ?_;refine lN F9 (fun hc2=>?_) fun hc2=>?_;refine dN ?_;refine dK [3,2,1,0,4,5] [(2,20),(3,20),(2,18),(3,18),(2,17),(3,17),(2,15),(3,15)] T.mixed [[0],[1],[2],[3,0],[4,5],[5],[6],[7],[8,0],[9,5],[10],[11],[12],[13,0],[14]] ?_;refine bE 15 ?_;rotate_left;refine bL 3 [] ?_;refine dK [3,2,1,0,4,5] [] T.mixed [[0],[1],[2],[3,0],[4,5]] ?_;refine eD 5 [2] F9 (kI 2 T.mp166 F9 F9 F9) ?_;refine dP [[6],[7],[8],[9,0],[10,5]] ?_;refine eD 11 [3] F9 (kI 3 T.mp166 F9 F9 F9) ?_;refine dP [[12],[13]] ?_;refine cT ?_;refine dO 2 [] ?_;refine pQ [0,1,2,3] ?_;rotate_left
 · have h:reckonP t n i=((t.held[i.a.toNat]?.getD default,-1),t):=by unfold reckonP;rw [aE hc1]
   rw [h];exact ⟨F9,F9,F9⟩
 · rw [hk0] at hc2;cases hc2
 have h:reckonP t n i=((v,(A8 t.first (keyOf t.held i)).getD 0),t):=by unfold reckonP;rw [aD hc1,hk0]
 rw [h,hk0];exact ⟨F9,F9,F9⟩
theorem c99 (G:A3) (t:Tab) (bt bk bf:Nat) (a:Option Addr) (c:Nat) (junk:List Value) (i:Sl.Instr) (ho:A4 a c t.held junk) (hl:t.held.length≤128) (hm:tI i t.held.length=true) :
 Does Tryz.prog 99 [.pointer (some ⟨bt,0,none⟩),.agg (A2.enc i).toArray] G (Wq t bt bk bf a c junk) (fun r G' Ho=>r=.agg (A2.enc (askedP t.held i)).toArray∧G'=G∧Ho=Wq t bt bk bf a c junk):=by
 rw [tU] at hm;obtain ⟨⟨hop1,hop2,hto1,hto2,ha1,ha2⟩,hb⟩:=hm;have hb:i.op=3∨i.op=4→0≤i.b∧i.b<t.held.length:=fun h=>by rw [aE h] at hb;omega
 have two:=Ze i;refine D0 Tryz.func99 Tryz.ntmps99 fun w=>?_;refine aH 2 [] ?_;refine eC 4 fun b1=>?_;refine aM 5 F9 T.zero91 fun b2=>?_;refine aL 5 [4] ?_;refine bS 6 F9 (IN _ _) fun v1 G1 Ho1 hle1 hp=>?_;obtain ⟨ad1,cd1,junk1,rfl,hoa1,rfl,rfl⟩:=hp;refine aZ 6 [] ?_;refine dK [3,2,1,0,4,5,7] [(4,11)] T.mixed [[0],[1],[2],[3],[4,0],[5],[6,4]] ?_;refine fO (α:=Int) 7 T.sl24 ?_;refine eD 8 [1,0] F9 (fG 1 0 T.one3 F9 F9 sX sW F9 F9) ?_;refine bE 9 ?_;refine eJ 0 F9 T.fn100 F9 (VF _ _ _ _ _ _ _ _ _ sX sW) (tC ⟨F9,F9,F9,F9,H2⟩) ?_;refine aT ?_;refine dP [[10]] ?_;refine bE 11 ?_;refine aC 1 [4] ?_;refine fJ ?_;refine lW 7 [] ?_;refine dB (fun hc1=>?_) fun hc1=>?_;refine dK [3,2,1,0,5,7,4] [(4,11)] T.mixed [[0],[1],[2],[3],[4,0],[5],[6,4]] ?_;refine fO (α:=Int) 7 T.sl24 ?_;refine eD 8 [1,0] F9 (fG 1 0 T.one3 F9 F9 sX sW F9 F9) ?_;refine bE 9 ?_;refine eJ 0 F9 T.fn100 F9 (VF _ _ _ _ _ _ _ _ _ sX sW) (tC ⟨F9,F9,F9,F9,H2⟩) ?_;refine aT ?_;refine dP [[10]] ?_;refine bE 11 ?_;refine aC 1 [4] ?_;refine fJ ?_;refine dO 8 [4,5] ?_;refine cK (.inr F9) (Ho:=Hp.only _ [0,1,2,3]) F9 (.agg 5 F9 F9 T.agg91) (aU _ _) ?_;rotate_left;refine bG 9 [4,5] ?_;refine cK (.inr F9) (Ho:=Hp.only _ [0,1,2,3]) F9 (.agg 5 F9 F9 T.agg91) (aU _ _) ?_;rotate_left
 · refine ⟨?_,F9,F9⟩;have h:askedP t.held i=⟨i.op,i.to,holder t.held (t.held[i.a.toNat]?.getD default),holder t.held (t.held[i.b.toNat]?.getD default),i.c⟩:=by
    unfold askedP;rw [aE (by omega)]
   rw [h];rfl
 refine ⟨?_,F9,F9⟩;have h:askedP t.held i=⟨i.op,i.to,holder t.held (t.held[i.a.toNat]?.getD default),i.b,i.c⟩:=by
  unfold askedP;rw [aD (by omega)]
 rw [h];rfl
section
variable {t:Tab} {out:List Sl.Instr} {n:Int} {i:Sl.Instr}
end
theorem li (G:A3) (p:PV) (ac ao:Option Addr) (cc co:Nat) (hc:Arr G ac p.code) (ho:Arr G ao p.outs) (h1:p.code.length≤1099511627776) (h2:p.outs.length≤1099511627776) (hR:sY p=true) :
 Does Tryz.prog 48 [.agg (I0 p ac cc ao co)] G [] (fun v G' Ho =>
  ∃ bc bo dc do_ j1 j2,v=.tuple #[.agg #[.int .i64 p.ins,.int .i64 p.regs,.slice bc (xT p).code.length dc,.slice bo (xT p).outs.length do_],.int .i64 0]∧
   A4 bc dc (xT p).code j1∧A4 bo do_ (xT p).outs j2∧Ho=[(0,bc.map (·.block),Row 91 (xT p).code j1),(1,bo.map (·.block),Row 3 (xT p).outs j2)]∧G'=G):=by
 obtain ⟨r1,r2,r3,r4,r5,r6,r7,r8⟩:=tB hR;have hcheck:(vC p).2=false:=by simpa [sY] using hR
 refine D0 Tryz.func48 Tryz.ntmps48 fun w=>?_;refine eF 0 (Row 91 ([]:List Sl.Instr) []) (eF 1 (Row 3 ([]:List Int) []) ?_);refine aH 2 [] ?_;refine eC 2 fun b1=>?_;refine aM 3 F9 T.zero26 fun b2=>?_;refine aL 7 [2] ?_;refine cF F9 (ZK _ _ _ _ _ _ sX sX sW sW) ?_;refine aZ 13 [] ?_;refine dB (fun hc1=>?_) fun hc1=>?_;refine aH 2 [] ?_;refine aQ (bP (cs:=[_,_,_,_]) T.st26 F9 F9 F9) ?_;refine aS 7 [3] ?_;rotate_left;refine aH 5 [2] ?_;refine bS 4 F9 (c97 _ _ _ _ _ _ sW) fun v1 G1 Ho1 hle1 hp=>?_;obtain ⟨bt1,bk1,bf1,ta1,tc1,tj1,rfl,hto1,rfl,rfl⟩:=hp;refine aL 9 [2,2] ?_;refine aQ (bP (cs:=[_,_,_,_]) T.st26 F9 F9 F9) ?_;refine aM 8 F9 T.zero26 fun b3=>?_;refine aZ 13 [8,2] ?_;rotate_left
 · rw [hcheck] at hc1;exact absurd F9 hc1
 refine fX (ι:=Nat×Tab×List Sl.Instr×(Option Addr×Nat×List Value)×(Option Addr×Nat×List Value)) (fun (k,t,out,(a,c,junk),(a',c',junk'))=>([(34,.int .i64 (k:Int)),(33,.int .i64 (↑p.code.length:Int)),(32,.slice ac p.code.length cc),(7,.pointer (some (Addr.mk b3 0 none))),(6,.pointer (some (Addr.mk bt1 0 none))),(3,.int .i64 0),(2,.pointer (some ⟨b2,0,none⟩)),(1,.pointer (some ⟨b1,0,none⟩))],[(4,some bt1,.cells #[.slice a t.held.length c,.map (some bk1),.map (some bf1),.int .i64 t.next] 168),(5,a.map (·.block),Row 3 t.held junk),(6,some bk1,B0 t.known),(7,some bf1,B0 t.first),(8,some b3,.cells #[.int .i64 p.ins,.int .i64 p.regs,.slice a' out.length c',.slice none 0 0] 26),(0,a'.map (·.block),Row 91 out junk'),(3,some b2,.cells #[.int .i64 0,.int .i64 0,.slice none 0 0,.slice none 0 0] 26),(2,some b1,.cells (I0 p ac cc ao co) 26),(1,none,Row (α:=Int) 3 ([]) ([]))])) (fun (k,t,out,(a,c,junk),(a',c',junk'))=>k≤p.code.length∧(t,out)=uC p k∧A4 a c t.held junk∧A4 a' c' out junk'∧(t.held.length:Int)=p.regs∧out.length≤k∧(∀ x,A8 t.known x=none→A8 t.first x=none)∧0≤t.next∧t.next≤p.ins+1+k) (fun (k,t,out,(a,c,junk),(a',c',junk'))=>p.code.length - k) ((0,⟨start p,[],[],p.ins+1⟩,[],(ta1,tc1,tj1),(none,0,[]))) (⟨aN _,F9,hto1,eG,by simp [start];omega,aN _,fun _ _=>rfl,by show 0≤p.ins+1;omega,by show p.ins+1≤p.ins+1+0;omega⟩) ⟨F9,F9,F9,F9,F9,F9,F9,F9,H2⟩ ⟨F9,F9,F9,F9,F9,F9,F9,F9,F9,H2⟩ fun ⟨k,t,out,(a,c,junk),(a',c',junk')⟩=>fun hk=>?_;obtain ⟨hk1,hpass,hoa,hoa',hlen,hout,hkf,hn0,hn1⟩:=hk;rcases aK k p.code.length with hlt | hge
 · have hm:tI (p.code[(k:Int).toNat]?.getD default) t.held.length=true:=by
    rw [hlen];refine r8 _ ?_;rw [aF,aA hlt];simp
   have hrh:=Bz t k (p.code[(k:Int).toNat]?.getD default);have hra:A4 a c (reckonP t k (p.code[(k:Int).toNat]?.getD default)).2.held junk:=by rw [hrh];exact hoa
   have hrl:(reckonP t k (p.code[(k:Int).toNat]?.getD default)).2.held.length=t.held.length:=by rw [hrh]
   have hrm:tI (p.code[(k:Int).toNat]?.getD default) (reckonP t k (p.code[(k:Int).toNat]?.getD default)).2.held.length=true:=by rw [hrl];exact hm
   have hto:0≤(askedP (reckonP t k (p.code[(k:Int).toNat]?.getD default)).2.held (p.code[(k:Int).toNat]?.getD default)).to∧
    (askedP (reckonP t k (p.code[((k:Nat):Int).toNat]?.getD default)).2.held (p.code[((k:Nat):Int).toNat]?.getD default)).to<(reckonP t k (p.code[((k:Nat):Int).toNat]?.getD default)).2.held.length:=by
    rw [tU] at hm;unfold askedP;rw [hrl];exact ⟨hm.1.2.2.1,hm.1.2.2.2.1⟩
   refine aH 14 [1] ?_;refine fV (α:=Instr) T.sl23 ?_;refine lP T.agg91 ?_;refine aM 9 F9 T.zero91 fun b4=>?_;refine aL 9 [9,9] ?_;refine eO 4 F9 T.fn98 F9 (c98 _ _ _ _ _ _ _ _ _ _ sX sW sX sX sW) (tC ⟨F9,F9,F9,F9,H2⟩) fun v2 G2 Ho2 hle2 hp=>?_;obtain ⟨rfl,rfl,rfl⟩:=hp;refine aL 11 [9] ?_;refine eJ 4 F9 T.fn99 F9 (c99 _ _ _ _ _ _ _ _ _ sX sW sX) (tC ⟨F9,F9,F9,F9,H2⟩) ?_;refine aZ 5 [9] ?_;refine dK [1,2,3,0,8,7,6,5,4,9] [] T.mixed [[0],[1],[2],[3,4],[4],[5,9]] ?_;refine fO (α:=Int) 6 T.sl24 ?_;refine eD 7 [0,5] F9 (fG 5 0 T.one3 F9 F9 sX sW F9 F9) ?_;refine dP [[8],[9]] ?_;refine cT ?_;refine cN ?_;refine dB (fun hc2=>?_) fun hc2=>?_;refine bG 8 [] ?_;rotate_left;refine aH 7 [] ?_;refine eJ 4 F9 T.fn100 F9 (VF _ _ _ _ _ _ _ _ _ sX sW) (tC ⟨F9,F9,F9,F9,H2⟩) ?_;refine aZ 9 [] ?_;refine dB (fun hc3=>?_) fun hc3=>?_;refine aH 4 [9] ?_;refine aQ (bP (cs:=[_,_,_,_,_]) T.st91 F9 F9 F9) ?_;refine aL 8 [9,8,9] ?_;refine cC (α:=Instr) 10 [⟨1,Go.Sl.Instr.to (Go.Proofs.YtkdelpdbjfpgmaaGreatDoor.askedP (Go.Proofs.YtkdelpdbjfpgmaaGreatDoor.Tab.held (Prod.snd (Go.Proofs.YtkdelpdbjfpgmaaGreatDoor.reckonP t (↑k:Int) (Option.getD p.code[Int.toNat (↑k:Int)]? Inhabited.default)))) (Option.getD p.code[Int.toNat (↑k:Int)]? Inhabited.default)),Go.Proofs.YtkdelpdbjfpgmaaGreatDoor.holder (Go.Proofs.YtkdelpdbjfpgmaaGreatDoor.Tab.held (Prod.snd (Go.Proofs.YtkdelpdbjfpgmaaGreatDoor.reckonP t (↑k:Int) (Option.getD p.code[Int.toNat (↑k:Int)]? Inhabited.default)))) (Prod.fst (Prod.fst (Go.Proofs.YtkdelpdbjfpgmaaGreatDoor.reckonP t (↑k:Int) (Option.getD p.code[Int.toNat (↑k:Int)]? Inhabited.default)))),0,0⟩] F9 T.sl23 T.el91 F9 F9 F9 F9 F9 fun b5=>?_;refine kM (α:=Instr) 0 T.sl23 T.el91 (cQ 10 F9) fun a1 c1 junk1 ho1=>?_;refine aZ 4 [8] ?_;refine dK [1,2,3,7,6,5,4,9,10,0,8] [(8,8),(0,8),(10,8),(9,8),(4,8),(5,8),(3,8),(2,8),(1,8)] T.mixed [[0],[1],[2],[3,4],[4],[5,9],[6]] ?_;refine fO (α:=Int) 7 T.sl24 ?_;refine bE 8 ?_;refine dJ (z:=_) 5 T.size3 F9 F9 F9 sX sW F9 fun ho2=>?_;refine fJ ?_;refine dO 6 [] ?_;rotate_left;refine aH 7 [8,9] ?_;refine cC (α:=Instr) 10 [(Go.Proofs.YtkdelpdbjfpgmaaGreatDoor.askedP (Go.Proofs.YtkdelpdbjfpgmaaGreatDoor.Tab.held (Prod.snd (Go.Proofs.YtkdelpdbjfpgmaaGreatDoor.reckonP t (↑k:Int) (Option.getD p.code[Int.toNat (↑k:Int)]? Inhabited.default)))) (Option.getD p.code[Int.toNat (↑k:Int)]? Inhabited.default))] F9 T.sl23 T.el91 F9 F9 F9 F9 F9 fun b5=>?_;refine kM (α:=Instr) 0 T.sl23 T.el91 (cQ 10 F9) fun a1 c1 junk1 ho1=>?_;refine aZ 4 [8] ?_;refine dK [1,2,3,7,6,5,4,9,10,0,8] [(8,8),(0,8),(10,8),(9,8),(4,8),(5,8),(3,8),(2,8),(1,8)] T.mixed [[0],[1],[2],[3,4],[4],[5,9],[6]] ?_;refine fO (α:=Int) 7 T.sl24 ?_;refine bE 8 ?_;refine dJ (z:=_) 5 T.size3 F9 F9 F9 sX sW F9 fun ho2=>?_;refine fJ ?_;refine dO 6 [] ?_;rotate_left
   · generalize hI:p.code[((k:Nat):Int).toNat]?.getD default=I at *;refine cM ((k+1,(reckonP t k I).2,out,(a,c,junk),(a',c',junk'))) ?_ ?_
     · refine ⟨by omega,?_,hra,hoa',by rw [hrl];exact hlen,by omega,Kz hkf,(yK hn0 k I).1,?_⟩
       · show _=tR (uC p k) k (p.code[(k:Int).toNat]?.getD default);rw [←hpass,hI,Gt hc2]
       have:=(yK hn0 k I).2;omega
     show p.code.length - (k+1)<p.code.length - k;omega
   · generalize hI:p.code[((k:Nat):Int).toNat]?.getD default=I at *;refine gJ 4 (.cells #[.slice a ((reckonP t k I).2.held.set (askedP (reckonP t k I).2.held I).to.toNat (reckonP t k I).1.1).length c,.map (some bk1),.map (some bf1),.int .i64 (reckonP t k I).2.next] 168) F9 Dt ?_;refine cM ((k+1,{ (reckonP t k I).2 with held:=(reckonP t k I).2.held.set (askedP (reckonP t k I).2.held I).to.toNat (reckonP t k I).1.1 },_,(a,c,junk),(a1,c1,junk1))) ?_ ?_
     · refine ⟨by omega,?_,ho2,ho1,?_,?_,Kz hkf,?_,?_⟩
       · show _=tR (uC p k) k (p.code[(k:Int).toNat]?.getD default);rw [←hpass,hI,Gu hc2 hc3]
       · show (((reckonP t k I).2.held.set _ _).length:Int)=_;rw [aG,hrl];exact hlen
       · rw [aB];simp only [aY,cH];omega
       · exact (yK hn0 k I).1
       have:=(yK hn0 k I).2;show (reckonP t k I).2.next≤_;omega
     show p.code.length - (k+1)<p.code.length - k;omega
   generalize hI:p.code[((k:Nat):Int).toNat]?.getD default=I at *;refine gJ 4 (.cells #[.slice a ((reckonP t k I).2.held.set (askedP (reckonP t k I).2.held I).to.toNat (reckonP t k I).1.1).length c,.map (some bk1),.map (some bf1),.int .i64 (reckonP t k I).2.next] 168) F9 Dt ?_;refine cM ((k+1,{ (reckonP t k I).2 with held:=(reckonP t k I).2.held.set (askedP (reckonP t k I).2.held I).to.toNat (reckonP t k I).1.1 },_,(a,c,junk),(a1,c1,junk1))) ?_ ?_
   · refine ⟨by omega,?_,ho2,ho1,?_,?_,Kz hkf,?_,?_⟩
     · show _=tR (uC p k) k (p.code[(k:Int).toNat]?.getD default);rw [←hpass,hI,Gw hc2 hc3]
     · show (((reckonP t k I).2.held.set _ _).length:Int)=_;rw [aG,hrl];exact hlen
     · rw [aB];simp only [aY,cH];omega
     · exact (yK hn0 k I).1
     have:=(yK hn0 k I).2;show (reckonP t k I).2.next≤_;omega
   show p.code.length - (k+1)<p.code.length - k;omega
 have hk:k=p.code.length:=sW;subst hk;refine bL 22 [0,2] ?_;refine iA (ι:=Nat×List Int×Option Addr×Nat×List Value) (fun (k,os,b,d,j)=>([(86,.int .i64 (k:Int)),(85,.int .i64 (↑p.outs.length:Int)),(84,.slice ao p.outs.length co),(7,.pointer (some (Addr.mk b3 0 none))),(6,.pointer (some (Addr.mk bt1 0 none))),(3,.int .i64 0),(2,.pointer (some ⟨b2,0,none⟩))],[(8,some b3,.cells #[.int .i64 p.ins,.int .i64 p.regs,.slice a' out.length c',.slice b os.length d] 26),(1,b.map (·.block),Row 3 os j),(4,some bt1,.cells #[.slice a (List.length (Tab.held t)) c,Go.Value.map (some bk1),Go.Value.map (some bf1),.int .i64 (Tab.next t)] 168),(5,Option.map (fun x=>Go.Addr.block x) a,Row (α:=Int) 3 (Tab.held t) (junk)),(6,some bk1,Go.Sl.B0 (κ:=Go.Sl.K4) (Tab.known t)),(7,some bf1,Go.Sl.B0 (κ:=Go.Sl.K4) (Tab.first t)),(0,Option.map (fun x=>Go.Addr.block x) a',Row (α:=Go.Sl.Instr) 91 (out) (junk')),(3,some b2,.cells #[.int .i64 0,.int .i64 0,.slice none 0 0,.slice none 0 0] 26),(2,some b1,.cells (I0 p ac cc ao co) 26)])) (fun (k,os,b,d,j)=>k≤p.outs.length∧os=(wG p t.held).take k∧A4 b d os j) (fun (k,os,b,d,j)=>p.outs.length - k) ((0,[],none,0,[])) (⟨aN _,F9,eG⟩) fun ⟨k,os,b,d,j⟩=>fun hk=>?_;obtain ⟨hk2,hos,hob⟩:=hk;have hosl:os.length≤128:=by rw [hos,bH];omega
 rcases aK k p.outs.length with hlt | hge
 · have hr:0≤p.outs[(k:Int).toNat]?.getD default∧p.outs[(k:Int).toNat]?.getD default<t.held.length:=by
    rw [hlen];refine r7 _ ?_;rw [aF,aA hlt];simp
   refine aH 13 [1] ?_;refine fV (α:=Int) T.sl24 ?_;refine jG 0 T.one3 ?_;refine aZ 3 [] ?_;refine dK [2,3,0,7,6,5,4,1,8] [(8,14),(1,12),(5,12),(0,12)] T.mixed [[0],[1,8],[2],[3],[4],[5],[6,4],[7]] ?_;refine fO (α:=Int) 8 T.sl24 ?_;refine bE 9 ?_;refine nG 5 0 T.one3 ?_;refine cX 10 ?_;refine eJ 4 F9 T.fn100 F9 (VF _ _ _ _ _ _ _ _ _ sX sW) (tC ⟨F9,F9,F9,F9,H2⟩) ?_;refine cX 11 ?_;refine cC (α:=Int) 9 [(Go.Proofs.YtkdelpdbjfpgmaaGreatDoor.holder (Go.Proofs.YtkdelpdbjfpgmaaGreatDoor.Tab.held t) (Option.getD (Go.Proofs.YtkdelpdbjfpgmaaGreatDoor.Tab.held t)[Int.toNat (Option.getD p.outs[Int.toNat (↑k:Int)]? Inhabited.default)]? Inhabited.default))] F9 T.sl24 T.el3 F9 F9 F9 F9 F9 fun b4=>?_;refine cX 12 ?_;refine kM (α:=Int) 1 T.sl24 T.el3 (cQ 9 F9) fun a1 c1 junk1 ho1=>?_;refine aT ?_;refine dP [[13]] ?_;refine bE 14 ?_;refine aC 1 [8] ?_;refine fJ ?_;refine dO 6 [] ?_;refine cM ((k+1,_,a1,c1,junk1)) ?_ ?_
   · refine ⟨by omega,?_,ho1⟩;have hst:(wG p t.held).take (k+1)=(wG p t.held).take k++[holder t.held (t.held[(p.outs[(k:Int).toNat]?.getD default).toNat]?.getD default)]:=by
      rw [cG];simp [wG,hlt]
     rw [hst,hos]
   show p.outs.length - (k+1)<p.outs.length - k;omega
 refine bG 20 [0,8,3] ?_;refine iC (.inr F9) (Ho:=Hp.only _ [0,1]) F9 (.agg 3 F9 F9 T.agg26) (.tmp F9) (aU _ _) ?_;have ht:t=(uC p p.code.length).1:=congrArg Prod.fst hpass;have hou:out=(xT p).code:=congrArg Prod.snd hpass;have hos':os=(xT p).outs:=by
  rw [hos,fM (by simp [wG];omega),ht];rfl
 rw [hou] at hoa' ⊢;rw [hos'] at hob ⊢;exact ⟨a',b,c',d,junk',j,F9,hoa',hob,F9,F9⟩
def Yes:Prop:=True
instance:Decidable Yes:=.isTrue H2
def wL:List Sl.Instr→List Int→Option (List Int)
 | [],rs=>some rs
 | i :: l,rs=>(Af i rs).bind fun x=>wL l (rs.set i.to.toNat x)
theorem KG (l:List Sl.Instr) (i:Sl.Instr) (rs:List Int):wL (l++[i]) rs=(wL l rs).bind fun r=>(Af i r).map fun x=>r.set i.to.toNat x:=by
 induction l generalizing rs with
 | nil =>
   show (Af i rs).bind (fun x=>some (rs.set i.to.toNat x))=(Af i rs).map _;cases Af i rs <;> rfl
 | cons j l ih =>
   show (Af j rs).bind (fun x=>wL (l++[i]) (rs.set j.to.toNat x))=((Af j rs).bind fun x=>wL l (rs.set j.to.toNat x)).bind _;cases Af j rs with
   | none=>rfl
   | some x=>exact ih _
theorem wO (p:PV) (zs:List Int):∀ k,k≤p.code.length→Vz p zs k=wL (p.code.take k) zs
 | 0,_=>by rw [bQ];rfl
 | k+1,hk=>by
   have htk:p.code.take (k+1)=p.code.take k++[p.code[(k:Int).toNat]?.getD default]:=by
    rw [cG,aF,aA sW];rfl
   rw [htk,KG,←wO p zs k sW];rfl
theorem Jz (r:List Int) (n k:Nat) (x:Int):(r.set n x)[k]?.getD 0=if n=k∧k<r.length then x else r[k]?.getD 0:=by
 rw [cI];by_cases h:n=k
 · subst h;by_cases h2:n<r.length
   · rw [aE rfl,aE h2,aE ⟨rfl,h2⟩];rfl
   rw [aE rfl,aD h2,aD (fun h=>h2 h.2),cA sW]
 rw [aD h,aD (fun h2=>h h2.1)]
def Nj (op c:Int):Int:=if op=5∨op=6 then c else p2 c.toNat
def uZ (op c x:Int):Option Int:=
 if op=2 then some (-x) else if op=5∨op=7 then some (x*Nj op c) else if op=6∨op=8 then (if x % Nj op c=0 then some (x / Nj op c) else none) else some x
def uR (op c x q:Int):Prop:=if op=2 then q=-x else if op=5∨op=7 then q=x*Nj op c else if op=6∨op=8 then q*Nj op c=x else q=x
theorem fh (c x q:Int):uR 1 c x q↔q=x:=by unfold uR;simp
theorem dx (c x q:Int):uR 2 c x q↔q=-x:=by unfold uR;simp
theorem dy (c x q:Int):uR 5 c x q↔q=x*c:=by unfold uR Nj;simp
theorem ZM (c x q:Int):uR 6 c x q↔q*c=x:=by unfold uR Nj;simp
theorem lj (c x q:Int):uR 7 c x q↔q=x*p2 c.toNat:=by unfold uR Nj;simp
theorem lk (c x q:Int):uR 8 c x q↔q*p2 c.toNat=x:=by unfold uR Nj;simp
theorem YS {x y q:Int} (hy:y≠0):(if x % y=0 then some (x / y) else none)=some q↔q*y=x:=by
 by_cases h:x % y=0
 · rw [aE h,bY];have e:=Int.ediv_mul_cancel (Int.dvd_of_emod_eq_zero h);constructor
   · rintro rfl;exact e
   intro h2;rw [←h2,Int.mul_ediv_cancel _ hy]
 rw [aD h];constructor
 · intro h2;cases h2
 intro h2;exact absurd (by rw [←h2];exact Int.mul_emod_left q y) h
theorem Re {op c x q:Int} (h:op=6∨op=8→Nj op c≠0):uZ op c x=some q↔uR op c x q:=by
 unfold uZ uR;by_cases h2:op=2
 · rw [aE h2,aE h2,bY];exact eq_comm
 rw [aD h2,aD h2];by_cases h5:op=5∨op=7
 · rw [aE h5,aE h5,bY];exact eq_comm
 rw [aD h5,aD h5];by_cases h6:op=6∨op=8
 · rw [aE h6,aE h6];exact YS (h h6)
 rw [aD h6,aD h6,bY];exact eq_comm
theorem Bn {op c:Int} (h:tK op c=true):op=6∨op=8→Nj op c≠0:=by
 intro ho;unfold Nj;split
 · rename_i h5;exact yG h h5
 have:=Pg c.toNat;omega
theorem Ka {c d:Int} (hc:0≤c) (hd:0≤d):p2 (c+d).toNat=p2 c.toNat*p2 d.toNat:=by
 rw [Int.toNat_add hc hd,XS]
theorem vZ {a b c:Int} (hc:c≠0) (h:a*c=b*c):a=b:=pF hc h
theorem VG {f c s d o e:Int} (h:vS f c s d=(o,e,true)) (hc:tK f c=true) (hd:tK s d=true) (x q:Int):(∃ y,uR f c x y∧uR s d y q)↔uR o e x q:=by
 unfold vS at h;by_cases f1:f=1
 · subst f1;rw [aE rfl] at h;cases h;simp only [fh];exact ⟨fun ⟨y,h1,h2⟩=>h1▸h2,fun h2=>⟨x,F9,h2⟩⟩
 rw [aD f1] at h;by_cases f2:f=2
 · subst f2;rw [aE rfl] at h;simp only [dx];by_cases s1:s=1
   · subst s1;rw [aE rfl] at h;cases h;simp only [fh,dx];exact ⟨fun ⟨y,h1,h2⟩=>by rw [h2,h1],fun h2=>⟨_,F9,h2⟩⟩
   rw [aD s1] at h;by_cases s2:s=2
   · subst s2;rw [aE rfl] at h;cases h;simp only [fh,dx];exact ⟨fun ⟨y,h1,h2⟩=>by omega,fun h2=>⟨_,F9,by omega⟩⟩
   rw [aD s2] at h;by_cases s5:s=5∨s=6
   · rw [aE s5] at h;rcases s5 with rfl | rfl
     · cases h;simp only [dy];exact ⟨fun ⟨y,h1,h2⟩=>by rw [h2,h1,gR,iZ],fun h2=>⟨_,F9,by rw [h2,gR,iZ]⟩⟩
     cases h;simp only [ZM];exact ⟨fun ⟨y,h1,h2⟩=>by rw [iZ,h2,h1,Int.neg_neg],fun h2=>⟨_,F9,by rw [←h2,iZ,Int.neg_neg]⟩⟩
   rw [aD s5] at h;cases h
 rw [aD f2] at h;by_cases f5:f=5
 · subst f5;rw [aE rfl] at h;have hc0:=yG hc (.inl F9);simp only [dy];by_cases s2:s=2
   · subst s2;rw [aE rfl] at h;cases h;simp only [dx,dy];exact ⟨fun ⟨y,h1,h2⟩=>by rw [h2,h1,iZ],fun h2=>⟨_,F9,by rw [h2,iZ]⟩⟩
   rw [aD s2] at h;by_cases s5:s=5∧-512≤c*d∧c*d≤512
   · rw [aE s5] at h;obtain ⟨rfl,_⟩:=s5;cases h;simp only [dy];exact ⟨fun ⟨y,h1,h2⟩=>by rw [h2,h1,cO],fun h2=>⟨_,F9,by rw [h2,cO]⟩⟩
   rw [aD s5] at h;by_cases s6:s=6∧c.tmod d=0
   · rw [aE s6] at h;obtain ⟨rfl,hm⟩:=s6;have hd0:=yG hd (.inr F9);cases h;have hcd:c.tdiv d*d=c:=kO (Int.dvd_of_tmod_eq_zero hm);simp only [dy,ZM];constructor
     · rintro ⟨y,h1,h2⟩;refine vZ hd0 ?_;rw [h2,h1,cO,hcd]
     intro h2;exact ⟨_,F9,by rw [h2,cO,hcd]⟩
   rw [aD s6] at h;by_cases s7:s=6∧d.tmod c=0
   · rw [aE s7] at h;obtain ⟨rfl,hm⟩:=s7;cases h;have hcd:d.tdiv c*c=d:=kO (Int.dvd_of_tmod_eq_zero hm);simp only [ZM];constructor
     · rintro ⟨y,h1,h2⟩;refine vZ hc0 ?_;rw [cO,hcd,h2,h1]
     intro h2;refine ⟨_,F9,?_⟩;rw [←h2,cO,hcd]
   rw [aD s7] at h;cases h
 rw [aD f5] at h;by_cases f6:f=6
 · subst f6;rw [aE rfl] at h;simp only [ZM];by_cases s2:s=2
   · subst s2;rw [aE rfl] at h;cases h;simp only [dx,ZM];exact ⟨fun ⟨y,h1,h2⟩=>by rw [h2,Int.neg_mul_neg,h1],fun h2=>⟨-q,by rw [←h2,iZ,gR],by omega⟩⟩
   rw [aD s2] at h;by_cases s6:s=6∧-512≤c*d∧c*d≤512
   · rw [aE s6] at h;obtain ⟨rfl,_⟩:=s6;cases h;simp only [ZM];exact ⟨fun ⟨y,h1,h2⟩=>by rw [←h1,←h2,cO,cJ d c],fun h2=>⟨q*d,by rw [←h2,cO,cJ d c],F9⟩⟩
   rw [aD s6] at h;cases h
 rw [aD f6] at h;by_cases f7:f=7
 · subst f7;rw [aE rfl] at h;have hc1:=xN hc (.inl F9);simp only [lj];by_cases s7:s=7∧c+d≤64
   · rw [aE s7] at h;obtain ⟨rfl,_⟩:=s7;have hd1:=xN hd (.inl F9);cases h;simp only [lj];rw [Ka sW sW];exact ⟨fun ⟨y,h1,h2⟩=>by rw [h2,h1,cO],fun h2=>⟨_,F9,by rw [h2,cO]⟩⟩
   rw [aD s7] at h;by_cases s8:s≠8
   · rw [aE s8] at h;cases h
   rw [aD s8] at h;have s8':s=8:=sW;subst s8';have hd1:=xN hd (.inr F9);have pc:=Pg c.toNat;have pd:=Pg d.toNat;simp only [lk];by_cases e1:c=d
   · rw [aE e1] at h;cases h;subst e1;simp only [fh];exact ⟨fun ⟨y,h1,h2⟩=>vZ (show p2 c.toNat≠0 by omega) (by rw [h2,h1]),fun h2=>⟨_,F9,by rw [h2]⟩⟩
   rw [aD e1] at h;by_cases e2:d<c
   · rw [aE e2] at h;cases h;simp only [lj];have hp:p2 c.toNat=p2 (c - d).toNat*p2 d.toNat:=by
      rw [←Ka sW sW];congr 2;omega
     constructor
     · rintro ⟨y,h1,h2⟩;refine vZ (show p2 d.toNat≠0 by omega) ?_;rw [h2,h1,cO,←hp]
     intro h2;exact ⟨_,F9,by rw [h2,cO,←hp]⟩
   rw [aD e2] at h;cases h;simp only [lk];have hp:p2 d.toNat=p2 (d - c).toNat*p2 c.toNat:=by
    rw [←Ka sW sW];congr 2;omega
   constructor
   · rintro ⟨y,h1,h2⟩;refine vZ (show p2 c.toNat≠0 by omega) ?_;rw [cO,←hp,h2,h1]
   intro h2;exact ⟨_,F9,by rw [←h2,cO,←hp]⟩
 rw [aD f7] at h;by_cases f8:f=8
 · subst f8;rw [aE rfl] at h;have hc1:=xN hc (.inr F9);by_cases s8:s=8∧c+d≤64
   · rw [aE s8] at h;obtain ⟨rfl,_⟩:=s8;have hd1:=xN hd (.inr F9);cases h;simp only [lk];rw [Ka sW sW];exact ⟨fun ⟨y,h1,h2⟩=>by rw [←h1,←h2,cO,cJ (p2 d.toNat)],fun h2=>⟨q*p2 d.toNat,by rw [←h2,cO,cJ (p2 d.toNat)],F9⟩⟩
   rw [aD s8] at h;cases h
 rw [aD f8] at h;cases h
theorem Ui (i:Sl.Instr) (rs:List Int):Af (uF i) rs=Af i rs:=by
 obtain ⟨op,t,a,b,c⟩:=i;unfold uF;simp only;by_cases h3:op=3
 · subst h3;rw [aE rfl];by_cases hab:a=b
   · subst hab;rw [aE rfl];have e2:p2 1=2:=by unfold p2;decide
     simp [Af,cst,e2];omega
   rw [aD hab]
 rw [aD h3];by_cases h5:op=5∨op=6
 · rw [aE h5];by_cases c1:c=1
   · subst c1;rw [aE rfl];rcases h5 with rfl | rfl <;> simp [Af,cst]
   rw [aD c1];by_cases c2:c=-1
   · subst c2;rw [aE rfl];rcases h5 with rfl | rfl
     · simp [Af,cst]
     simp [Af,cst]
   rw [aD c2];by_cases hp:wK c≠0
   · rw [aE hp];obtain ⟨m,m1,m2,m3,m4⟩:=YR hp;have ht:p2 (wK c).toNat=c:=by rw [m4,aF,m3];rfl
     rcases h5 with rfl | rfl
     · rw [aE rfl];simp [Af,cst,ht]
     rw [aD (by decide)];simp [Af,cst,ht]
   rw [aD hp]
 rw [aD h5]
theorem Kb (i:Sl.Instr):(uF i).to=i.to:=by
 unfold uF
 repeat' split
 all_goals rfl
theorem Wt {i:Sl.Instr} (h:¬(i.op=3∨i.op=4)) (rs:List Int):Af i rs=uZ i.op i.c (rs[i.a.toNat]?.getD 0):=by
 unfold Af uZ;have h3:¬i.op=3:=fun e=>h (.inl e);have h4:¬i.op=4:=fun e=>h (.inr e);simp only [h3,h4,lF];rfl
theorem VH {f c s d:Int} (h:(vS f c s d).2.2=true):¬(f=3∨f=4):=by
 rintro (rfl | rfl) <;> simp [vS] at h
theorem VI {f c s d:Int} (hs:¬(s=3∨s=4)) (h:(vS f c s d).2.2=true):¬((vS f c s d).1=3∨(vS f c s d).1=4):=by
 unfold vS at h ⊢
 repeat' split
 all_goals first
  | (simp;done)
  | (intro h9;simp at h9;omega)
  | simp_all
theorem PZ {a b:Sl.Instr} {rs:List Int} (hm:(uV a b).2=true) (ha:GM a) (hb:GM b) (ht:a.to.toNat<rs.length):wL [uV a b |>.1] rs=wL [a,b] rs:=by
 unfold uV at hm ⊢;by_cases h:b.op=3∨b.op=4∨b.a≠a.to∨b.to≠a.to
 · rw [aE h] at hm;cases hm
 rw [aD h] at hm ⊢;by_cases hk:(vS a.op a.c b.op b.c).2.2=true
 · rw [aE hk];have b34:¬(b.op=3∨b.op=4):=sW;have a34:=VH hk;have o34:=VI b34 hk;have hba:b.a=a.to:=sW;have hbt:b.to=a.to:=sW;have hok:tK (vS a.op a.c b.op b.c).1 (vS a.op a.c b.op b.c).2.1=true:=(Fw ha hb).resolve_right (by rw [hk];decide);have hsem:=fun x q=>VG (o:=(vS a.op a.c b.op b.c).1) (e:=(vS a.op a.c b.op b.c).2.1) (by rw [←hk]) ha hb x q;generalize (vS a.op a.c b.op b.c).1=o at *;generalize (vS a.op a.c b.op b.c).2.1=e at *;show (Af (uF ⟨o,b.to,a.a,0,e⟩) rs).bind (fun x=>some (rs.set (uF ⟨o,b.to,a.a,0,e⟩).to.toNat x))=(Af a rs).bind fun x=>(Af b (rs.set a.to.toNat x)).bind fun y=>some ((rs.set a.to.toNat x).set b.to.toNat y);rw [Ui,Kb,Wt o34,Wt a34];simp only [Wt b34,hba,hbt];generalize rs[a.a.toNat]?.getD 0=x;have hget:∀ y:Int,(rs.set a.to.toNat y)[a.to.toNat]?.getD 0=y:=fun y=>by rw [Jz,aE ⟨rfl,ht⟩]
   simp only [hget,List.set_set];have key:∀ q,uZ o e x=some q↔∃ y,uZ a.op a.c x=some y∧uZ b.op b.c y=some q:=fun q=>by
    rw [Re (Bn hok),←hsem x q];constructor
    · rintro ⟨y,k1,k2⟩;exact ⟨y,(Re (Bn ha)).2 k1,(Re (Bn hb)).2 k2⟩
    rintro ⟨y,k1,k2⟩;exact ⟨y,(Re (Bn ha)).1 k1,(Re (Bn hb)).1 k2⟩
   cases h1:uZ o e x with
   | some q =>
     obtain ⟨y,k1,k2⟩:=(key q).1 h1;rw [k1];simp only [eZ,k2]
   | none =>
     cases h2:uZ a.op a.c x with
     | none=>rfl
     | some y =>
       cases h3:uZ b.op b.c y with
       | none=>simp only [eZ,h3]
       | some q =>
         have:=(key q).2 ⟨y,h2,h3⟩;rw [h1] at this;cases this
 rw [aD hk] at hm;cases hm
theorem BG:∀ (l:List Sl.Instr) (rs r:List Int),wL l rs=some r→r.length=rs.length
 | [],rs,r,h=>by cases h;rfl
 | i :: l,rs,r,h=>by
   unfold wL at h;obtain ⟨x,hx,h⟩:=qC.1 h;rw [BG l _ _ h,aG]
theorem yN (l m:List Sl.Instr) (rs:List Int):wL (l++m) rs=(wL l rs).bind (wL m):=by
 induction l generalizing rs with
 | nil=>rfl
 | cons i l ih =>
   show (Af i rs).bind (fun x=>wL (l++m) (rs.set i.to.toNat x))=((Af i rs).bind fun x=>wL l (rs.set i.to.toNat x)).bind (wL m);cases Af i rs with
   | none=>rfl
   | some x=>exact ih _
theorem QA {l:List Int} {k:Nat}:l.set k (l[k]?.getD 0)=l:=by
 apply hS;intro j;rw [cI];by_cases h:k=j
 · subst h;rw [aE rfl];by_cases hk:k<l.length
   · rw [aE hk,aA hk];rfl
   rw [aD hk,cA sW]
 rw [aD h]
theorem BH {i:Sl.Instr} (h:Hc i=true) (rs:List Int):wL [i] rs=some rs:=by
 unfold Hc at h;rw [aV] at h;show (Af i rs).bind (fun x=>some (rs.set i.to.toNat x))=some rs;have e:Af i rs=some (rs[i.a.toNat]?.getD 0):=by
  unfold Af;simp [h.1]
 rw [e,eZ,h.2,QA]
def Kc (n:Nat) (i:Sl.Instr):Prop:=GM i∧i.to.toNat<n
theorem DY {n:Nat} {i:Sl.Instr} (h:Kc n i):Kc n (uF i):=⟨zZ h.1,by rw [Kb];exact h.2⟩
theorem VJ {a b:Sl.Instr} (h:(uV a b).2=true):(uV a b).1.to=a.to:=by
 unfold uV at h ⊢;by_cases h1:b.op=3∨b.op=4∨b.a≠a.to∨b.to≠a.to
 · rw [aE h1] at h;cases h
 rw [aD h1] at h ⊢;by_cases hk:(vS a.op a.c b.op b.c).2.2=true
 · rw [aE hk];show (uF _).to=_;rw [Kb];show b.to=a.to;omega
 rw [aD hk] at h;cases h
theorem Uj {n:Nat} {a b:Sl.Instr} (ha:Kc n a) (hb:Kc n b) (h:(uV a b).2=true):Kc n (uV a b).1:=⟨Jy ha.1 hb.1 h,by rw [VJ h];exact ha.2⟩
theorem BI {n:Nat}:∀ (s:List Sl.Instr) (b:Sl.Instr) (rs:List Int),rs.length=n→(∀ i∈s,Kc n i)→Kc n b→wL (xY s b).reverse rs=wL (s.reverse++[b]) rs
 | [],b,rs,hn,hs,hb=>by
   unfold xY;by_cases hi:Hc b=true
   · rw [aE hi];exact (BH hi rs).symm
   · rw [aD hi];rfl
 | a :: s,b,rs,hn,hs,hb=>by
   unfold xY;by_cases hi:Hc b=true
   · rw [aE hi,yN];cases h:wL (a :: s).reverse rs with
     | none=>rfl
     | some r=>exact (BH hi r).symm
   rw [aD hi];by_cases hm:(uV a b).2=true
   · rw [aE hm,BI s _ rs hn (fun i h=>hs i (by simp [h])) (Uj (hs a uE) hb hm),List.reverse_cons,aR,yN,yN];cases h:wL s.reverse rs with
     | none=>rfl
     | some r =>
       rw [eZ,eZ];exact PZ hm (hs a uE).1 hb.1 (by rw [BG _ _ _ h,hn];exact (hs a uE).2)
   rw [aD hm,List.reverse_cons]
theorem KH {n:Nat} (s:List Sl.Instr) (b:Sl.Instr) (hs:∀ i∈s,Kc n i) (hb:Kc n b):∀ i∈xY s b,Kc n i:=
 Rb (q:=Kc n) (fun a b ha hb h=>Uj ha hb h) s b hs hb
theorem Kd {n:Nat}:∀ (l s:List Sl.Instr) (rs:List Int),rs.length=n→(∀ i∈l,Kc n i)→(∀ i∈s,Kc n i)→wL (l.foldl (fun s i=>xY s (uF i)) s).reverse rs=wL (s.reverse++l) rs
 | [],s,rs,hn,hl,hs=>by rw [bB];rfl
 | i :: l,s,rs,hn,hl,hs=>by
   have hti:=DY (hl i uE);rw [List.foldl_cons,Kd l _ rs hn (fun j h=>hl j (by simp [h])) (KH s _ hs hti),yN,BI s _ rs hn hs hti,yN,yN];cases h:wL s.reverse rs with
   | none=>rfl
   | some r =>
     rw [eZ,eZ];show (wL [uF i] r).bind (wL l)=wL (i :: l) r;show ((Af (uF i) r).bind fun x=>some (r.set (uF i).to.toNat x)).bind (wL l)=(Af i r).bind fun x=>wL l (r.set i.to.toNat x);rw [Ui,Kb];cases Af i r <;> rfl
theorem QB {p:PV} {zs:List Int} (hR:sY p=true) (hz:(zs.length:Int)=p.ins):Du (zD p) zs=Du p zs:=by
 obtain ⟨f1,f2,f3,f4,f5,f6,f7,f8⟩:=tB hR;have hl:(wC p zs).length=p.regs.toNat:=by unfold wC;rw [aB,aJ];omega
 unfold Du;rw [wO (zD p) _ _ (aI _),wO p _ _ (aI _),bD,bD];have ht:∀ i∈p.code,Kc p.regs.toNat i:=fun i hi=>by
  have hm:=Fe hR i hi;have:=(tY hm).2.1;exact ⟨Bm hm,by omega⟩
 have h:=Kd p.code [] (wC p zs) hl ht (fun i h=>by cases h);rw [List.reverse_nil,gA] at h;show (wL (Qu p.code).reverse (wC p zs)).map (yW p)=_;unfold Qu;rw [h]
theorem ll (G:A3) (a:Option Addr) (n c:Nat):Does Tryz.prog 200 [.slice a n c] G [] (fun v G' Ho=>∃ b,v=.func (.func 234) #[] #[.pointer (some ⟨b,0,none⟩)]∧Ho=[]∧G' b=some (.cells [.slice a n c].toArray 23)):=by
 refine D0 Tryz.func200 Tryz.ntmps200 fun w=>?_;refine aH 2 [] ?_;refine eC 0 fun b1=>?_;refine aL 5 [] ?_;refine aQ (gY F9 F9) ?_;refine aS 4 [] ?_;refine qG 0 F9 fun G' hle hb=>?_;refine dA ?_;exact ⟨_,F9,F9,hb⟩
theorem lm (G:A3) (a:Option Addr) (c:Nat) (xs:List Sl.Instr) (b:Nat) (hx:Arr G a xs) (hl:xs.length≤1099511627776) (hb:G b=some (.cells [.slice a xs.length c].toArray 23)) :
 Ir Tryz.prog 234 [.pointer (some ⟨b,0,none⟩)] G dk (Qo xs):=by
 intro ι J inv stop ly i0 hi0 hY;have hcell:G.cell b 0=some (.slice a xs.length c):=AY hb 0 F9;refine D0 Tryz.func234 Tryz.ntmps234 fun w=>?_;refine rZ 1000 ?_;refine aH 2 [] ?_;refine aQ (bV T.one23 F9 sX) ?_;refine aZ 6 [] ?_;refine Yh (ι:=Int×ι) 1000 (fun (m,s)=>([(3,.int .i64 m),(0,.func (Go.Fn.yield ly) #[] #[]),(1,.pointer (some (Addr.mk b 0 none)))],[])) (fun (m,s)=>J s) (fun (m,s)=>-1≤m∧m<(xs.length:Int)∧inv ((xs.length:Int) - 1 - m).toNat s) (fun (m,s)=>(m+1).toNat) (((xs.length:Int) - 1,i0)) (⟨by omega,by omega,by rw [show ((xs.length:Int) - 1 - ((xs.length:Int) - 1)).toNat=0 by omega];exact hi0⟩) ⟨F9,F9,F9,H2⟩ H2 uX fun ⟨m,s⟩=>fun hk=>?_;obtain ⟨hm1,hm2,hinv⟩:=hk;refine bL 7 [] ?_;refine dB (fun hc1=>?_) fun hc1=>?_;refine aH 8 [] ?_;refine aQ (bV T.one23 F9 sX) ?_;refine aC 1 [] ?_;refine fV (α:=Instr) T.sl23 ?_;refine lP T.agg91 ?_;rotate_left;refine bG 4 [] ?_;rotate_left
 · have hbx:(Qo xs)[((xs.length:Int) - 1 - m).toNat]?=some (m,xs[m.toNat]?.getD default):=by
    rw [Lv xs sW];have e1:xs.length - 1 - ((xs.length:Int) - 1 - m).toNat=m.toNat:=sW;rw [e1];have e2:((m.toNat:Nat):Int)=m:=sW;rw [e2]
   refine Kv (A:=[]) 1000 F9 F9 F9 H2 uX F9 (hY ((xs.length:Int) - 1 - m).toNat _ s hbx hinv) fun vy Gy Hy hly hp=>?_;obtain ⟨rfl,s',rfl,hp⟩:=hp;rcases hp with ⟨rfl,hinv'⟩ | ⟨rfl,hst⟩
   · refine aS 12 [0] ?_;refine HW ((m - 1,s')) ?_ ?_ ⟨F9,F9,F9,H2⟩ H2 uX
     · refine ⟨by omega,by omega,?_⟩;rw [show ((xs.length:Int) - 1 - (m - 1)).toNat=((xs.length:Int) - 1 - m).toNat+1 by omega];exact hinv'
     show (m - 1+1).toNat<(m+1).toNat;omega
   refine aS 9 [1] ?_;refine mS (k:=1000) (.inr F9) F9 uX ⟨F9,s',F9,.inr hst⟩
 have hm:m=-1:=sW;subst hm;refine mS (k:=1000) (.inl F9) F9 uX ⟨F9,s,F9,.inl ?_⟩;rw [Cz];rw [show ((xs.length:Int) - 1 - -1).toNat=xs.length by omega] at hinv;exact hinv
theorem ee (G:A3) (p:PV) (ac ao:Option Addr) (cc co:Nat) :
 Does Tryz.prog 152 [.agg (I0 p ac cc ao co)] G [] (fun v G' Ho =>
  ∃ b,v=.func (.func 199) #[] #[.pointer (some ⟨b,0,none⟩)]∧Ho=[]∧G' b=some (.cells [.int .i64 p.ins,.int .i64 p.regs,.slice ac p.code.length cc,.slice ao p.outs.length co].toArray 26)):=by
 refine D0 Tryz.func152 Tryz.ntmps152 fun w=>?_;refine aH 2 [] ?_;refine eC 0 fun b1=>?_;refine aL 5 [] ?_;refine aQ (gY F9 F9) ?_;refine aS 4 [] ?_;refine qG 0 F9 fun G' hle hb=>?_;refine dA ?_;exact ⟨_,F9,F9,hb⟩
theorem WS (G:A3) (p:PV) (ac ao:Option Addr) (cc co:Nat) (b:Nat) (hc:Arr G ac p.code) (ho:Arr G ao p.outs) (h1:p.code.length≤1099511627776) (h2:p.outs.length≤1099511627776)
 (hb:G b=some (.cells [.int .i64 p.ins,.int .i64 p.regs,.slice ac p.code.length cc,.slice ao p.outs.length co].toArray 26)) (hR:sY p=true) :
 Ir Tryz.prog 199 [.pointer (some ⟨b,0,none⟩)] G dk (Qo p.code):=by
 intro ι J inv stop ly i0 hi0 hY;have hrow:=Dp hb;have hcode:=AY hb 2 F9;refine jS Tryz.func199 F9 Tryz.ntmps199 F9 fun w=>?_;refine rZ 1000 ?_;refine aH 2 [] ?_;refine eC 0 fun b1=>?_;refine aL 5 [] ?_;refine aQ (fY T.agg26 F9 sX F9) ?_;refine cF F9 (dl _ _ _ _ _ _ sX sX sW sW) ?_;refine aQ (fS F9) ?_;refine aZ 2 [] ?_;refine dB (fun hc1=>?_) fun hc1=>?_;refine bG 2 [] ?_;refine jM (.inr F9) ?_;rotate_left;refine aH 5 [] ?_;refine aQ (bV T.one23 F9 sX) ?_;refine bS 1 F9 (ll _ _ _ _) fun v1 G1 Ho1 hle1 hp=>?_;obtain ⟨bk1,rfl,rfl,hbk1⟩:=hp;replace hc:=hc.up hle1;replace ho:=ho.up hle1;refine aZ 3 [] ?_;rotate_left
 · exact absurd hR hc1
 refine qK (ι:=ι) 900 901 (fun s=>[(0,some b1,.cells #[.func (Go.Fn.yield ly) #[] #[]] 272)]++Hp.shift 1000 (J s)) (fun k s=>inv k s) (fun c s=>c=Code.ret∧stop s) (i0) F9 T.fn234 (fun _=>rfl) F9 (lm _ ac cc p.code bk1 hc h1 hbk1) (hi0) (fH ⟨F9,H2⟩ uX) ⟨F9,fun _=>mJ F9 F9⟩ (fun k x s l dd q w0 hx hi=>?_) (fun s dd hi=>?_) fun s dd c hi=>?_
 · refine aH 6 [] ?_;refine aM 902 F9 T.zero91 fun b2=>?_;refine aS 2 [902] ?_;refine lL 900 F9 ?_;refine aH 6 [0,902] ?_;refine Kv (A:=[(900,Option.some l,Go.Sl.C2 q Go.LoopState.busy Option.none),(902,Option.some b2,Go.Obj.cells (List.toArray (Go.Sl.A2.enc (Prod.snd x))) 91),(901,Option.some dd,Go.Obj.deferred (Option.some [])),(0,Option.some b1,Go.Obj.cells #[Go.Value.func (Go.Fn.yield ly) #[] #[]] 272)]) 1000 F9 F9 F9 ⟨F9,F9,F9,F9,H2⟩ uX F9 ((hY k x s hx hi).up hle1) fun vy Gy Hy hly hp=>?_;obtain ⟨rfl,s',rfl,hp⟩:=hp;rcases hp with ⟨rfl,hinv'⟩ | ⟨rfl,hst⟩
   · refine aS 6 [0] ?_;refine eY none (.inl ⟨F9,F9⟩) 900 F9 ⟨F9,(s',none),F9,.inl ⟨F9,F9,?_⟩⟩ (dF F9 (dF F9 (fH ⟨F9,H2⟩ uX)));exact hinv'
   refine aS 6 [1] ?_;refine eY (some (.ret)) (.inr (.inl ⟨F9,F9⟩)) 900 F9 ⟨F9,(s',some (.ret)),F9,.inr ⟨F9,_,F9,?_⟩⟩ (dF F9 (dF F9 (fH ⟨F9,H2⟩ uX)));exact ⟨F9,hst⟩
 · refine dO 1 [] ?_;refine gQ (.inl F9) 901 F9 ?_;refine jM (.inr F9) ?_;refine jY ?_;refine mS (k:=1000) (.inr F9) F9 uX ⟨F9,s,F9,.inl hi⟩
 obtain ⟨rfl,hst⟩:=hi;refine bG 2 [] ?_;refine gQ (.inr F9) 901 F9 ?_;refine jM (.inr F9) ?_;refine jY ?_;refine mS (k:=1000) (.inr F9) F9 uX ⟨F9,s,F9,.inr hst⟩
theorem ln (G:A3) (p:PV) (ac ao:Option Addr) (cc co:Nat) (hc:Arr G ac p.code) (ho:Arr G ao p.outs) (h1:p.code.length≤1099511627776) (h2:p.outs.length≤1099511627776) (hR:sY p=true) :
 Does Tryz.prog 101 [.agg (I0 p ac cc ao co)] G [] (fun v G' Ho=>∃ b c j,v=.slice b (tD p).length c∧A4 b c (tD p) j∧Ho=[(0,b.map (·.block),Row 4 (tD p) j)]∧G'=G):=by
 obtain ⟨r1,r2,r3,r4,r5,r6,r7,r8⟩:=tB hR;refine jS Tryz.func101 F9 Tryz.ntmps101 F9 fun w=>?_;refine aH 2 [] ?_;refine eC 0 fun b1=>?_;refine aZ 3 [] ?_;refine lX ?_;refine aH 4 [0] ?_;refine gN (α:=Bool) 1 F9 T.sl138 T.el4 F9 F9 sW sW fun b2=>?_;refine aM 2 F9 T.zero138 fun b3=>?_;refine aZ 13 [2,0] ?_;generalize hR0:List.replicate p.regs.toNat (default:Bool)=R0 at *;have hR0l:(R0.length:Int)=p.regs:=by rw [←hR0,aJ];omega
 refine iA (ι:=Nat×List Bool) (fun (k,xs)=>([(17,.int .i64 (k:Int)),(16,.int .i64 (↑p.outs.length:Int)),(15,.slice ao p.outs.length co),(3,.pointer (some (Addr.mk b3 0 none))),(2,.slice none 0 0),(1,.pointer (some ⟨b1,0,none⟩))],[(2,some b3,.cells #[.slice (some ⟨b2,0,none⟩) xs.length R0.length] 138),(1,some b2,Row 4 xs []),(0,some b1,.cells (I0 p ac cc ao co) 26)])) (fun (k,xs)=>k≤p.outs.length∧xs=vR R0 (p.outs.take k)∧A4 (some ⟨b2,0,none⟩) R0.length xs []) (fun (k,xs)=>p.outs.length - k) ((0,R0)) (⟨aN _,F9,fP Of⟩) fun ⟨k,xs⟩=>fun hk=>?_;obtain ⟨hk1,hxs,hox⟩:=hk;have hxl:(xs.length:Int)=p.regs:=by rw [hxs,xM];exact hR0l
 rcases aK k p.outs.length with hlt | hge
 · have hr:0≤p.outs[(k:Int).toNat]?.getD default∧p.outs[(k:Int).toNat]?.getD default<xs.length:=by
    rw [hxl];refine r7 _ ?_;rw [aF,aA hlt];simp
   refine aH 13 [1] ?_;refine fV (α:=Int) T.sl24 ?_;refine jG 0 T.one3 ?_;refine aL 6 [2] ?_;refine iK (α:=Bool) T.sl138 ?_;refine dJ (z:=_) 1 T.size4 F9 F9 F9 sX sW F9 fun ho1=>?_;refine aS 7 [] ?_;refine gJ 2 (.cells #[.slice (some ⟨b2,0,none⟩) (xs.set (p.outs[(k:Int).toNat]?.getD default).toNat true).length R0.length] 138) F9 Dt ?_;refine cM ((k+1,_)) ?_ ?_
   · exact ⟨by omega,by rw [Ce _ _ hlt,hxs],ho1⟩
   show p.outs.length - (k+1)<p.outs.length - k;omega
 have hk:k=p.outs.length:=sW;subst hk;rw [bD] at hxs;clear hk1 hge;refine aH 17 [0,0] ?_;refine gN (α:=Bool) 3 F9 T.sl138 T.el4 F9 F9 sW sW fun b4=>?_;refine aM 4 F9 T.zero138 fun b5=>?_;refine aL 10 [4,0] ?_;refine bS 5 F9 (ee _ _ _ _ _ _) fun v1 G1 Ho1 hle1 hp=>?_;obtain ⟨bb1,rfl,rfl,hbb1⟩:=hp;replace hc:=hc.up hle1;replace ho:=ho.up hle1;refine aZ 3 [] ?_;generalize hS0:List.replicate ((p.code.length:Int)).toNat (default:Bool)=S0 at *;have hS0l:S0.length=p.code.length:=by rw [←hS0,aJ];omega
 refine qK (ι:=List Bool×List Bool) 900 901 (fun (A,O)=>[(4,some b5,.cells #[.slice (some ⟨b4,0,none⟩) O.length S0.length] 138),(3,some b4,Row 4 O []),(2,some b3,.cells #[.slice (some ⟨b2,0,none⟩) A.length R0.length] 138),(1,some b2,Row 4 A []),(0,some b1,.cells (I0 p ac cc ao co) 26)]) (fun k (A,O)=>(A,O)=zM p k∧A4 (some ⟨b2,0,none⟩) R0.length A []∧A4 (some ⟨b4,0,none⟩) S0.length O []) (fun c (A,O)=>False) ((xs,S0)) F9 T.fn199 (fun _=>rfl) F9 (WS _ p _ _ _ _ _ hc ho sW sW hbb1 hR) (⟨by rw [hxs,←hR0,←hS0];rfl,hox,fP Of⟩) (oO ⟨F9,F9,F9,F9,F9,H2⟩) ⟨F9,fun _=>rfl⟩ (fun k x ⟨A,O⟩ l dd q w0 hx hi=>?_) (fun ⟨A,O⟩ dd hi=>?_) fun ⟨A,O⟩ dd c hi=>?_
 · obtain ⟨hn,hoA,hoO⟩:=hi;have hkl:k<p.code.length:=by have:=(bI.1 hx).1;rw [Cz] at this;exact this
   have hxe:x=(((p.code.length - 1 - k:Nat):Int),p.code[p.code.length - 1 - k]?.getD default):=by rw [Lv _ hkl] at hx;exact (kB hx).symm
   have hx1:x.1=((p.code.length - 1 - k:Nat):Int):=by rw [hxe]
   have hx2:x.2=p.code[p.code.length - 1 - k]?.getD default:=by rw [hxe]
   clear hxe;have hm:tI x.2 p.regs=true:=by
    rw [hx2];refine r8 _ ?_;rw [aA sW,eH];exact bZ _
   have hAl:(A.length:Int)=p.regs:=by have:=(wU p k).1;rw [←hn] at this;show (A.length:Int)=_;rw [show A.length=p.regs.toNat from this];omega
   have hOl:O.length=p.code.length:=by have:=(wU p k).2;rw [←hn] at this;exact this
   have hto:0≤x.2.to∧x.2.to<A.length:=by rw [hAl];rw [tU] at hm;exact ⟨hm.1.2.2.1,hm.1.2.2.2.1⟩
   have hx1b:0≤x.1∧x.1<O.length:=by rw [hx1,hOl];omega
   have hask:∀ r∈tM x.2,0≤r∧r<A.length:=by rw [hAl];exact Oa hm
   have hst:zM p (k+1)=yA (A,O) x.1 x.2:=by rw [hx1,hx2,hn];rfl
   have hasks:(tM x.2).length≤2:=by unfold tM;split <;> (try split) <;> simp
   refine aH 6 [] ?_;refine aM 902 F9 T.zero91 fun b6=>?_;refine aS 2 [902] ?_;refine lL 900 F9 ?_;refine aH 7 [2,902] ?_;refine iK (α:=Bool) T.sl138 ?_;refine nG 1 0 T.one4 ?_;refine aZ 3 [] ?_;refine lN F9 (fun hc1=>?_) fun hc1=>?_;refine bG 3 [] ?_;rotate_left;refine aH 6 [4] ?_;refine iK (α:=Bool) T.sl138 ?_;refine dJ (z:=_) 3 T.size4 F9 F9 F9 sX sW F9 fun ho1=>?_;refine aL 7 [2,902] ?_;refine iK (α:=Bool) T.sl138 ?_;refine dJ (z:=_) 1 T.size4 F9 F9 F9 sX sW F9 fun ho2=>?_;refine aL 5 [902] ?_;refine bS 903 F9 (IN _ _) fun v2 G2 Ho2 hle2 hp=>?_;obtain ⟨ad2,cd2,junk2,rfl,hoa2,rfl,rfl⟩:=hp;refine aZ 5 [] ?_;rotate_left
   · refine eY none (.inl ⟨F9,F9⟩) 900 F9 ⟨F9,((A,O),none),F9,.inl ⟨F9,F9,?_⟩⟩ (oO ⟨F9,F9,F9,F9,F9,F9,F9,H2⟩);refine ⟨?_,hoA,hoO⟩;rw [hst];unfold yA;rw [aD (by simpa using hc1)]
   refine qJ 2 (.cells #[.slice (some ⟨b2,0,none⟩) (A.set x.2.to.toNat false).length R0.length] 138) F9 Dt (qJ 4 (.cells #[.slice (some ⟨b4,0,none⟩) (O.set x.1.toNat true).length S0.length] 138) F9 Dt ?_);refine iA (ι:=Nat×List Bool) (fun (m,B)=>([(49,.int .i64 (m:Int)),(48,.int .i64 (↑(List.length (tM (Prod.snd x))):Int)),(47,.slice ad2 (List.length (tM (Prod.snd x))) cd2),(3,.pointer (some (Addr.mk b3 0 none)))],[(2,some b3,.cells #[.slice (some ⟨b2,0,none⟩) B.length R0.length] 138),(1,some b2,Row 4 B []),(4,some b5,.cells #[.slice (some (Addr.mk b4 0 none)) (List.length (List.set O (Int.toNat (Prod.fst x)) Bool.true)) (List.length S0)] 138),(904,Option.map (fun x=>Go.Addr.block x) ad2,Row (α:=Int) 3 (tM (Prod.snd x)) (junk2)),(3,Option.map (fun x=>Go.Addr.block x) (some (Addr.mk b4 0 none)),Row (α:=Bool) 4 (List.set O (Int.toNat (Prod.fst x)) Bool.true) ([])),(900,some l,Go.Sl.C2 q Go.LoopState.busy none),(902,some b6,.cells (List.toArray (A2.enc (Prod.snd x))) 91),(901,some dd,Go.Obj.deferred (some [])),(0,some b1,.cells (I0 p ac cc ao co) 26)])) (fun (m,B)=>m≤(tM x.2).length∧B=vR (A.set x.2.to.toNat false) ((tM x.2).take m)∧A4 (some ⟨b2,0,none⟩) R0.length B []) (fun (m,B)=>(tM x.2).length - m) ((0,A.set x.2.to.toNat false)) (⟨aN _,F9,ho2⟩) fun ⟨m,B⟩=>fun hk=>?_;obtain ⟨hm1,hB,hoB⟩:=hk;have hBl:B.length=A.length:=by rw [hB,xM,aG]
   rcases aK m (tM x.2).length with hlt | hge
   · have hr:0≤(tM x.2)[(m:Int).toNat]?.getD default∧(tM x.2)[(m:Int).toNat]?.getD default<B.length:=by
      rw [hBl];refine hask _ ?_;rw [aF,aA hlt];simp
     refine aH 13 [1] ?_;refine iK (α:=Int) T.sl24 ?_;refine nG 904 0 T.one3 ?_;refine aL 6 [2] ?_;refine iK (α:=Bool) T.sl138 ?_;refine dJ (z:=_) 1 T.size4 F9 F9 F9 sX sW F9 fun ho3=>?_;refine aS 7 [] ?_;refine gJ 2 (.cells #[.slice (some ⟨b2,0,none⟩) (B.set ((tM x.2)[(m:Int).toNat]?.getD default).toNat true).length R0.length] 138) F9 Dt ?_;refine cM ((m+1,_)) ?_ ?_
     · exact ⟨by omega,by rw [Ce _ _ hlt,hB],ho3⟩
     show (tM x.2).length - (m+1)<(tM x.2).length - m;omega
   have hm:m=(tM x.2).length:=sW;subst hm;rw [bD] at hB;refine bG 12 [0] ?_;refine eY none (.inl ⟨F9,F9⟩) 900 F9 ⟨F9,((B,O.set x.1.toNat true),none),F9,.inl ⟨F9,F9,?_⟩⟩ (oO ⟨F9,F9,F9,F9,F9,F9,F9,H2⟩);refine ⟨?_,hoB,ho1⟩;rw [hst];unfold yA;rw [aE (by simpa using hc1),hB]
 · obtain ⟨hn,hoA,hoO⟩:=hi;rw [Cz] at hn;have hO:O=tD p:=congrArg Prod.snd hn;subst hO;refine dO 9 [4] ?_;refine jJ ?_;refine gQ (.inr F9) 901 F9 ?_;refine jM (.inr F9) ?_;refine jY (mR [3] tG (cK (.inr F9) F9 (.tmp F9) (mI 0 _) ?_));exact ⟨_,_,_,F9,hoO,F9,F9⟩
 exact hi.elim
theorem lu (G:A3) (i:Sl.Instr):Does Tryz.prog 102 [.agg (A2.enc i).toArray] G [] (fun v G' Ho=>v=.bool (decide (i.op=1∧i.to=i.a))∧G'=G∧Ho=[]):=by
 refine D0 Tryz.func102 Tryz.ntmps102 fun w=>?_;refine aH 2 [] ?_;refine eC 0 fun b1=>?_;refine aL 9 [0] ?_;apply bW 6 6 12 F9;intro hg1;refine aC 11 [0,0] ?_;exact dI 6 0;intro hg1;refine aC 6 [] ?_;exact dI 6 0;refine aS 4 [] ?_;refine dA ?_;exact ⟨F9,F9,F9⟩
theorem lx (G:A3) (p:PV) (ac ao:Option Addr) (cc co:Nat) (hc:Arr G ac p.code) (ho:Arr G ao p.outs) (h1:p.code.length≤1099511627776) (h2:p.outs.length≤1099511627776) (hR:sY p=true) :
 Does Tryz.prog 49 [.agg (I0 p ac cc ao co)] G [] (fun v G' Ho =>
  ∃ bc bo dc do_ j1 j2,v=.tuple #[.agg #[.int .i64 p.ins,.int .i64 p.regs,.slice bc (zX p).code.length dc,.slice bo p.outs.length do_],.int .i64 0]∧
   A4 bc dc (zX p).code j1∧A4 bo do_ p.outs j2∧Ho=[(0,bc.map (·.block),Row 91 (zX p).code j1),(1,bo.map (·.block),Row 3 p.outs j2)]∧G'=G):=by
 obtain ⟨r1,r2,r3,r4,r5,r6,r7,r8⟩:=tB hR;have hcheck:(vC p).2=false:=by simpa [sY] using hR
 refine D0 Tryz.func49 Tryz.ntmps49 fun w=>?_;refine eF 0 (Row 91 ([]:List Sl.Instr) []) ?_;refine aH 2 [] ?_;refine eC 1 fun b1=>?_;refine aM 2 F9 T.zero26 fun b2=>?_;refine aL 6 [1] ?_;refine cF F9 (ZK _ _ _ _ _ _ sX sX sW sW) ?_;refine aZ 14 [] ?_;refine dB (fun hc1=>?_) fun hc1=>?_;refine aH 2 [] ?_;refine aQ (bP (cs:=[_,_,_,_]) T.st26 F9 F9 F9) ?_;refine aS 7 [2] ?_;rotate_left;refine aH 11 [1] ?_;refine bS 3 F9 (ln _ _ _ _ _ _ sX sX sW sW sX) fun v1 G1 Ho1 hle1 hp=>?_;obtain ⟨nb1,nc1,nj1,rfl,hnb1,rfl,rfl⟩:=hp;refine aZ 5 [] ?_;rotate_left
 · rw [hcheck] at hc1;exact absurd F9 hc1
 have hnl:(tD p).length=p.code.length:=(wU p _).2;refine fX (ι:=Nat×List Sl.Instr×(Option Addr×Nat×List Value)) (fun (k,xs,(b,d,j))=>([(21,.int .i64 (k:Int)),(6,.slice b xs.length d),(20,.int .i64 (↑(List.length (tD p)):Int)),(19,.slice nb1 (List.length (tD p)) nc1),(3,.int .i64 0),(2,.pointer (some ⟨b2,0,none⟩)),(1,.pointer (some ⟨b1,0,none⟩))],[(0,b.map (·.block),Row 91 xs j),(3,Option.map (fun x=>Go.Addr.block x) nb1,Row (α:=Bool) 4 (tD p) (nj1)),(2,some b2,.cells #[.int .i64 0,.int .i64 0,.slice none 0 0,.slice none 0 0] 26),(1,some b1,.cells (I0 p ac cc ao co) 26)])) (fun (k,xs,(b,d,j))=>k≤p.code.length∧xs=wE p k∧A4 b d xs j) (fun (k,xs,(b,d,j))=>p.code.length - k) ((0,[],(none,0,[]))) (⟨aN _,F9,eG⟩) ⟨F9,F9,F9,F9,F9,F9,F9,H2⟩ ⟨F9,F9,F9,F9,H2⟩ fun ⟨k,xs,(b,d,j)⟩=>fun hk=>?_;obtain ⟨hk1,hxs,hob⟩:=hk;have hxl:xs.length≤k:=by rw [hxs];exact Hu p k
 rcases aK k p.code.length with hlt | hge
 · have hst:wE p (k+1)=if (tD p)[(k:Int).toNat]?.getD default=true∧¬((p.code[(k:Int).toNat]?.getD default).op=1∧(p.code[(k:Int).toNat]?.getD default).to=(p.code[(k:Int).toNat]?.getD default).a)
    then wE p k++[p.code[((k:Nat):Int).toNat]?.getD default] else wE p k:=rfl
   refine aH 14 [1] ?_;refine iK (α:=Bool) T.sl138 ?_;refine nG 3 0 T.one4 ?_;refine aL 8 [] ?_;refine Sq 27 F9 (fun hg1=>?_) fun hg1=>?_;refine aC 7 [1] ?_;refine fV (α:=Instr) T.sl23 ?_;refine aC 1 [] ?_;refine lP T.agg91 ?_;refine aC 1 [] ?_;refine cF F9 (lu _ _) ?_;refine aC 1 [] ?_;refine aQ (fS F9) ?_;refine aZ 3 [] ?_;refine dB (fun hc2=>?_) fun hc2=>?_;refine aH 5 [1] ?_;refine fV (α:=Instr) T.sl23 ?_;refine lP T.agg91 ?_;refine cC (α:=Instr) 4 [(Option.getD p.code[Int.toNat (↑k:Int)]? Inhabited.default)] F9 T.sl23 T.el91 F9 F9 F9 F9 F9 fun b3=>?_;refine kM (α:=Instr) 0 T.sl23 T.el91 (cQ 4 F9) fun a1 c1 junk1 ho1=>?_;refine aS 8 [] ?_;rotate_left;refine bG 7 [] ?_;rotate_left;refine aS 18 [0] ?_;rotate_left
   · refine cM ((k+1,_,(a1,c1,junk1))) ?_ ?_
     · exact ⟨by omega,by rw [hst,aE ⟨hg1,hc2⟩,hxs],ho1⟩
     show p.code.length - (k+1)<p.code.length - k;omega
   · refine cM ((k+1,xs,(b,d,j))) ?_ ?_
     · exact ⟨by omega,by rw [hst,aD (fun h=>hc2 h.2),hxs],hob⟩
     show p.code.length - (k+1)<p.code.length - k;omega
   refine cM ((k+1,xs,(b,d,j))) ?_ ?_
   · exact ⟨by omega,by rw [hst,aD (fun h=>by rw [hg1] at h;cases h.1),hxs],hob⟩
   show p.code.length - (k+1)<p.code.length - k;omega
 have hk:k=p.code.length:=sW;subst hk;have hxs':xs=(zX p).code:=hxs;rw [hxs'] at hob ⊢;refine bL 13 [0] ?_;refine dK [1,2,3,0] [(2,9)] T.mixed [[0],[1,1],[2],[3,1],[4],[5],[6,1]] ?_;refine bE 7 ?_;refine bS 4 F9 (YQ _ _ _ _ sX sW) fun v2 G2 Ho2 hle2 hp=>?_;obtain ⟨lb2,ld2,lj2,rfl,hlb2,rfl,rfl⟩:=hp;refine aT ?_;refine eD 8 [] F9 (bP (cs:=[_,_,_,_]) T.st26 F9 F9 F9) ?_;refine bE 9 ?_;refine aC 1 [2] ?_;refine aT ?_;refine dP [[10]] ?_;refine cT ?_;refine dO 2 [] ?_;refine mR [0,4,2] tG (iC (.inr F9) (Ho:=Hp.only _ [0,1]) F9 (.agg 2 F9 F9 T.agg26) (.tmp F9) (aU _ _) ?_);exact ⟨_,_,_,_,_,_,F9,hob,hlb2,F9,F9⟩
section
attribute [local irreducible] Ng pw uY p2 xT uC tJ sY
end
theorem mc (G:A3) (p:PV) (ac ao:Option Addr) (cc co:Nat) (hc:Arr G ac p.code) (ho:Arr G ao p.outs) (h1:p.code.length≤1099511627776) (h2:p.outs.length≤1099511627776) (hR:sY p=true) :
 Does Tryz.prog 141 [.agg (I0 p ac cc ao co)] G [] (fun v G' Ho=>∃ b c j,v=.tuple #[.slice b (tD p).length c,.int .i64 0]∧A4 b c (tD p) j∧Ho=[(0,b.map (·.block),Row 4 (tD p) j)]∧G'=G):=by
 obtain ⟨r1,r2,r3,r4,r5,r6,r7,r8⟩:=tB hR;refine jS Tryz.func141 F9 Tryz.ntmps141 F9 fun w=>?_;refine aH 2 [] ?_;refine eC 0 fun b1=>?_;refine aL 8 [0] ?_;refine cF F9 (dl _ _ _ _ _ _ sX sX sW sW) ?_;refine aQ (fS F9) ?_;refine aZ 2 [] ?_;refine dB (fun hc1=>?_) fun hc1=>?_;refine bG 8 [] ?_;refine jM (.inr F9) ?_;rotate_left;refine aH 7 [0] ?_;refine gN (α:=Bool) 1 F9 T.sl138 T.el4 F9 F9 sW sW fun b2=>?_;refine aM 2 F9 T.zero138 fun b3=>?_;refine aL 7 [2,0] ?_;refine gN (α:=Bool) 3 F9 T.sl138 T.el4 F9 F9 sW sW fun b4=>?_;refine aM 4 F9 T.zero138 fun b5=>?_;refine aZ 13 [4,0] ?_;rotate_left
 · exact absurd hR hc1
 generalize hR0:List.replicate p.regs.toNat (default:Bool)=R0 at *;have hR0l:(R0.length:Int)=p.regs:=by rw [←hR0,aJ];omega
 generalize hS0:List.replicate ((p.code.length:Int)).toNat (default:Bool)=S0 at *;have hS0l:S0.length=p.code.length:=by rw [←hS0,aJ];omega
 refine iA (ι:=Nat×List Bool) (fun (k,xs)=>([(25,.int .i64 (k:Int)),(24,.int .i64 (↑p.outs.length:Int)),(23,.slice ao p.outs.length co),(5,.pointer (some (Addr.mk b5 0 none))),(4,.pointer (some (Addr.mk b3 0 none))),(3,.int .i64 0),(2,.slice none 0 0),(1,.pointer (some ⟨b1,0,none⟩))],[(4,some b5,.cells #[.slice (some ⟨b4,0,none⟩) xs.length R0.length] 138),(3,some b4,Row 4 xs []),(2,some b3,.cells (List.toArray (List.set [.slice none 0 0] 0 (.slice (some (Addr.mk b2 0 none)) (List.length S0) (List.length S0)))) 138),(1,some b2,Row (α:=Bool) 4 (S0) ([])),(0,some b1,.cells (I0 p ac cc ao co) 26)])) (fun (k,xs)=>k≤p.outs.length∧xs=vR R0 (p.outs.take k)∧A4 (some ⟨b4,0,none⟩) R0.length xs []) (fun (k,xs)=>p.outs.length - k) ((0,R0)) (⟨aN _,F9,fP Of⟩) fun ⟨k,xs⟩=>fun hk=>?_;obtain ⟨hk1,hxs,hox⟩:=hk;have hxl:(xs.length:Int)=p.regs:=by rw [hxs,xM];exact hR0l
 rcases aK k p.outs.length with hlt | hge
 · have hr:0≤p.outs[(k:Int).toNat]?.getD default∧p.outs[(k:Int).toNat]?.getD default<xs.length:=by
    rw [hxl];refine r7 _ ?_;rw [aF,aA hlt];simp
   refine aH 13 [1] ?_;refine fV (α:=Int) T.sl24 ?_;refine jG 0 T.one3 ?_;refine aL 6 [4] ?_;refine iK (α:=Bool) T.sl138 ?_;refine dJ (z:=_) 3 T.size4 F9 F9 F9 sX sW F9 fun ho1=>?_;refine aS 7 [] ?_;refine gJ 4 (.cells #[.slice (some ⟨b4,0,none⟩) (xs.set (p.outs[(k:Int).toNat]?.getD default).toNat true).length R0.length] 138) F9 Dt ?_;refine cM ((k+1,_)) ?_ ?_
   · exact ⟨by omega,by rw [Ce _ _ hlt,hxs],ho1⟩
   show p.outs.length - (k+1)<p.outs.length - k;omega
 have hk:k=p.outs.length:=sW;subst hk;rw [bD] at hxs;clear hk1 hge;refine aH 16 [0,0] ?_;refine bS 5 F9 (ee _ _ _ _ _ _) fun v1 G1 Ho1 hle1 hp=>?_;obtain ⟨bb1,rfl,rfl,hbb1⟩:=hp;replace hc:=hc.up hle1;replace ho:=ho.up hle1;refine aZ 3 [] ?_;refine qK (ι:=List Bool×List Bool) 900 901 (fun (A,O)=>[(2,some b3,.cells #[.slice (some ⟨b2,0,none⟩) O.length S0.length] 138),(1,some b2,Row 4 O []),(4,some b5,.cells #[.slice (some ⟨b4,0,none⟩) A.length R0.length] 138),(3,some b4,Row 4 A []),(0,some b1,.cells (I0 p ac cc ao co) 26)]) (fun k (A,O)=>(A,O)=zM p k∧A4 (some ⟨b4,0,none⟩) R0.length A []∧A4 (some ⟨b2,0,none⟩) S0.length O []) (fun c (A,O)=>False) ((xs,S0)) F9 T.fn199 (fun _=>rfl) F9 (WS _ p _ _ _ _ _ hc ho sW sW hbb1 hR) (⟨by rw [hxs,←hR0,←hS0];rfl,hox,fP Of⟩) (oO ⟨F9,F9,F9,F9,F9,H2⟩) ⟨F9,fun _=>rfl⟩ (fun k x ⟨A,O⟩ l dd q w0 hx hi=>?_) (fun ⟨A,O⟩ dd hi=>?_) fun ⟨A,O⟩ dd c hi=>?_
 · obtain ⟨hn,hoA,hoO⟩:=hi;have hkl:k<p.code.length:=by have:=(bI.1 hx).1;rw [Cz] at this;exact this
   have hxe:x=(((p.code.length - 1 - k:Nat):Int),p.code[p.code.length - 1 - k]?.getD default):=by rw [Lv _ hkl] at hx;exact (kB hx).symm
   have hx1:x.1=((p.code.length - 1 - k:Nat):Int):=by rw [hxe]
   have hx2:x.2=p.code[p.code.length - 1 - k]?.getD default:=by rw [hxe]
   clear hxe;have hm:tI x.2 p.regs=true:=by
    rw [hx2];refine r8 _ ?_;rw [aA sW,eH];exact bZ _
   have hAl:(A.length:Int)=p.regs:=by have:=(wU p k).1;rw [←hn] at this;show (A.length:Int)=_;rw [show A.length=p.regs.toNat from this];omega
   have hOl:O.length=p.code.length:=by have:=(wU p k).2;rw [←hn] at this;exact this
   have hto:0≤x.2.to∧x.2.to<A.length:=by rw [hAl];rw [tU] at hm;exact ⟨hm.1.2.2.1,hm.1.2.2.2.1⟩
   have hx1b:0≤x.1∧x.1<O.length:=by rw [hx1,hOl];omega
   have hask:∀ r∈tM x.2,0≤r∧r<A.length:=by rw [hAl];exact Oa hm
   have hst:zM p (k+1)=yA (A,O) x.1 x.2:=by rw [hx1,hx2,hn];rfl
   have hasks:(tM x.2).length≤2:=by unfold tM;split <;> (try split) <;> simp
   refine aH 6 [] ?_;refine aM 902 F9 T.zero91 fun b6=>?_;refine aS 2 [902] ?_;refine lL 900 F9 ?_;refine aH 7 [4,902] ?_;refine iK (α:=Bool) T.sl138 ?_;refine nG 3 0 T.one4 ?_;refine aZ 3 [] ?_;refine lN F9 (fun hc2=>?_) fun hc2=>?_;refine bG 3 [] ?_;rotate_left;refine bL 3 [] ?_;refine dK [0,3,4,1,2,901,902,900] [(900,8),(902,8),(901,8),(2,8),(1,8),(4,8),(3,8),(0,8),(900,6),(902,6),(901,6),(2,6),(1,6),(4,6),(3,6),(0,6)] T.mixed [[0,2],[1],[3]] ?_;refine fO (α:=Bool) 5 T.sl138 ?_;refine Gm.o3 2 4 6 ?_ ?_ ?_;refine aC 1 [4] ?_;refine aT ?_;refine mK 4 6 ?_ ?_;refine aC 1 [902] ?_;refine cX 6 ?_;refine dJ (z:=_) 1 T.size4 F9 F9 F9 sX sW F9 fun ho1=>?_;refine aT ?_;refine fO (α:=Bool) 7 T.sl138 ?_;refine bE 8 ?_;refine dJ (z:=_) 3 T.size4 F9 F9 F9 sX sW F9 fun ho2=>?_;refine fJ ?_;refine lK 4 [902] ?_;refine bS 903 F9 (IN _ _) fun v2 G2 Ho2 hle2 hp=>?_;obtain ⟨ad2,cd2,junk2,rfl,hoa2,rfl,rfl⟩:=hp;refine aZ 5 [] ?_;rotate_left;refine dJ (z:=_) 1 T.size4 F9 F9 F9 sX sW F9 fun ho1=>?_;refine cX 4 ?_;refine aC 1 [902] ?_;refine aT ?_;refine fO (α:=Bool) 7 T.sl138 ?_;refine bE 8 ?_;refine dJ (z:=_) 3 T.size4 F9 F9 F9 sX sW F9 fun ho2=>?_;refine fJ ?_;refine lK 4 [902] ?_;refine bS 903 F9 (IN _ _) fun v2 G2 Ho2 hle2 hp=>?_;obtain ⟨ad2,cd2,junk2,rfl,hoa2,rfl,rfl⟩:=hp;refine aZ 5 [] ?_;rotate_left;refine aC 1 [902] ?_;refine aT ?_;refine mK 2 6 ?_ ?_;refine aC 1 [4] ?_;refine cX 6 ?_;refine dJ (z:=_) 1 T.size4 F9 F9 F9 sX sW F9 fun ho1=>?_;refine aT ?_;refine fO (α:=Bool) 7 T.sl138 ?_;refine bE 8 ?_;refine dJ (z:=_) 3 T.size4 F9 F9 F9 sX sW F9 fun ho2=>?_;refine fJ ?_;refine lK 4 [902] ?_;refine bS 903 F9 (IN _ _) fun v2 G2 Ho2 hle2 hp=>?_;obtain ⟨ad2,cd2,junk2,rfl,hoa2,rfl,rfl⟩:=hp;refine aZ 5 [] ?_;rotate_left;refine dJ (z:=_) 1 T.size4 F9 F9 F9 sX sW F9 fun ho1=>?_;refine cX 2 ?_;refine aC 1 [4] ?_;refine aT ?_;refine fO (α:=Bool) 7 T.sl138 ?_;refine bE 8 ?_;refine dJ (z:=_) 3 T.size4 F9 F9 F9 sX sW F9 fun ho2=>?_;refine fJ ?_;refine lK 4 [902] ?_;refine bS 903 F9 (IN _ _) fun v2 G2 Ho2 hle2 hp=>?_;obtain ⟨ad2,cd2,junk2,rfl,hoa2,rfl,rfl⟩:=hp;refine aZ 5 [] ?_;rotate_left;refine dJ (z:=_) 1 T.size4 F9 F9 F9 sX sW F9 fun ho1=>?_;refine aT ?_;refine mK 2 4 ?_ ?_;refine aC 1 [4] ?_;refine cX 4 ?_;refine aC 1 [902] ?_;refine aT ?_;refine fO (α:=Bool) 7 T.sl138 ?_;refine bE 8 ?_;refine dJ (z:=_) 3 T.size4 F9 F9 F9 sX sW F9 fun ho2=>?_;refine fJ ?_;refine lK 4 [902] ?_;refine bS 903 F9 (IN _ _) fun v2 G2 Ho2 hle2 hp=>?_;obtain ⟨ad2,cd2,junk2,rfl,hoa2,rfl,rfl⟩:=hp;refine aZ 5 [] ?_;rotate_left;refine aC 1 [902] ?_;refine cX 2 ?_;refine aC 1 [4] ?_;refine aT ?_;refine fO (α:=Bool) 7 T.sl138 ?_;refine bE 8 ?_;refine dJ (z:=_) 3 T.size4 F9 F9 F9 sX sW F9 fun ho2=>?_;refine fJ ?_;refine lK 4 [902] ?_;refine bS 903 F9 (IN _ _) fun v2 G2 Ho2 hle2 hp=>?_;obtain ⟨ad2,cd2,junk2,rfl,hoa2,rfl,rfl⟩:=hp;refine aZ 5 [] ?_;rotate_left
   · refine eY none (.inl ⟨F9,F9⟩) 900 F9 ⟨F9,((A,O),none),F9,.inl ⟨F9,F9,?_⟩⟩ (oO ⟨F9,F9,F9,F9,F9,F9,F9,H2⟩);refine ⟨?_,hoA,hoO⟩;rw [hst];unfold yA;rw [aD (by simpa using hc2)]
   all_goals
    have hoO':A4 (some ⟨b2,0,none⟩) S0.length (O.set x.1.toNat true) []:=by assumption
    have hoA':A4 (some ⟨b4,0,none⟩) R0.length (A.set x.2.to.toNat false) []:=by assumption
    refine qJ 4 (.cells #[.slice (some ⟨b4,0,none⟩) (A.set x.2.to.toNat false).length R0.length] 138) F9 Dt (qJ 2 (.cells #[.slice (some ⟨b2,0,none⟩) (O.set x.1.toNat true).length S0.length] 138) F9 Dt ?_);refine iA (ι:=Nat×List Bool) (fun (m,B)=>([(53,.int .i64 (m:Int)),(52,.int .i64 (↑(List.length (tM (Prod.snd x))):Int)),(51,.slice ad2 (List.length (tM (Prod.snd x))) cd2),(5,.pointer (some (Addr.mk b5 0 none)))],[(4,some b5,.cells #[.slice (some ⟨b4,0,none⟩) B.length R0.length] 138),(3,some b4,Row 4 B []),(2,some b3,.cells #[.slice (some (Addr.mk b2 0 none)) (List.length (List.set O (Int.toNat (Prod.fst x)) Bool.true)) (List.length S0)] 138),(904,Option.map (fun x=>Go.Addr.block x) ad2,Row (α:=Int) 3 (tM (Prod.snd x)) (junk2)),(1,Option.map (fun x=>Go.Addr.block x) (some (Addr.mk b2 0 none)),Row (α:=Bool) 4 (List.set O (Int.toNat (Prod.fst x)) Bool.true) ([])),(900,some l,Go.Sl.C2 q Go.LoopState.busy none),(902,some b6,.cells (List.toArray (A2.enc (Prod.snd x))) 91),(901,some dd,Go.Obj.deferred (some [])),(0,some b1,.cells (I0 p ac cc ao co) 26)])) (fun (m,B)=>m≤(tM x.2).length∧B=vR (A.set x.2.to.toNat false) ((tM x.2).take m)∧A4 (some ⟨b4,0,none⟩) R0.length B []) (fun (m,B)=>(tM x.2).length - m) ((0,A.set x.2.to.toNat false)) (⟨aN _,F9,hoA'⟩) fun ⟨m,B⟩=>fun hk=>?_;obtain ⟨hm1,hB,hoB⟩:=hk;have hBl:B.length=A.length:=by rw [hB,xM,aG]
    rcases aK m (tM x.2).length with hlt | hge
    · have hr:0≤(tM x.2)[(m:Int).toNat]?.getD default∧(tM x.2)[(m:Int).toNat]?.getD default<B.length:=by
       rw [hBl];refine hask _ ?_;rw [aF,aA hlt];simp
      refine aH 13 [1] ?_;refine iK (α:=Int) T.sl24 ?_;refine nG 904 0 T.one3 ?_;refine aL 6 [4] ?_;refine iK (α:=Bool) T.sl138 ?_;refine dJ (z:=_) 3 T.size4 F9 F9 F9 sX sW F9 fun ho3=>?_;refine aS 7 [] ?_;refine gJ 4 (.cells #[.slice (some ⟨b4,0,none⟩) (B.set ((tM x.2)[(m:Int).toNat]?.getD default).toNat true).length R0.length] 138) F9 Dt ?_;refine cM ((m+1,_)) ?_ ?_
      · exact ⟨by omega,by rw [Ce _ _ hlt,hB],by assumption⟩
      show (tM x.2).length - (m+1)<(tM x.2).length - m;omega
    have hm:m=(tM x.2).length:=sW;subst hm;rw [bD] at hB;refine bG 12 [0] ?_;refine eY none (.inl ⟨F9,F9⟩) 900 F9 ⟨F9,((B,O.set x.1.toNat true),none),F9,.inl ⟨F9,F9,?_⟩⟩ (oO ⟨F9,F9,F9,F9,F9,F9,F9,H2⟩);refine ⟨?_,hoB,hoO'⟩;rw [hst];unfold yA;rw [aE (by simpa using hc2),hB]
 · obtain ⟨hn,hoA,hoO⟩:=hi;rw [Cz] at hn;have hO:O=tD p:=congrArg Prod.snd hn;subst hO;refine dO 10 [2] ?_;refine gQ (.inr F9) 901 F9 ?_;refine jM (.inr F9) ?_;refine jY (mR [1] tG (iC (.inr F9) F9 (.tmp F9) (.tmp F9) (mI 0 _) ?_));exact ⟨_,_,_,F9,hoO,F9,F9⟩
 exact hi.elim
structure Life where
 a:List Int
 b:List Int
 sets:List Int
 outs:List Int
 till:List Int
 held:List Int
def yH (p:PV) (k:Nat):Sl.Instr:=p.code[((k:Nat):Int).toNat]?.getD default
def Bq (p:PV) (k:Nat):Bool:=(tD p)[((k:Nat):Int).toNat]?.getD default
def vA (l:Life) (i:Sl.Instr):Int:=l.held[i.a.toNat]?.getD default
def vB (l:Life) (i:Sl.Instr):Int:=if 1<(tM i).length then l.held[i.b.toNat]?.getD default else vA l i
def vI (l:Life) (k:Nat) (i:Sl.Instr):Life:=
 ⟨l.a.set k (vA l i),l.b.set k (vB l i),l.sets.set k l.till.length,l.outs,((l.till.set (vA l i).toNat k).set (vB l i).toNat k)++[-1],l.held.set i.to.toNat l.till.length⟩
def wI (p:PV):Life:=
 ⟨List.replicate p.code.length 0,List.replicate p.code.length 0,List.replicate p.code.length 0,[],List.replicate (p.ins.toNat+1) (-1),(List.range p.regs.toNat).map fun (r:Nat)=>min (r:Int) p.ins⟩
def tH (p:PV):Nat→Life
 | 0=>wI p
 | k+1=>if Bq p k=true then vI (tH p k) k (yH p k) else tH p k
def Dq (p:PV) (l:Life) (r:Int):Life:=
 { l with outs:=l.outs++[l.held[r.toNat]?.getD default],till:=l.till.set (l.held[r.toNat]?.getD default).toNat p.code.length }
def wJ (p:PV):Nat→Life
 | 0=>tH p p.code.length
 | j+1=>Dq p (wJ p j) (p.outs[((j:Nat):Int).toNat]?.getD default)
def lifeP (p:PV):Life:=wJ p p.outs.length
structure C7 (p:PV) (k:Nat) (l:Life):Prop where
 al:l.a.length=p.code.length
 bl:l.b.length=p.code.length
 sl:l.sets.length=p.code.length
 hl:(l.held.length:Int)=p.regs
 t0:p.ins+1≤l.till.length
 t1:(l.till.length:Int)≤p.ins+1+k
 hb:∀ v∈l.held,0≤v∧v<l.till.length
 ab:∀ v∈l.a,0≤v∧v<l.till.length
 bb:∀ v∈l.b,0≤v∧v<l.till.length
 sb:∀ v∈l.sets,0≤v∧v<l.till.length
 ob:∀ v∈l.outs,0≤v∧v<l.till.length
theorem QC {p:PV} {k:Nat} {l:Life} {i:Sl.Instr} (h:C7 p k l) (hm:tI i p.regs=true):0≤vA l i∧vA l i<l.till.length:=by
 have h1:=(tY hm).2.2.1;exact h.hb _ (get_mem (by rw [h.hl];exact h1))
theorem Lw {i:Sl.Instr} (h:1<(tM i).length):i.op=3∨i.op=4:=by
 unfold tM at h;split at h
 · assumption
 split at h <;> simp at h
theorem Ob (i:Sl.Instr):1<(tM i).length↔i.op=3∨i.op=4:=⟨Lw,fun h=>by unfold tM;rw [aE h];simp⟩
theorem QD {p:PV} {k:Nat} {l:Life} {i:Sl.Instr} (h:C7 p k l) (hm:tI i p.regs=true):0≤vB l i∧vB l i<l.till.length:=by
 unfold vB;split
 · rename_i h2;have h1:=(tY hm).2.2.2.1 (Lw h2);exact h.hb _ (get_mem (by rw [h.hl];exact h1))
 exact QC h hm
theorem QE {p:PV} (h:1≤p.ins∧p.ins≤p.regs):C7 p 0 (wI p):=by
 have ht:(wI p).till.length=p.ins.toNat+1:=aJ;refine ⟨aJ,aJ,aJ,?_,by rw [ht];omega,by rw [ht];omega,?_,?_,?_,?_,?_⟩
 · show (((List.range p.regs.toNat).map _).length:Int)=p.regs;rw [aP,cB];omega
 · intro v hv;obtain ⟨r,hr,rfl⟩:=dY.1 (show v∈(List.range p.regs.toNat).map _ from hv);rw [ht];omega
 all_goals intro v hv
 · rw [jF (show v∈List.replicate _ _ from hv),ht];omega
 · rw [jF (show v∈List.replicate _ _ from hv),ht];omega
 · rw [jF (show v∈List.replicate _ _ from hv),ht];omega
 cases hv
theorem Ck (l:Life) (k:Nat) (i:Sl.Instr):(vI l k i).till.length=l.till.length+1:=by
 show (((l.till.set _ _).set _ _)++[-1]).length=_;rw [aB,aG,aG];rfl
theorem BJ {p:PV} {k:Nat} {l:Life} {i:Sl.Instr} (h:C7 p k l) (hm:tI i p.regs=true):C7 p (k+1) (vI l k i):=by
 have ha:=QC h hm;have hb:=QD h hm;have ht:=Ck l k i;have h0:=h.t0;have h1:=h.t1;refine ⟨by show (l.a.set _ _).length=_;rw [aG];exact h.al,by show (l.b.set _ _).length=_;rw [aG];exact h.bl,by show (l.sets.set _ _).length=_;rw [aG];exact h.sl,by show ((l.held.set _ _).length:Int)=_;rw [aG];exact h.hl,by rw [ht];omega,by rw [ht];omega,?_,?_,?_,?_,?_⟩;all_goals intro v hv;rw [ht]
 · rcases fI (show v∈l.held.set _ _ from hv) with h2 | h2
   · have:=h.hb v h2;omega
   omega
 · rcases fI (show v∈l.a.set _ _ from hv) with h2 | h2
   · have:=h.ab v h2;omega
   omega
 · rcases fI (show v∈l.b.set _ _ from hv) with h2 | h2
   · have:=h.bb v h2;omega
   omega
 · rcases fI (show v∈l.sets.set _ _ from hv) with h2 | h2
   · have:=h.sb v h2;omega
   omega
 have:=h.ob v hv;omega
theorem C7.next {p:PV} {k:Nat} {l:Life} (h:C7 p k l):C7 p (k+1) l:=⟨h.al,h.bl,h.sl,h.hl,h.t0,by have:=h.t1;omega,h.hb,h.ab,h.bb,h.sb,h.ob⟩
theorem xO {p:PV} (hR:sY p=true) {k:Nat} (hk:k<p.code.length):tI (yH p k) p.regs=true:=by
 refine (tB hR).2.2.2.2.2.2.2 _ ?_;unfold yH;rw [aF,aA hk];exact bZ hk
theorem xR {p:PV} (hR:sY p=true):∀ k,k≤p.code.length→C7 p k (tH p k)
 | 0,_=>QE ⟨(tB hR).1,(tB hR).2.1⟩
 | k+1,hk=>by
   have ih:=xR hR k sW;unfold tH;split
   · exact BJ ih (xO hR sW)
   exact ih.next
theorem DZ {p:PV} {k:Nat} {l:Life} {r:Int} (h:C7 p k l) (hr:0≤r∧r<p.regs):C7 p k (Dq p l r):=by
 have ht:(Dq p l r).till.length=l.till.length:=aG;have hv:=h.hb _ (get_mem (r:=r) (by rw [h.hl];exact hr));refine ⟨h.al,h.bl,h.sl,h.hl,by rw [ht];exact h.t0,by rw [ht];exact h.t1,?_,?_,?_,?_,?_⟩;all_goals intro v hv2;rw [ht]
 · exact h.hb v hv2
 · exact h.ab v hv2
 · exact h.bb v hv2
 · exact h.sb v hv2
 rcases gW.1 (show v∈l.outs++[_] from hv2) with h2 | h2
 · exact h.ob v h2
 rw [eM.1 h2];exact hv
theorem Oc {p:PV} (hR:sY p=true) {j:Nat} (hj:j<p.outs.length):0≤p.outs[((j:Nat):Int).toNat]?.getD default∧p.outs[((j:Nat):Int).toNat]?.getD default<p.regs:=by
 refine (tB hR).2.2.2.2.2.2.1 _ ?_;rw [aF,aA hj];exact bZ hj
theorem Rf {p:PV} (hR:sY p=true):∀ j,j≤p.outs.length→C7 p p.code.length (wJ p j)
 | 0,_=>xR hR _ (aI _)
 | j+1,hj=>DZ (Rf hR j sW) (Oc hR sW)
theorem QF {p:PV} (hR:sY p=true):C7 p p.code.length (lifeP p):=Rf hR _ (aI _)
theorem Lx (p:PV):∀ j,(wJ p j).outs.length=(tH p p.code.length).outs.length+j
 | 0=>rfl
 | j+1=>by show (_++[_]).length=_;rw [aB,Lx p j];rfl
theorem Aa (p:PV):∀ k,(tH p k).outs=[]
 | 0=>rfl
 | k+1=>by
   unfold tH;split
   · exact Aa p k
   exact Aa p k
theorem Rg (p:PV):(lifeP p).outs.length=p.outs.length:=by unfold lifeP;rw [Lx,Aa];exact cS _
structure Pl where
 at_:List (Int×Int)
 free:List Bool
def stand (s:Pl) (v:Int):Int:=(A8 s.at_ v).getD 0
def Ly (s:Pl) (v u:Int):Pl:=⟨Co s.at_ v s.free.length,s.free++[decide (u<0)]⟩
def least (l:List Bool):Nat:=l.findIdx (fun b=>b)
def wY (s:Pl) (v:Int):Pl:=⟨Co s.at_ v (least s.free),if least s.free<s.free.length then s.free.set (least s.free) false else s.free++[false]⟩
def vW (l:Life) (k:Nat) (s:Pl) (v:Int):Pl:=if l.till[v.toNat]?.getD default=k then ⟨s.at_,s.free.set (stand s v).toNat true⟩ else s
def Ab (l:Life):Nat→Pl
 | 0=>⟨[],[]⟩
 | v+1=>Ly (Ab l v) v (l.till[((v:Nat):Int).toNat]?.getD default)
def Ai (p:PV) (l:Life):Pl:=if 0≤l.till[p.ins.toNat]?.getD default then Ly (Ab l p.ins.toNat) p.ins (l.till[p.ins.toNat]?.getD default) else Ab l p.ins.toNat
structure PkS where
 s:Pl
 regs:Int
 code:List Sl.Instr
def Ia (l:Life) (x:PkS) (k:Nat) (i:Sl.Instr):PkS:=
 let va:=l.a[((k:Nat):Int).toNat]?.getD default
 let vb:=l.b[((k:Nat):Int).toNat]?.getD default
 let s2:=vW l k (vW l k x.s va) vb
 ⟨wY s2 (l.sets[((k:Nat):Int).toNat]?.getD default),max x.regs ((least s2.free:Int)+1),x.code++[⟨i.op,least s2.free,stand x.s va,if 1<(tM i).length then stand x.s vb else i.b,i.c⟩]⟩
def tX (p:PV):Nat→PkS
 | 0=>⟨Ai p (lifeP p),max p.ins (Ai p (lifeP p)).free.length,[]⟩
 | k+1=>if Bq p k=true then Ia (lifeP p) (tX p k) k (yH p k) else tX p k
def tO (p:PV):PV:=⟨p.ins,(tX p p.code.length).regs,(tX p p.code.length).code,(lifeP p).outs.map (stand (tX p p.code.length).s)⟩
structure E4 (s:Pl):Prop where
 f0:0<s.free.length
 ab:∀ v,0≤stand s v∧stand s v<s.free.length
theorem Lz (s:Pl) (v w r:Int) (f:List Bool):stand ⟨Co s.at_ v r,f⟩ w=if w=v then r else stand s w:=by
 unfold stand;rw [xQ];split <;> rfl
theorem Ac (l:List Bool):least l≤l.length:=List.findIdx_le_length
theorem Wu {s:Pl} (h:∀ v,0≤stand s v∧stand s v≤s.free.length) (v u:Int):E4 (Ly s v u):=by
 have hl:(Ly s v u).free.length=s.free.length+1:=by show (s.free++[_]).length=_;rw [aB];rfl
 refine ⟨by omega,fun w=>?_⟩;have h1:stand (Ly s v u) w=if w=v then (s.free.length:Int) else stand s w:=Lz s v w _ _;have h2:=h w;rw [h1,hl];split <;> omega
theorem E4.le {s:Pl} (h:E4 s) (v:Int):0≤stand s v∧stand s v≤s.free.length:=by have:=h.ab v;omega
theorem Rh (l:Life):∀ n,E4 (Ab l (n+1))∧(Ab l (n+1)).free.length=n+1
 | 0=>⟨Wu (s:=⟨[],[]⟩) (fun v=>⟨jA _,jA _⟩) _ _,F9⟩
 | n+1=>by
   obtain ⟨h1,h2⟩:=Rh l n;exact ⟨Wu h1.le _ _,by show ((Ab l (n+1)).free++[_]).length=_;rw [aB,h2];rfl⟩
theorem Av (l:Life):∀ n,(Ab l n).free.length=n
 | 0=>rfl
 | n+1=>(Rh l n).2
theorem Fx {p:PV} (h:1≤p.ins) (l:Life):E4 (Ai p l)∧p.ins≤(Ai p l).free.length∧((Ai p l).free.length:Int)≤p.ins+1:=by
 obtain ⟨n,hn⟩:∃ n,p.ins.toNat=n+1:=⟨p.ins.toNat - 1,by omega⟩
 have h1:=(Rh l n).1;have h2:=Av l p.ins.toNat;unfold Ai;split
 · refine ⟨Wu (by rw [hn];exact h1.le) _ _,?_⟩;show p.ins≤(((Ab l p.ins.toNat).free++[_]).length:Int)∧(((Ab l p.ins.toNat).free++[_]).length:Int)≤_;rw [aB,h2];constructor
   · show p.ins≤((p.ins.toNat+1:Nat):Int);omega
   show ((p.ins.toNat+1:Nat):Int)≤_;omega
 rw [hn];exact ⟨h1,by rw [Av];omega,by rw [Av];omega⟩
theorem wV (l:Life) (k:Nat) (s:Pl) (v:Int):(vW l k s v).free.length=s.free.length:=by
 unfold vW;split
 · exact aG
 rfl
theorem Da (l:Life) (k:Nat) (s:Pl) (v:Int):(vW l k s v).at_=s.at_:=by
 unfold vW;split <;> rfl
theorem Ap (l:Life) (k:Nat) (s:Pl) (v w:Int):stand (vW l k s v) w=stand s w:=by
 unfold stand;rw [Da]
theorem Aw {l:Life} {k:Nat} {s:Pl} {v:Int} (h:E4 s):E4 (vW l k s v):=⟨by rw [wV];exact h.f0,fun w=>by rw [Ap,wV];exact h.ab w⟩
theorem Ad (s:Pl) (v:Int):(wY s v).free.length=if least s.free<s.free.length then s.free.length else s.free.length+1:=by
 unfold wY;simp only;split
 · exact aG
 rw [aB];rfl
theorem Ib (s:Pl) (v w:Int):stand (wY s v) w=if w=v then (least s.free:Int) else stand s w:=Lz s v w _ _
theorem GO {s:Pl} (h:E4 s) (v:Int):E4 (wY s v):=by
 have h1:=Ac s.free;have h0:=h.f0;refine ⟨by rw [Ad];split <;> omega,fun w=>?_⟩;have h2:=h.ab w;rw [Ib,Ad];split <;> split <;> omega
theorem GP {p:PV} (h:1≤p.ins):∀ k,E4 (tX p k).s
 | 0=>(Fx h _).1
 | k+1=>by
   have ih:=GP h k;unfold tX;split
   · exact GO (Aw (Aw ih)) _
   exact ih
theorem BK {p:PV} (h:1≤p.ins):∀ k,((tX p k).s.free.length:Int)≤p.ins+1+k∧(tX p k).code.length≤k
 | 0=>⟨by show ((Ai p (lifeP p)).free.length:Int)≤_;have:=(Fx h (lifeP p)).2.2;omega,aI _⟩
 | k+1=>by
   obtain ⟨h1,h2⟩:=BK h k;unfold tX;split
   · refine ⟨?_,by show ((tX p k).code++[_]).length≤_;rw [aB];show _+1≤_;omega⟩;show ((wY _ _).free.length:Int)≤_;rw [Ad,wV,wV];split <;> omega
   omega
def uN (p:PV) (k:Nat) (r:Int):Int:=(tH p k).held[r.toNat]?.getD default
def uW (p:PV) (k:Nat):Nat:=(tH p k).till.length
def tl (l:Life) (v:Int):Int:=l.till[v.toNat]?.getD default
def Bu (p:PV) (k:Nat):Int:=vA (tH p k) (yH p k)
def Bv (p:PV) (k:Nat):Int:=vB (tH p k) (yH p k)
theorem Db {p:PV} {k:Nat} (h:Bq p k=true):tH p (k+1)=vI (tH p k) k (yH p k):=aE h
theorem Ke {p:PV} {k:Nat} (h:¬Bq p k=true):tH p (k+1)=tH p k:=aD h
theorem Kf {p:PV} {k:Nat} (h:Bq p k=true):uW p (k+1)=uW p k+1:=by unfold uW;rw [Db h];exact Ck _ _ _
theorem Wv {p:PV} {k:Nat} (h:¬Bq p k=true):uW p (k+1)=uW p k:=by unfold uW;rw [Ke h]
theorem Ax (p:PV) {k j:Nat} (h:k≤j):uW p k≤uW p j:=by
 induction j with
 | zero=>rw [rE.1 h];exact aI _
 | succ j ih =>
   by_cases hk:k=j+1
   · rw [hk];exact aI _
   have h1:=ih sW;by_cases hn:Bq p j=true
   · rw [Kf hn];omega
   rw [Wv hn];exact h1
theorem Ff {p:PV} (hR:sY p=true) {k:Nat} (hk:k<p.code.length) (h:Bq p k=true) {r:Int} (hr:0≤r∧r<p.regs):uN p (k+1) r=if (yH p k).to=r then (uW p k:Int) else uN p k r:=by
 unfold uN;rw [Db h];have hl:=(xR hR k sW).hl;have ht:=(tY (xO hR hk)).2.1;show ((tH p k).held.set (yH p k).to.toNat _)[r.toNat]?.getD default=_;rw [yV (by rw [hl];exact hr),cW ht.1];rfl
theorem Ww {p:PV} {k:Nat} (h:¬Bq p k=true) (r:Int):uN p (k+1) r=uN p k r:=by unfold uN;rw [Ke h]
theorem Od {p:PV} (hR:sY p=true) {k:Nat} (hk:k≤p.code.length) {r:Int} (hr:0≤r∧r<p.regs):0≤uN p k r∧uN p k r<uW p k:=by
 have ok:=xR hR k hk;exact ok.hb _ (get_mem (by rw [ok.hl];exact hr))
theorem Fy {p:PV} (hR:sY p=true) {r:Int} (hr:0≤r∧r<p.regs) {k:Nat}:∀ (j:Nat),k≤j→j≤p.code.length→uN p j r<uW p k→uN p k r=uN p j r
 | 0,h,_,_=>by rw [rE.1 h]
 | j+1,h,hj,hv=>by
   by_cases hk:k=j+1
   · rw [hk]
   have hm:=Ax p (show k≤j by omega);by_cases hn:Bq p j=true
   · have e:=Ff hR sW hn hr;by_cases ht:(yH p j).to=r
     · rw [aE ht] at e;rw [e] at hv;omega
     rw [aD ht] at e;rw [e] at hv ⊢;exact Fy hR hr j sW sW hv
   rw [Ww hn] at hv ⊢;exact Fy hR hr j sW sW hv
theorem Wx {p:PV} (hR:sY p=true) {k:Nat} (hk:k<p.code.length):(0≤Bu p k∧Bu p k<uW p k)∧(0≤Bv p k∧Bv p k<uW p k):=
 ⟨QC (xR hR k sW) (xO hR hk),QD (xR hR k sW) (xO hR hk)⟩
theorem QG {p:PV} (hR:sY p=true) {k:Nat} (hk:k<p.code.length):(∃ r,(0≤r∧r<p.regs)∧uN p k r=Bu p k)∧(∃ r,(0≤r∧r<p.regs)∧uN p k r=Bv p k):=by
 have hm:=tY (xO hR hk);have h1:∃ r,(0≤r∧r<p.regs)∧uN p k r=Bu p k:=⟨(yH p k).a,hm.2.2.1,F9⟩
 refine ⟨h1,?_⟩;by_cases h2:1<(tM (yH p k)).length
 · exact ⟨(yH p k).b,hm.2.2.2.1 (Lw h2),(aE h2).symm⟩
 obtain ⟨r,hr,e⟩:=h1;exact ⟨r,hr,e.trans (aD h2).symm⟩
theorem Wy {p:PV} (hR:sY p=true) {k:Nat} (hk:k<p.code.length) (h:Bq p k=true) {v:Int} (hv:0≤v∧v<uW p k) :
 tl (tH p (k+1)) v=if v=Bu p k∨v=Bv p k then (k:Int) else tl (tH p k) v:=by
 obtain ⟨⟨ha0,ha1⟩,hb0,hb1⟩:=Wx hR hk;unfold tl;rw [Db h];show ((((tH p k).till.set (Bu p k).toNat (k:Int)).set (Bv p k).toNat (k:Int))++[-1])[v.toNat]?.getD default=_;have hv1:v.toNat<(tH p k).till.length:=by have:=hv.2;unfold uW at this;omega
 rw [bJ (by rw [aG,aG];exact hv1)];unfold uW at hb1 ha1 hv;rw [yV (by rw [aG];exact hv),yV hv,cW ha0,cW hb0];by_cases e1:Bv p k=v
 · rw [aE e1,aE (.inr e1.symm)]
 rw [aD e1];by_cases e2:Bu p k=v
 · rw [aE e2,aE (.inl e2.symm)]
 rw [aD e2,aD (by rintro (h | h) <;> first | exact e2 h.symm | exact e1 h.symm)]
theorem YT {p:PV} {k:Nat} (h:Bq p k=true):tl (tH p (k+1)) (uW p k)=-1:=by
 unfold tl uW;rw [Db h];show ((((tH p k).till.set _ _).set _ _)++[-1])[((((tH p k).till.length:Nat)):Int).toNat]?.getD default=_;rw [aF,cL (by rw [aG,aG];exact aI _),aG,aG,iW];rfl
def QH (p:PV) (t:Nat) (v:Int):Prop:=Bq p t=true∧(v=Bu p t∨v=Bv p t)
theorem Kg {p:PV} (hR:sY p=true):∀ (k:Nat),k≤p.code.length→∀ v:Int,0≤v∧v<uW p k→tl (tH p k) v=-1∨∃ t:Nat,t<k∧tl (tH p k) v=t∧QH p t v
 | 0,_,v,hv=>by
   left;show (List.replicate (p.ins.toNat+1) (-1:Int))[v.toNat]?.getD default=-1;have:uW p 0=p.ins.toNat+1:=aJ;rw [fW,aE (by omega)];rfl
 | k+1,hk,v,hv=>by
   by_cases hn:Bq p k=true
   · rw [Kf hn] at hv;by_cases hl:v<uW p k
     · rw [Wy hR sW hn ⟨hv.1,hl⟩];by_cases hd:v=Bu p k∨v=Bv p k
       · rw [aE hd];exact .inr ⟨k,by omega,F9,hn,hd⟩
       rw [aD hd];rcases Kg hR k sW v ⟨hv.1,hl⟩ with h | ⟨t,h1,h2,h3⟩
       · exact .inl h
       exact .inr ⟨t,by omega,h2,h3⟩
     have:v=uW p k:=sW;rw [this];exact .inl (YT hn)
   rw [Wv hn] at hv;rw [Ke hn];rcases Kg hR k sW v hv with h | ⟨t,h1,h2,h3⟩
   · exact .inl h
   exact .inr ⟨t,by omega,h2,h3⟩
theorem GQ {p:PV} (hR:sY p=true) {k:Nat} {v:Int} (hv:0≤v∧v<uW p k):∀ (j:Nat),k≤j→j≤p.code.length→tl (tH p k) v≤tl (tH p j) v
 | 0,h,_=>by rw [rE.1 h];exact jA _
 | j+1,h,hj=>by
   by_cases hk:k=j+1
   · rw [hk];exact jA _
   have h1:=GQ hR hv j sW sW;have hm:=Ax p (show k≤j by omega);by_cases hn:Bq p j=true
   · rw [Wy hR sW hn sW];split
     · rcases Kg hR k sW v hv with h2 | ⟨t,h2,h3,_⟩ <;> omega
     exact h1
   rw [Ke hn];exact h1
theorem GR (p:PV):∀ j,(wJ p j).till.length=uW p p.code.length
 | 0=>rfl
 | j+1=>by show ((wJ p j).till.set _ _).length=_;rw [aG];exact GR p j
theorem Fg (p:PV):∀ j,(wJ p j).held=(tH p p.code.length).held
 | 0=>rfl
 | j+1=>Fg p j
theorem Wz {p:PV} (hR:sY p=true) {v:Int} (hv:0≤v∧v<uW p p.code.length):∀ (j:Nat),j≤p.outs.length→
 (tl (wJ p j) v=tl (tH p p.code.length) v∨tl (wJ p j) v=p.code.length∧∃ r,(0≤r∧r<p.regs)∧uN p p.code.length r=v)∧
 (∀ i:Nat,i<j→uN p p.code.length (p.outs[((i:Nat):Int).toNat]?.getD default)=v→tl (wJ p j) v=p.code.length)
 | 0,_=>⟨.inl F9,fun i hi=>by omega⟩
 | j+1,hj=>by
   obtain ⟨h1,h2⟩:=Wz hR hv j sW;have hr:=Oc hR (show j<p.outs.length by omega);have hh:(wJ p j).held[(p.outs[(j:Int).toNat]?.getD default).toNat]?.getD default=uN p p.code.length (p.outs[(j:Int).toNat]?.getD default):=by unfold uN;rw [Fg]
   have hin:=Od hR (aI _) hr;have e:tl (wJ p (j+1)) v=if uN p p.code.length (p.outs[(j:Int).toNat]?.getD default)=v then (p.code.length:Int) else tl (wJ p j) v:=by
    unfold tl;show ((wJ p j).till.set _ _)[v.toNat]?.getD default=_;rw [hh,yV (by rw [GR];exact hv),cW hin.1]
   by_cases hd:uN p p.code.length (p.outs[((j:Nat):Int).toNat]?.getD default)=v
   · rw [aE hd] at e;exact ⟨.inr ⟨e,_,hr,hd⟩,fun _ _ _=>e⟩
   rw [aD hd] at e;rw [e];refine ⟨h1,fun i hi hiv=>?_⟩;by_cases hij:i=j
   · subst hij;exact absurd hiv hd
   exact h2 i sW hiv
def due (p:PV) (v:Int):Int:=tl (lifeP p) v
theorem YU {p:PV} (hR:sY p=true) {k:Nat} {v:Int} (hk:k≤p.code.length) (hv:0≤v∧v<uW p k):tl (tH p k) v≤due p v:=by
 have h1:=GQ hR hv p.code.length hk (aI _);have hv2:0≤v∧v<uW p p.code.length:=⟨hv.1,by have:=Ax p hk;omega⟩
 unfold due lifeP;rcases (Wz hR hv2 p.outs.length (aI _)).1 with h2 | ⟨h2,_⟩
 · rw [h2];exact h1
 rw [h2];rcases Kg hR p.code.length (aI _) v hv2 with h3 | ⟨t,h3,h4,_⟩ <;> omega
theorem Ma {p:PV} (hR:sY p=true) {k:Nat} (hk:k<p.code.length) {v:Int} (h:QH p k v):(k:Int)≤due p v:=by
 obtain ⟨hn,hd⟩:=h;have hin:=Wx hR hk;have hv:0≤v∧v<uW p k:=by rcases hd with h | h <;> rw [h] <;> first | exact hin.1 | exact hin.2
 have h1:=YU hR (k:=k+1) (v:=v) sW ⟨hv.1,by rw [Kf hn];omega⟩;rw [Wy hR hk hn hv,aE hd] at h1;exact h1
theorem GS {p:PV} (hR:sY p=true) {i:Nat} (hi:i<p.outs.length):due p (uN p p.code.length (p.outs[((i:Nat):Int).toNat]?.getD default))=p.code.length:=
 (Wz hR (Od hR (aI _) (Oc hR hi)) p.outs.length (aI _)).2 i hi F9
theorem Xa {p:PV} (hR:sY p=true) {v:Int} (hv:0≤v∧v<uW p p.code.length):due p v=-1∨(∃ t:Nat,t<p.code.length∧due p v=t∧QH p t v)∨(due p v=p.code.length∧∃ r,(0≤r∧r<p.regs)∧uN p p.code.length r=v):=by
 unfold due lifeP;rcases (Wz hR hv p.outs.length (aI _)).1 with h2 | h2
 · rw [h2];rcases Kg hR p.code.length (aI _) v hv with h | h
   · exact .inl h
   exact .inr (.inl h)
 exact .inr (.inr h2)
theorem Ri {p:PV} (hR:sY p=true) {k:Nat} (hk:k≤p.code.length) {v:Int} (hv:0≤v∧v<uW p k) (hd:(k:Int)≤due p v):∃ r,(0≤r∧r<p.regs)∧uN p k r=v:=by
 have hv2:0≤v∧v<uW p p.code.length:=⟨hv.1,by have:=Ax p hk;omega⟩
 rcases Xa hR hv2 with h | ⟨t,ht,h,hn,ha⟩ | ⟨h,r,hr,e⟩
 · omega
 · have h9:=QG hR ht;have h8:∃ r,(0≤r∧r<p.regs)∧uN p t r=v:=by rcases ha with e | e <;> rw [e] <;> first | exact h9.1 | exact h9.2
   obtain ⟨r,hr,e⟩:=h8;exact ⟨r,hr,(Fy hR hr t sW sW (by rw [e];exact hv.2)).trans e⟩
 exact ⟨r,hr,(Fy hR hr p.code.length hk (aI _) (by rw [e];exact hv.2)).trans e⟩
theorem Mb {p:PV} (hR:sY p=true) {k:Nat} (hk:k<p.code.length):Bq p k=Ah p (yH p k).to (k+1):=by
 have h1:=WR p hk;have h2:=GL p p.code k;unfold Bq;rw [KA hR,aF];have h3:(rf p p.code)[k]?=((rf p p.code).drop k)[0]?:=by rw [jC,iH]
 rw [h3,h2,h1];rfl
theorem BL {p:PV} (hR:sY p=true) {r:Int} (hr:0≤r∧r<p.regs):∀ (d j:Nat),j+d=p.code.length→Ah p r j=true→(j:Int)≤due p (uN p j r)
 | 0,j,hj,h=>by
   have hj':j=p.code.length:=sW;subst hj';rw [Qt p r (aI _),aV] at h;obtain ⟨i,hi,e⟩:=gF.1 h;have:=GS hR hi;rw [aF,aA hi,eH,e] at this;omega
 | d+1,j,hj,h=>by
   have hjn:j<p.code.length:=sW;have hcj:p.code[j]?.getD default=yH p j:=by unfold yH;rw [aF]
   rw [Mx p r hjn,hcj,Bool.or_eq_true,aW,aW,aV,←Mb hR hjn] at h;rcases h with ⟨hn,ha⟩ | ⟨ht,hf⟩
   · refine Ma hR hjn ⟨hn,?_⟩;unfold tM at ha;split at ha
     · rename_i h34;rcases iU.1 ha with e | ha
       · left;rw [e];rfl
       right;rw [eM.1 ha];exact (aE (by rw [Ob];exact h34)).symm
     split at ha
     · left;rw [eM.1 ha];rfl
     cases ha
   have ih:=BL hR hr d (j+1) sW hf;have hne:¬(yH p j).to=r:=by simpa using ht
   by_cases hn:Bq p j=true
   · rw [Ff hR hjn hn hr,aD hne] at ih;omega
   rw [Ww hn] at ih;omega
theorem VK {p:PV} (hR:sY p=true) {k:Nat} (hk:k<p.code.length) (hn:Bq p k=true):((k+1:Nat):Int)≤due p (uW p k):=by
 have ht:=(tY (xO hR hk)).2.1;have h1:=hn;rw [Mb hR hk] at h1;have h2:=BL hR ht (p.code.length - (k+1)) (k+1) sW h1;rw [Ff hR hk hn ht,aE rfl] at h2;exact h2
theorem GU (p:PV) {k:Nat}:∀ (j:Nat),k<j→(tH p j).a[((k:Nat):Int).toNat]?.getD default=(tH p (k+1)).a[((k:Nat):Int).toNat]?.getD default∧(tH p j).b[((k:Nat):Int).toNat]?.getD default=(tH p (k+1)).b[((k:Nat):Int).toNat]?.getD default∧(tH p j).sets[((k:Nat):Int).toNat]?.getD default=(tH p (k+1)).sets[((k:Nat):Int).toNat]?.getD default
 | 0,h=>absurd h (Nat.not_lt_zero _)
 | j+1,h=>by
   by_cases hk:k=j
   · rw [hk];exact ⟨F9,F9,F9⟩
   have ih:=GU p (k:=k) j sW;by_cases hn:Bq p j=true
   · rw [Db hn];refine ⟨?_,?_,?_⟩
     · show ((tH p j).a.set j _)[(k:Int).toNat]?.getD default=_;rw [cI,aD (by omega)];exact ih.1
     · show ((tH p j).b.set j _)[(k:Int).toNat]?.getD default=_;rw [cI,aD (by omega)];exact ih.2.1
     show ((tH p j).sets.set j _)[(k:Int).toNat]?.getD default=_;rw [cI,aD (by omega)];exact ih.2.2
   rw [Ke hn];exact ih
theorem GV (p:PV):∀ j,(wJ p j).a=(tH p p.code.length).a∧(wJ p j).b=(tH p p.code.length).b∧(wJ p j).sets=(tH p p.code.length).sets
 | 0=>⟨F9,F9,F9⟩
 | j+1=>GV p j
theorem Rj {l:List Int} {k:Nat} {x:Int} (h:k<l.length):(l.set k x)[((k:Nat):Int).toNat]?.getD default=x:=by
 rw [aF,List.getElem?_set_self h];rfl
theorem QI {p:PV} (hR:sY p=true) {k:Nat} (hk:k<p.code.length) (hn:Bq p k=true) :
 (lifeP p).a[((k:Nat):Int).toNat]?.getD default=Bu p k∧(lifeP p).b[((k:Nat):Int).toNat]?.getD default=Bv p k∧(lifeP p).sets[((k:Nat):Int).toNat]?.getD default=uW p k:=by
 obtain ⟨o1,o2,o3⟩:=GV p p.outs.length;obtain ⟨k1,k2,k3⟩:=GU p p.code.length hk;have ok:=xR hR k sW;unfold lifeP;rw [o1,o2,o3,k1,k2,k3,Db hn];exact ⟨Rj (by rw [ok.al];exact hk),Rj (by rw [ok.bl];exact hk),Rj (by rw [ok.sl];exact hk)⟩
theorem EA:∀ (n:Nat) (f:Nat→Nat) (m:Nat),(∀ i,i<m→f i<n)→(∀ i j,i<m→j<m→f i=f j→i=j)→m≤n
 | 0,f,m,h,_=>by
   cases m with
   | zero=>exact aI _
   | succ m=>exact absurd (h 0 sW) (Nat.not_lt_zero _)
 | n+1,f,m,h,hi=>by
   by_cases hx:∃ i,i<m∧f i=n
   · obtain ⟨a,ha,hfa⟩:=hx;have:=EA n (fun i=>if i<a then f i else f (i+1)) (m - 1) (fun i hm=>by
      show (if i<a then f i else f (i+1))<n;split
      · have h1:=h i sW;have h2:f i≠n:=fun e=>by have:=hi i a sW ha (e.trans hfa.symm);omega
        omega
      · have h1:=h (i+1) sW;have h2:f (i+1)≠n:=fun e=>by have:=hi (i+1) a sW ha (e.trans hfa.symm);omega
        omega) (fun i j hi' hj' e=>by
      have e:(if i<a then f i else f (i+1))=(if j<a then f j else f (j+1)):=e;split at e <;> split at e
      · exact hi i j sW sW e
      · have:=hi i (j+1) sW sW e;omega
      · have:=hi (i+1) j sW sW e;omega
      have:=hi (i+1) (j+1) sW sW e;omega)
     omega
   have:=EA n f m (fun i hm=>by
    have h1:=h i hm;have h2:f i≠n:=fun e=>hx ⟨i,hm,e⟩;omega) hi
   omega
def xP (p:PV) (k:Nat) (v:Int):Prop:=(0≤v∧v<uW p k)∧(k:Int)≤due p v
def fr (s:Pl) (r:Int):Bool:=s.free[r.toNat]?.getD default
theorem Hd {l:List Bool} {k:Nat} {x:Bool} {r:Int} (hr:0≤r∧r<l.length):(l.set k x)[r.toNat]?.getD default=if (k:Int)=r then x else l[r.toNat]?.getD default:=by
 rw [cI];by_cases h:k=r.toNat
 · rw [aE h,aE (by omega),aE (by omega)];rfl
 rw [aD h,aD (by omega)]
theorem GW {p:PV} {k:Nat} {s:Pl} {v r:Int} (hs:E4 s) (hr:0≤r∧r<s.free.length):fr (vW (lifeP p) k s v) r=(fr s r || decide (due p v=k∧stand s v=r)):=by
 have hv:=hs.ab v;unfold fr vW;by_cases h:(lifeP p).till[v.toNat]?.getD default=(k:Int)
 · rw [aE h];show (s.free.set _ true)[r.toNat]?.getD default=_;rw [Hd hr,cW hv.1];by_cases e:stand s v=r
   · rw [aE e,bT ⟨h,e⟩,Bool.or_true]
   rw [aD e,cD (fun x=>e x.2),Bool.or_false]
 rw [aD h,cD (fun x=>h x.1),Bool.or_false]
theorem Xb {s:Pl} {v r:Int} (hr:0≤r∧r<(wY s v).free.length):fr (wY s v) r=if r=least s.free then false else fr s r:=by
 have hl:=Ad s v;have hle:=Ac s.free;unfold fr wY;simp only;by_cases h:least s.free<s.free.length
 · rw [aE h] at hl ⊢;rw [Hd sW];by_cases e:r=least s.free
   · rw [aE e.symm,aE e]
   rw [aD (fun x=>e x.symm),aD e]
 rw [aD h] at hl ⊢;by_cases e:r=least s.free
 · rw [aE e,cL sW,e,aF,show least s.free - s.free.length=0 by omega];rfl
 rw [aD e,bJ sW]
theorem EB {l:List Bool} (h:least l<l.length):l[least l]?.getD default=true:=by
 rw [aA h];unfold least at h ⊢;exact List.findIdx_getElem (w:=h)
theorem KI {l:List Bool} (h:¬least l<l.length) (r:Nat) (hr:r<l.length):l[r]?.getD default=false:=by
 have h1:l.findIdx (fun b=>b)=l.length:=by unfold least at h;have:=Ac l;unfold least at this;omega
 rw [aA hr];exact (List.findIdx_eq_length.1 h1) _ (bZ hr)
structure F8 (p:PV) (k:Nat) (s:Pl):Prop where
 ok:E4 s
 i1:∀ v,xP p k v→fr s (stand s v)=false
 i2:∀ v w,xP p k v→xP p k w→stand s v=stand s w→v=w
 i3:∀ r:Int,0≤r∧r<s.free.length→fr s r=false→∃ v,xP p k v∧stand s v=r
 i5:(s.free.length:Int)≤p.regs
theorem Fh {p:PV} (hR:sY p=true) {k:Nat} (hk:k<p.code.length) (hn:¬Bq p k=true) {v:Int}:xP p (k+1) v↔xP p k v:=by
 unfold xP;rw [Wv hn];constructor
 · rintro ⟨h1,h2⟩;exact ⟨h1,by omega⟩
 rintro ⟨h1,h2⟩;refine ⟨h1,?_⟩;have hv2:0≤v∧v<uW p p.code.length:=⟨h1.1,by have:=Ax p (show k≤p.code.length by omega);omega⟩
 rcases Xa hR hv2 with h | ⟨t,ht,h,ha,_⟩ | ⟨h,_⟩
 · omega
 · by_cases e:t=k
   · subst e;exact absurd ha hn
   omega
 omega
theorem yO {p:PV} (hR:sY p=true) {k:Nat} (hk:k<p.code.length) (hn:Bq p k=true) {v:Int}:xP p (k+1) v↔v=uW p k∨(xP p k v∧due p v≠k):=by
 have hnew:=VK hR hk hn;unfold xP;rw [Kf hn];constructor
 · rintro ⟨h1,h2⟩;by_cases e:v=uW p k
   · exact .inl e
   exact .inr ⟨⟨by omega,by omega⟩,by omega⟩
 rintro (e | ⟨⟨h1,h2⟩,h3⟩)
 · subst e;exact ⟨by omega,hnew⟩
 exact ⟨by omega,by omega⟩
theorem Uk {p:PV} (hR:sY p=true) {k:Nat} (hk:k<p.code.length) (hn:Bq p k=true):xP p k (Bu p k)∧xP p k (Bv p k):=
 ⟨⟨(Wx hR hk).1,Ma hR hk ⟨hn,.inl F9⟩⟩,⟨(Wx hR hk).2,Ma hR hk ⟨hn,.inr F9⟩⟩⟩
theorem QJ {p:PV} (hR:sY p=true) {k:Nat} (hk:k<p.code.length) {v:Int} (ha:xP p k v) (hd:due p v=k):v=Bu p k∨v=Bv p k:=by
 have hv2:0≤v∧v<uW p p.code.length:=⟨ha.1.1,by have:=Ax p (show k≤p.code.length by omega);have:=ha.1.2;omega⟩
 rcases Xa hR hv2 with h | ⟨t,ht,h,_,h4⟩ | ⟨h,_⟩
 · omega
 · have e:t=k:=sW;subst e;exact h4
 omega
def Cl (p:PV) (k:Nat) (s:Pl):Pl:=vW (lifeP p) k (vW (lifeP p) k s (Bu p k)) (Bv p k)
theorem Rk (p:PV) (k:Nat) (s:Pl):(Cl p k s).free.length=s.free.length:=by unfold Cl;rw [wV,wV]
theorem BM (p:PV) (k:Nat) (s:Pl) (w:Int):stand (Cl p k s) w=stand s w:=by unfold Cl;rw [Ap,Ap]
theorem ef {p:PV} {k:Nat} {s:Pl} (hs:E4 s) {r:Int} (hr:0≤r∧r<s.free.length):fr (Cl p k s) r=(fr s r || decide (due p (Bu p k)=k∧stand s (Bu p k)=r) || decide (due p (Bv p k)=k∧stand s (Bv p k)=r)):=by
 unfold Cl;rw [GW (Aw hs) (by rw [wV];exact hr),GW hs hr,Ap]
theorem BN {p:PV} {k:Nat} {s:Pl} (hs:E4 s) {r:Int} (hr:0≤r∧r<s.free.length):fr (Cl p k s) r=false↔fr s r=false∧¬(due p (Bu p k)=k∧stand s (Bu p k)=r)∧¬(due p (Bv p k)=k∧stand s (Bv p k)=r):=by
 rw [ef hs hr,Bool.or_eq_false_iff,Bool.or_eq_false_iff,pY,pY,and_assoc]
theorem left {p:PV} (hR:sY p=true) {k:Nat} (hk:k<p.code.length) (hn:Bq p k=true) {s:Pl} (h:F8 p k s) :
 (∀ v,xP p k v→due p v≠k→fr (Cl p k s) (stand s v)=false)∧(∀ r:Int,0≤r∧r<s.free.length→fr (Cl p k s) r=false→∃ v,xP p k v∧due p v≠k∧stand s v=r):=by
 obtain ⟨hA,hB⟩:=Uk hR hk hn;refine ⟨fun v hv hd=>?_,fun r hr hf=>?_⟩
 · rw [BN h.ok (h.ok.ab v)];refine ⟨h.i1 v hv,fun e=>?_,fun e=>?_⟩
   · have:=h.i2 _ _ hA hv e.2;rw [this] at e;exact hd e.1
   have:=h.i2 _ _ hB hv e.2;rw [this] at e;exact hd e.1
 rw [BN h.ok hr] at hf;obtain ⟨v,hv,e⟩:=h.i3 r hr hf.1;refine ⟨v,hv,fun hd=>?_,e⟩;rcases QJ hR hk hv hd with h1 | h1
 · rw [h1] at hd e;exact hf.2.1 ⟨hd,e⟩
 rw [h1] at hd e;exact hf.2.2 ⟨hd,e⟩
theorem VL {p:PV} (hR:sY p=true) {k:Nat} (hk:k<p.code.length) (hn:Bq p k=true) {s:Pl} (h:F8 p k s):F8 p (k+1) (wY (Cl p k s) (uW p k)):=by
 obtain ⟨l1,l2⟩:=left hR hk hn h;have hok2:E4 (Cl p k s):=Aw (Aw h.ok);have hlen:=Ad (Cl p k s) (uW p k);have hle:=Ac (Cl p k s).free;have h2l:=Rk p k s;have hst:∀ w,stand (wY (Cl p k s) (uW p k)) w=if w=uW p k then (least (Cl p k s).free:Int) else stand s w:=fun w=>by rw [Ib,BM]
 have hold:∀ v,xP p k v→v≠uW p k:=fun v hv e=>by have:=hv.1.2;omega
 have hne:∀ v,xP p k v→due p v≠k→stand s v≠least (Cl p k s).free:=fun v hv hd e=>by
  have h1:=l1 v hv hd;have h3:=h.ok.ab v;by_cases hlt:least (Cl p k s).free<(Cl p k s).free.length
  · have:=EB hlt;unfold fr at h1;rw [e,aF,this] at h1;cases h1
  omega
 have hgl:∀ r:Int,r<(Cl p k s).free.length→r<(wY (Cl p k s) (uW p k)).free.length:=fun r hr=>by rw [hlen];split <;> omega
 have hrr:(least (Cl p k s).free:Int)<(wY (Cl p k s) (uW p k)).free.length:=by rw [hlen];split <;> omega
 refine ⟨GO hok2 _,fun v hv=>?_,fun v w hv hw e=>?_,fun r hr hf=>?_,?_⟩
 · rw [hst];rcases (yO hR hk hn).1 hv with e | ⟨ha,hd⟩
   · rw [aE e,Xb ⟨by omega,hrr⟩,aE rfl]
   rw [aD (hold v ha)];have h3:=h.ok.ab v;rw [Xb ⟨h3.1,hgl _ sW⟩,aD (hne v ha hd)];exact l1 v ha hd
 · rw [hst,hst] at e;rcases (yO hR hk hn).1 hv with ev | ⟨ha,hd⟩ <;> rcases (yO hR hk hn).1 hw with ew | ⟨ha',hd'⟩
   · rw [ev,ew]
   · rw [aE ev,aD (hold w ha')] at e;exact absurd e.symm (hne w ha' hd')
   · rw [aD (hold v ha),aE ew] at e;exact absurd e (hne v ha hd)
   rw [aD (hold v ha),aD (hold w ha')] at e;exact h.i2 v w ha ha' e
 · by_cases e:r=least (Cl p k s).free
   · exact ⟨uW p k,(yO hR hk hn).2 (.inl F9),by rw [hst,aE rfl,e]⟩
   rw [Xb hr,aD e] at hf;have hr2:r<s.free.length:=by rw [hlen] at hr;split at hr <;> omega
   obtain ⟨v,ha,hd,hs⟩:=l2 r ⟨hr.1,hr2⟩ hf;exact ⟨v,(yO hR hk hn).2 (.inr ⟨ha,hd⟩),by rw [hst,aD (hold v ha)];exact hs⟩
 rw [hlen];split
 · rw [h2l];exact h.i5
 rename_i hlt;obtain ⟨f1,f2,f3,_⟩:=tB hR;have hto:=(tY (xO hR hk)).2.1;have key:∀ r:Nat,r<s.free.length→∃ q:Nat,q<p.regs.toNat∧∃ v,stand s v=r∧uN p (k+1) q=v∧v<uW p k:=fun r hr=>by
  have hf:fr (Cl p k s) (r:Int)=false:=by unfold fr;rw [aF];exact KI hlt r sW
  obtain ⟨v,ha,hd,hs⟩:=l2 r sW hf;have ha2:=(yO hR hk hn).2 (.inr ⟨ha,hd⟩);obtain ⟨q,hq,e⟩:=Ri hR (show k+1≤p.code.length by omega) ha2.1 ha2.2;exact ⟨q.toNat,by omega,v,hs,by rw [cW hq.1];exact e,ha.1.2⟩
 have hm:=EA p.regs.toNat (fun r=>if hr:r<s.free.length then Classical.choose (key r hr) else (yH p k).to.toNat) (s.free.length+1) (fun i hi=>by
  show (if hr:i<s.free.length then _ else _)<_;split
  · rename_i hr;exact (iN (key i hr)).1
  · omega) (fun i j hi hj e=>by
  have e:(if hr:i<s.free.length then Classical.choose (key i hr) else (yH p k).to.toNat)=(if hr:j<s.free.length then Classical.choose (key j hr) else (yH p k).to.toNat):=e;have hnew:uN p (k+1) (((yH p k).to.toNat:Nat):Int)=uW p k:=by rw [cW hto.1,Ff hR hk hn hto,aE rfl]
  split at e <;> split at e
  · rename_i h1 h3;obtain ⟨_,v,a1,a2,a3⟩:=iN (key i h1);obtain ⟨_,w,b1,b2,b3⟩:=iN (key j h3);rw [e,b2] at a2;rw [←a2,b1] at a1;omega
  · rename_i h1 h3;obtain ⟨_,v,a1,a2,a3⟩:=iN (key i h1);rw [e,hnew] at a2;omega
  · rename_i h1 h3;obtain ⟨_,w,b1,b2,b3⟩:=iN (key j h3);rw [←e,hnew] at b2;omega
  omega)
 rw [h2l];omega
theorem Um {p:PV} {r:Int} (hr:0≤r∧r<p.regs):uN p 0 r=min r p.ins:=by
 unfold uN;show ((List.range p.regs.toNat).map fun (r:Nat)=>min (r:Int) p.ins)[r.toNat]?.getD default=_;rw [bK,fB sW];show min ((r.toNat:Nat):Int) p.ins=_;rw [cW hr.1]
theorem Un (p:PV):uW p 0=p.ins.toNat+1:=aJ
theorem BO {l:Life} {s:Pl} {n:Nat} (hl:s.free.length=n) (h:∀ v:Int,0≤v∧v<n→stand s v=v∧fr s v=decide (tl l v<0)) (v:Int) (hv:0≤v∧v<n+1) :
 stand (Ly s n (l.till[((n:Nat):Int).toNat]?.getD default)) v=v∧fr (Ly s n (l.till[((n:Nat):Int).toNat]?.getD default)) v=decide (tl l v<0):=by
 have h1:stand (Ly s n (l.till[(n:Int).toNat]?.getD default)) v=if v=n then (s.free.length:Int) else stand s v:=Lz s _ v _ _;rw [h1];by_cases e:v=n
 · subst e;rw [aE rfl];refine ⟨by omega,?_⟩;unfold fr;show (s.free++[_])[(n:Int).toNat]?.getD default=_;rw [aF,cL sW,hl,iW];rfl
 rw [aD e];obtain ⟨h2,h3⟩:=h v sW;refine ⟨h2,?_⟩;rw [←h3];unfold fr;show (s.free++[_])[v.toNat]?.getD default=_;rw [bJ sW]
theorem Rl (l:Life):∀ (n:Nat) (v:Int),0≤v∧v<n→stand (Ab l n) v=v∧fr (Ab l n) v=decide (tl l v<0)
 | 0,v,h=>sW
 | n+1,v,h=>BO (Av l n) (Rl l n) v sW
theorem Uo {p:PV} (h1:1≤p.ins):(((Ai p (lifeP p)).free.length:Int)=p.ins∨(((Ai p (lifeP p)).free.length:Int)=p.ins+1∧0≤due p p.ins))∧(0≤due p p.ins→((Ai p (lifeP p)).free.length:Int)=p.ins+1)∧
 ∀ v:Int,0≤v∧v<(Ai p (lifeP p)).free.length→stand (Ai p (lifeP p)) v=v∧fr (Ai p (lifeP p)) v=decide (due p v<0):=by
 have hl:=Av (lifeP p) p.ins.toNat;have hs:=Rl (lifeP p) p.ins.toNat;unfold Ai;by_cases hd:0≤(lifeP p).till[p.ins.toNat]?.getD default
 · rw [aE hd];have hl2:(Ly (Ab (lifeP p) p.ins.toNat) p.ins ((lifeP p).till[p.ins.toNat]?.getD default)).free.length=p.ins.toNat+1:=by
    show ((Ab (lifeP p) p.ins.toNat).free++[_]).length=_;rw [aB,hl];rfl
   rw [hl2];refine ⟨.inr ⟨by omega,hd⟩,fun _=>by omega,fun v hv=>?_⟩;have:=BO hl hs v sW;rw [aF,cW (by omega:0≤p.ins)] at this;exact this
 rw [aD hd,hl];refine ⟨.inl sW,fun h=>absurd h hd,fun v hv=>hs v sW⟩
theorem QK {p:PV} (hR:sY p=true):F8 p 0 (Ai p (lifeP p)):=by
 obtain ⟨f1,f2,f3,_⟩:=tB hR;obtain ⟨g1,g2,g3⟩:=Uo f1;have hz:=Un p;have hin:∀ v,xP p 0 v→0≤v∧v<(Ai p (lifeP p)).free.length:=fun v hv=>by
  have h1:=hv.1;have h2:=hv.2;by_cases e:v=p.ins
  · subst e;have:=g2 h2;omega
  rcases g1 with g1 | g1 <;> omega
 refine ⟨(Fx f1 _).1,fun v hv=>?_,fun v w hv hw e=>?_,fun r hr hf=>?_,?_⟩
 · rw [(g3 v (hin v hv)).1,(g3 v (hin v hv)).2];have:=hv.2;exact cD sW
 · rw [(g3 v (hin v hv)).1,(g3 w (hin w hw)).1] at e;exact e
 · have h1:=(g3 r hr).2;rw [hf] at h1;have h2:=mZ h1.symm;exact ⟨r,⟨⟨hr.1,by rcases g1 with g1 | g1 <;> omega⟩,by omega⟩,(g3 r hr).1⟩
 rcases g1 with g1 | ⟨g1,g4⟩
 · omega
 obtain ⟨r,hr,e⟩:=Ri hR (aN _) (v:=p.ins) sW g4;rw [Um hr] at e;omega
theorem Mc {p:PV} (hR:sY p=true) {k:Nat} (hk:k<p.code.length) (hn:Bq p k=true) :
 tX p (k+1)=⟨wY (Cl p k (tX p k).s) (uW p k),max (tX p k).regs ((least (Cl p k (tX p k).s).free:Int)+1),
  (tX p k).code++[⟨(yH p k).op,least (Cl p k (tX p k).s).free,stand (tX p k).s (Bu p k),if 1<(tM (yH p k)).length then stand (tX p k).s (Bv p k) else (yH p k).b,(yH p k).c⟩]⟩:=by
 obtain ⟨h1,h2,h3⟩:=QI hR hk hn;have e:tX p (k+1)=Ia (lifeP p) (tX p k) k (yH p k):=aE hn;rw [e];unfold Ia;simp only;rw [h1,h2,h3];rfl
theorem BP {p:PV} {k:Nat} (hn:¬Bq p k=true):tX p (k+1)=tX p k:=aD hn
theorem Fi {p:PV} (hR:sY p=true):∀ k,k≤p.code.length→F8 p k (tX p k).s∧(tX p k).regs=(tX p k).s.free.length
 | 0,_=>by
   refine ⟨QK hR,?_⟩;have:=(Fx (tB hR).1 (lifeP p)).2.1;show max p.ins ((Ai p (lifeP p)).free.length:Int)=((Ai p (lifeP p)).free.length:Int);omega
 | k+1,hk=>by
   obtain ⟨h1,h2⟩:=Fi hR k sW;by_cases hn:Bq p k=true
   · rw [Mc hR sW hn];refine ⟨VL hR sW hn h1,?_⟩;show max (tX p k).regs ((least (Cl p k (tX p k).s).free:Int)+1)=((wY (Cl p k (tX p k).s) (uW p k)).free.length:Int);have hle:=Ac (Cl p k (tX p k).s).free;have hl:=Rk p k (tX p k).s;rw [Ad,h2];split <;> omega
   rw [BP hn];refine ⟨⟨h1.ok,fun v hv=>h1.i1 v ((Fh hR sW hn).1 hv),fun v w hv hw=>h1.i2 v w ((Fh hR sW hn).1 hv) ((Fh hR sW hn).1 hw),fun r hr hf=>?_,h1.i5⟩,h2⟩;obtain ⟨v,hv,e⟩:=h1.i3 r hr hf;exact ⟨v,(Fh hR sW hn).2 hv,e⟩
theorem Fz {p:PV} (hR:sY p=true) {k:Nat}:∀ j,k≤j→j≤p.code.length→(tX p k).s.free.length≤(tX p j).s.free.length
 | 0,h,_=>by rw [rE.1 h];exact aI _
 | j+1,h,hj=>by
   by_cases e:k=j+1
   · rw [e];exact aI _
   have ih:=Fz hR j (by omega:k≤j) sW;by_cases hn:Bq p j=true
   · rw [Mc hR sW hn];show _≤(wY (Cl p j (tX p j).s) (uW p j)).free.length;rw [Ad,Rk];split <;> omega
   rw [BP hn];exact ih
theorem QL {i:Sl.Instr} {r r':Int} (h:tI i r=true) (hr:r≤r'):tI i r'=true:=by
 rw [tU] at h ⊢;obtain ⟨⟨h1,h2,h3,h4,h5,h6⟩,h7⟩:=h;refine ⟨⟨h1,h2,h3,by omega,h5,by omega⟩,?_⟩;by_cases h34:i.op=3∨i.op=4
 · rw [aE h34] at h7 ⊢;exact ⟨h7.1,by omega,h7.2.2⟩
 rw [aD h34] at h7 ⊢;exact h7
theorem QM {i:Sl.Instr} {regs R:Int} (h:tI i regs=true) {t a b:Int} (ht:0≤t∧t<R) (ha:0≤a∧a<R) (hb:0≤b∧b<R) :
 tI ⟨i.op,t,a,if 1<(tM i).length then b else i.b,i.c⟩ R=true:=by
 rw [tU] at h ⊢;obtain ⟨⟨h1,h2,h3,h4,h5,h6⟩,h7⟩:=h;refine ⟨⟨h1,h2,ht.1,ht.2,ha.1,ha.2⟩,?_⟩;by_cases h34:i.op=3∨i.op=4
 · rw [aE h34] at h7;rw [aE ((Ob i).2 h34)];exact (aE h34).symm▸⟨hb.1,hb.2,h7.2.2⟩
 rw [aD h34] at h7;rw [aD (fun e=>h34 ((Ob i).1 e))];exact (aD h34).symm▸h7
theorem Xc {p:PV} (hR:sY p=true):∀ k,k≤p.code.length→(∀ i∈(tX p k).code,tI i (tX p k).regs=true)∧(tX p k).code.length≤k
 | 0,_=>⟨fun i hi=>absurd hi (sQ),aI _⟩
 | k+1,hk=>by
   obtain ⟨h1,h2⟩:=Xc hR k sW;obtain ⟨o1,o2⟩:=Fi hR k sW;obtain ⟨p1,p2⟩:=Fi hR (k+1) hk;have hg:=Fz hR (k+1) (show k≤k+1 by omega) hk;have hle:=Ac (Cl p k (tX p k).s).free;have h2l:=Rk p k (tX p k).s;by_cases hn:Bq p k=true
   · have hm:=xO hR (show k<p.code.length by omega);have hA:=o1.ok.ab (Bu p k);have hB:=o1.ok.ab (Bv p k);have hreg:(tX p (k+1)).regs=max (tX p k).regs ((least (Cl p k (tX p k).s).free:Int)+1):=by rw [Mc hR sW hn]
     have hcode:(tX p (k+1)).code=(tX p k).code++[⟨(yH p k).op,least (Cl p k (tX p k).s).free,stand (tX p k).s (Bu p k),if 1<(tM (yH p k)).length then stand (tX p k).s (Bv p k) else (yH p k).b,(yH p k).c⟩]:=by rw [Mc hR sW hn]
     rw [hcode];refine ⟨fun i hi=>?_,by rw [aB];show _+1≤_;omega⟩;rcases gW.1 hi with h | h
     · exact QL (h1 i h) sW
     rw [eM.1 h];exact QM hm sW sW sW
   rw [BP hn];exact ⟨h1,by omega⟩
theorem My {p:PV} (hR:sY p=true):sY (tO p)=true:=by
 obtain ⟨f1,f2,f3,f4,f5,f6,f7,f8⟩:=tB hR;obtain ⟨o1,o2⟩:=Fi hR p.code.length (aI _);obtain ⟨c1,c2⟩:=Xc hR p.code.length (aI _);have hg:=Fz hR p.code.length (aN _) (aI _);have h0:=(Fx f1 (lifeP p)).2.1;have h0':p.ins≤(tX p 0).s.free.length:=h0;have h5:=o1.i5;have hol:=Rg p;have hlen:(tO p).outs.length=p.outs.length:=by show ((lifeP p).outs.map _).length=_;rw [aP];exact hol
 refine AZ ⟨f1,?_,?_,?_,by omega,by omega⟩ ?_ c1
 · show p.ins≤(tX p p.code.length).regs;omega
 · show (tX p p.code.length).regs≤128;omega
 · show (tX p p.code.length).code.length≤_;omega
 intro r hr;obtain ⟨v,_,rfl⟩:=dY.1 (show r∈(lifeP p).outs.map _ from hr);have:=o1.ok.ab v;show _∧_<(tX p p.code.length).regs;omega
def rowAt (rs:List (List Int)) (r:Int):List Int:=rs[r.toNat]?.getD []
structure Sem (p:PV) (gs:List (List Int)) (k:Nat) (rs qs:List (List Int)) (E:Int→List Int):Prop where
 run:wX p gs k=some rs
 pack:yU (tX p k).code (vN (tO p) gs)=some qs
 rl:(rs.length:Int)=p.regs
 ql:(qs.length:Int)=(tO p).regs
 old:∀ r:Int,0≤r∧r<p.regs→Ah p r k=true→rowAt rs r=E (uN p k r)
 new:∀ v,xP p k v→rowAt qs (stand (tX p k).s v)=E v
theorem Xd {l:List (List Int)} {k:Nat} {x:List Int} {r:Int} (hr:0≤r∧r<l.length):rowAt (l.set k x) r=if (k:Int)=r then x else rowAt l r:=Jf hr
theorem QN {p:PV} {gs:List (List Int)} (hR:sY p=true) (hg:(gs.length:Int)=p.ins) :
 Sem p gs 0 (vN p gs) (vN (tO p) gs) (fun v=>if v<gs.length then rowAt gs v else List.replicate (gs[0]?.getD []).length 0):=by
 obtain ⟨f1,f2,f3,_⟩:=tB hR;obtain ⟨g1,g2,g3⟩:=Uo f1;have hq:=(Fi hR p.code.length (aI _)).2;have hgr:=Fz hR p.code.length (aN _) (aI _);have hqr:(tO p).regs=(tX p p.code.length).regs:=rfl;have hz:=Un p;have row:∀ (q:PV) (r:Int),0≤r∧r<q.regs→rowAt (vN q gs) r=if r<gs.length then rowAt gs r else List.replicate (gs[0]?.getD []).length 0:=fun q r hr=>by
  unfold rowAt;rw [Er sW];by_cases h:r<gs.length
  · rw [aE h,aE (by omega)]
  rw [aD h,aD (by omega)]
 refine ⟨F9,F9,by rw [vY];omega,by rw [vY];omega,fun r hr _=>?_,fun v hv=>?_⟩
 · rw [row p r hr,Um hr];by_cases h:r<gs.length
   · rw [aE h];show _=if min r p.ins<_ then _ else _;rw [show min r p.ins=r by omega,aE h]
   rw [aD h];show _=if min r p.ins<_ then _ else _;rw [aD (by omega)]
 have h1:=hv.1;have h2:=hv.2;have hvf:v<(Ai p (lifeP p)).free.length:=by
  by_cases e:v=p.ins
  · subst e;have:=g2 h2;omega
  rcases g1 with g1 | g1 <;> omega
 have h3:=(g3 v ⟨h1.1,hvf⟩).1;have h3':stand (tX p 0).s v=v:=h3;have hf0:(tX p 0).s.free.length=(Ai p (lifeP p)).free.length:=rfl;rw [h3',row (tO p) v ⟨h1.1,by rw [hqr,hq];omega⟩]
theorem QO {i:Sl.Instr} {regs:Int} (hm:tI i regs=true) {rs qs:List (List Int)} {t a b:Int} (ha:rowAt qs a=rowAt rs i.a) (hb:1<(tM i).length→rowAt qs b=rowAt rs i.b) :
 xU ⟨i.op,t,a,if 1<(tM i).length then b else i.b,i.c⟩ qs=xU i rs:=by
 rw [Je,Je];show TL i.op i.c (rowAt qs a) (rowAt qs (if 1<(tM i).length then b else i.b))=TL i.op i.c (rowAt rs i.a) (rowAt rs i.b);rw [ha];by_cases h2:1<(tM i).length
 · rw [aE h2,hb h2]
 rw [aD h2];exact Vt (fun e=>h2 ((Ob i).2 e)) _ _ _ _
theorem QP {p:PV} {gs:List (List Int)} (hR:sY p=true) {k:Nat} (hk:k<p.code.length) {rs qs:List (List Int)} {E:Int→List Int} (h:Sem p gs k rs qs E) {y:List Int} (hd:xU (yH p k) rs=some y) :
 ∃ qs' E',Sem p gs (k+1) (rs.set (yH p k).to.toNat y) qs' E':=by
 have hm:=xO hR hk;obtain ⟨m1,m2,m3,m4,_⟩:=tY hm;have hcj:p.code[k]?.getD default=yH p k:=by unfold yH;rw [aF]
 have hstep:=fun r=>Mx p r hk;have hneed:=Mb hR hk;rw [hcj] at hstep;have hrun:wX p gs (k+1)=some (rs.set (yH p k).to.toNat y):=Dg (x:=[]) h.run hd;have hrl:((rs.set (yH p k).to.toNat y).length:Int)=p.regs:=by rw [aG];exact h.rl
 by_cases hn:Bq p k=true
 · obtain ⟨hA,hB⟩:=Uk hR hk hn;obtain ⟨o1,o2⟩:=Fi hR k sW;obtain ⟨p1,p2⟩:=Fi hR (k+1) sW;have hq:=(Fi hR p.code.length (aI _)).2;have hg0:=Fz hR p.code.length (show k≤p.code.length by omega) (aI _);have hg1:=Fz hR p.code.length (show k+1≤p.code.length by omega) (aI _);have hqr:(tO p).regs=(tX p p.code.length).s.free.length:=hq;have hle:=Ac (Cl p k (tX p k).s).free;have h2l:=Rk p k (tX p k).s;have hglen:=Ad (Cl p k (tX p k).s) (uW p k);have hs':(tX p (k+1)).s=wY (Cl p k (tX p k).s) (uW p k):=by rw [Mc hR hk hn]
   have hc':(tX p (k+1)).code=(tX p k).code++[⟨(yH p k).op,least (Cl p k (tX p k).s).free,stand (tX p k).s (Bu p k),if 1<(tM (yH p k)).length then stand (tX p k).s (Bv p k) else (yH p k).b,(yH p k).c⟩]:=by rw [Mc hR hk hn]
   have hst:∀ w,stand (tX p (k+1)).s w=if w=uW p k then (least (Cl p k (tX p k).s).free:Int) else stand (tX p k).s w:=fun w=>by rw [hs',Ib,BM]
   have hlR:(least (Cl p k (tX p k).s).free:Int)<(tO p).regs:=by
    rw [hqr];have:(least (Cl p k (tX p k).s).free)<(tX p (k+1)).s.free.length:=by rw [hs',hglen];split <;> omega
    omega
   have hold:∀ v,xP p k v→v≠uW p k:=fun v hv e=>by have:=hv.1.2;omega
   have asked:∀ r,r∈tM (yH p k)→Ah p r k=true:=fun r hr=>by
    rw [hstep r,←hneed,hn,bT hr];rfl
   have haM:(yH p k).a∈tM (yH p k):=by
    unfold tM;split
    · exact bF
    exact bF
   have eA:rowAt qs (stand (tX p k).s (Bu p k))=rowAt rs (yH p k).a:=by
    rw [h.new _ hA,h.old _ m3 (asked _ haM)];rfl
   have eB:1<(tM (yH p k)).length→rowAt qs (stand (tX p k).s (Bv p k))=rowAt rs (yH p k).b:=fun h2=>by
    have hbM:(yH p k).b∈tM (yH p k):=by
     unfold tM;rw [aE (Lw h2)];exact bA _ bF
    rw [h.new _ hB,h.old _ (m4 (Lw h2)) (asked _ hbM)];show E (Bv p k)=E _;congr 1;exact aE h2
   refine ⟨qs.set (least (Cl p k (tX p k).s).free) y,fun v=>if v=uW p k then y else E v,hrun,?_,hrl,by rw [aG];exact h.ql,fun r hr hf=>?_,fun v hv=>?_⟩
   · rw [hc',Ct,h.pack];show (xU _ qs).map _=_;rw [QO hm eA eB,hd];rfl
   · have hrow:rowAt (rs.set (yH p k).to.toNat y) r=if (((yH p k).to.toNat:Nat):Int)=r then y else rowAt rs r:=Xd (by rw [h.rl];exact hr);rw [hrow,cW m2.1,Ff hR hk hn hr];by_cases e:(yH p k).to=r
     · rw [aE e,aE e,aE rfl]
     rw [aD e,aD e];have hin:=Od hR (show k≤p.code.length by omega) hr;rw [aD (by omega)];refine h.old r hr ?_;rw [hstep r,hf,cD e];simp
   have hsb:=p1.ok.ab v;rw [Xd ⟨hsb.1,by rw [h.ql,hqr];omega⟩,hst];rcases (yO hR hk hn).1 hv with e | ⟨ha,hdv⟩
   · rw [aE e,aE rfl,aE e]
   have e:=hold v ha;rw [aD e,aD e];have hne:¬((least (Cl p k (tX p k).s).free:Int)=stand (tX p k).s v):=fun x=>by
    have h9:=p1.i2 v (uW p k) hv ((yO hR hk hn).2 (.inl F9)) (by rw [hst,hst,aD e,aE rfl];exact x.symm);exact e h9
   rw [aD hne];exact h.new v ha
 refine ⟨qs,E,hrun,by rw [BP hn];exact h.pack,hrl,h.ql,fun r hr hf=>?_,fun v hv=>?_⟩
 · have hne:¬(yH p k).to=r:=fun e=>by subst e;rw [←hneed] at hf;exact hn hf
   have hrow:rowAt (rs.set (yH p k).to.toNat y) r=if (((yH p k).to.toNat:Nat):Int)=r then y else rowAt rs r:=Xd (by rw [h.rl];exact hr);rw [hrow,cW m2.1,aD hne,Ww hn];refine h.old r hr ?_;rw [hstep r,hf,cD hne];simp
 rw [BP hn];exact h.new v ((Fh hR hk hn).1 hv)
theorem GX {p:PV} {gs:List (List Int)} (hR:sY p=true) (hg:(gs.length:Int)=p.ins) {rn:List (List Int)} (hr:wX p gs p.code.length=some rn):∀ k,k≤p.code.length→∃ rs qs E,Sem p gs k rs qs E
 | 0,_=>⟨_,_,_,QN hR hg⟩
 | k+1,hk=>by
   obtain ⟨rs,qs,E,h⟩:=GX hR hg hr k sW;cases hd:xU (yH p k) rs with
   | none =>
     have h1:wX p gs (k+1)=none:=by
      unfold wX;rw [h.run];simp only [eZ];show (xU (yH p k) rs).map _=none;rw [hd];rfl
     have h2:=Hh h1 (p.code.length - (k+1));rw [show k+1+(p.code.length - (k+1))=p.code.length by omega,hr] at h2;cases h2
   | some y =>
     obtain ⟨qs',E',h'⟩:=QP hR sW h hd;exact ⟨_,_,_,h'⟩
theorem Ic (p:PV):∀ j,j≤p.outs.length→(wJ p j).outs=(p.outs.take j).map (uN p p.code.length)
 | 0,_=>by rw [bQ];exact Aa p _
 | j+1,hj=>by
   show (wJ p j).outs++[(wJ p j).held[_]?.getD default]=_;rw [Ic p j sW,Fg,nM (by omega:j<p.outs.length),iG,aF,aA (by omega:j<p.outs.length)];rfl
theorem Kh {p:PV} {gs os:List (List Int)} (hR:sY p=true) (hg:(gs.length:Int)=p.ins) (h:tJ p gs=some os):tJ (tO p) gs=some os:=by
 obtain ⟨f1,f2,f3,f4,f5,f6,f7,f8⟩:=tB hR;unfold tJ at h;obtain ⟨rn,h1,h2⟩:=jO.1 h;obtain ⟨rs,qs,E,hs⟩:=GX hR hg h1 p.code.length (aI _);have e:rs=rn:=by have:=hs.run;rw [h1] at this;exact (kB this).symm
 subst e;have hp:wX (tO p) gs (tO p).code.length=some qs:=by
  rw [zK _ _ _ (aI _),bD];exact hs.pack
 unfold tJ;rw [hp,←h2];show some (xI (tO p) qs)=some (xI p rs);congr 1;have ho:(lifeP p).outs=p.outs.map (uN p p.code.length):=by
  unfold lifeP;rw [Ic p _ (aI _),bD]
 show ((lifeP p).outs.map (stand (tX p p.code.length).s)).map _=p.outs.map _;rw [ho,qN,qN];refine jL fun r hr=>?_;have hin:=f7 r hr;obtain ⟨i,hi,hri⟩:=gF.1 hr;have hdue:=GS hR hi;rw [aF,aA hi,eH,hri] at hdue;have hal:xP p p.code.length (uN p p.code.length r):=⟨Od hR (aI _) hin,by omega⟩
 have hf:Ah p r p.code.length=true:=by rw [Qt p r (aI _)];exact bT hr
 show rowAt qs (stand (tX p p.code.length).s (uN p p.code.length r))=rowAt rs r;rw [hs.new _ hal,hs.old r hin hf]
end Go.Proofs.YtkdelpdbjfpgmaaGreatDoor
